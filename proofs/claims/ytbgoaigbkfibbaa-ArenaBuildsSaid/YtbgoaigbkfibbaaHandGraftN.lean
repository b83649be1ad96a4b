/- A builder: a tree that may not be is not put in; a root that is not there has no tree. -/
import Derived.Test.YtbgoaigbkfibbaaHandBo
import Derived.Test.YtbgoaigbkfibbaaHandClone
import Derived.Test.YtbgoaigbkfibbaaHandSame
import Derived.Test.YtbgoaigbkfibbaaPAx0
import Derived.Test.YtbgoaigbkfibbaaPAx5
import Derived.Test.YtbgoaigbkfibbaaHandTree
set_option linter.unusedSimpArgs false
set_option linter.unusedVariables false
namespace Go.Proofs.Ytbgoaigbkfibbaa.HandGraftN
open Go.RowKit Go.Proofs.YtbgoaigbkfibbaaW.PrintWords Go.Proofs.YtbgoaigbkfibbaaW.PrintLast Go.Proofs.YtbgoaigbkfibbaaW.PrintMore Go.Proofs.Ytbgoaigbkfibbaa.PA Go.Proofs.Ytbgoaigbkfibbaa.HandRight Go.Proofs.Ytbgoaigbkfibbaa.HandBl Go.Proofs.Ytbgoaigbkfibbaa.HandBm Go.Proofs.Ytbgoaigbkfibbaa.HandBo Go.Proofs.Ytbgoaigbkfibbaa.HandClone Go.Proofs.Ytbgoaigbkfibbaa.PfT
open Go.Proofs.Ytbgoaigbkfibbaa.HandSame (cells25 two_boxes)
open Go.Proofs.Ytbgoaigbkfibbaa.HandAt (N41 n_cells)
theorem eqP (w : World) (p : Option Addr) : (binOp .eql 35 (.pointer p) (.pointer none)).run Try.prog w = .ok (.bool p.isNone) w := run_eql_pointer_nil w 35 p (by kernel_rfl)
attribute [local go_sem high] eqP
set_option maxRecDepth 100000 in
set_option maxHeartbeats 4000000 in
theorem graft_not (w0 : World) (g : Nat) (u v : Value) (ns : List S41) (ss : List (List S55)) (A0 : Option Addr) (c0 : Nat) (la : List S41) (A1 : Option Addr) (c1 : Nat) (sa : List (List S55)) (root : Int) (W : World) (h : BAt w0 g u v ns ss W)
  (hq0 : Kd.C k41 w0 A0 la.length la) (hc0 : la.length ≤ c0) (hq1 : Kd.C (Kd.slice 55 k55) w0 A1 sa.length sa) (hc1 : sa.length ≤ c1) (k : Nat) (hck : arena_Check.f k la sa root = some 3) :
  Calls Try.prog 24 #[.pointer (some ⟨g, 0, none⟩), .agg #[.slice A0 la.length c0, .slice A1 sa.length c1, .int .i64 root]] W fun e W' => e = .returned (.int .i64 (-1)) ∧ BRes w0 g u v ns ss W W' := by
 obtain ⟨U, cu, eu, _, _⟩ := Kd.R_reads h.n
 obtain ⟨V, cv, ev, _, _⟩ := Kd.R_reads h.s
 have H0 := Aside0.mk h
 have hb1 : Below W.heap.size W (W.alloc (.cells #[.slice A0 la.length c0, .slice A1 sa.length c1, .int .i64 root] 25 (0, 0))) := below_alloc (Below.refl _ _) _
 have H1 := Aside0.mk (h.under hb1)
 have HB1 := Aside0.mk hb1
 have HBX := Aside0.mk (blk_new W (.cells #[.slice A0 la.length c0, .slice A1 sa.length c1, .int .i64 root] 25 (0, 0)))
 obtain ⟨hx0, hx1, hx2⟩ := cells25 HBX.out
 have hg0 := H1.out.c0
 have hg1 := H1.out.c1
 rw [eu] at hg0
 rw [ev] at hg1
 have HEU := Aside0.mk eu
 have HEV := Aside0.mk ev
 have HQ00 := Aside0.mk hq0
 have HQ10 := Aside0.mk hq1
 have HQ0 := Aside0.mk (Kd.C_drew (Kd.C_below hq0 H1.out.below))
 have HQ1 := Aside0.mk (Kd.C_drew (Kd.C_below hq1 H1.out.below))
 have HC := Aside0.mk (And.intro hc0 hc1)
 have HCK := Aside0.mk hck
 clear h hb1 hq0 hq1 hc0 hc1 hck eu ev
 go_enter Try.func24, Try.ntmps24
 go_wp2_with fail
 refine start_ (n := 31) (S := fun w' => w'.cell? ⟨W.heap.size, 0, none⟩ = some (.slice A0 la.length c0) ∧ w'.cell? ⟨W.heap.size, 1, none⟩ = some (.slice A1 sa.length c1) ∧ w'.cell? ⟨W.heap.size, 2, none⟩ = some (.int .i64 root) ∧ w'.cell? ⟨g, 0, none⟩ = some (.slice U ns.length cu) ∧ w'.cell? ⟨g, 1, none⟩ = some (.slice V ss.length cv)) (ds := []) #[false, false, false, false, false, false, false, false, false, false, false, false, false, false, false, false, false, false, false, false, false, false, false, false, false, false, false, false, false, false, false] (by kernel_rfl) rfl rfl ⟨hx0, hx1, hx2, hg0, hg1⟩ (fun hHeld => ?_)
 refine pq_ (i := 0) (n := 11) (bA 31 1) (by kernel_rfl) ?_
 refine pq_ (i := 1) (n := 12) (bA 31 3) (by kernel_rfl) ?_
 refine pq_ (i := 2) (n := 13) (bA 31 7) (by kernel_rfl) ?_
 refine take_ (i := 3) (N := some 14) (v := ?_) (a' := ?_) (bA 31 15) rfl rfl (by kernel_rfl) (fun _ _ _ h => h) (Or.inl ⟨by rfl, ?_⟩) hHeld ?_ ?_
 rotate_left
 ·rintro w' ⟨s0, s1, s2, s3, s4⟩
  go_simp
  with_reducible rfl
 rotate_left
 ·exact nrm_
 refine one_ (i := 4) (N := some 15) (bA 31 31) rfl rfl (by kernel_rfl) (by decide) (fun K hK => ?_)
 refine goes_ Try.func9 (by kernel_rfl) rfl #[.agg #[.slice A0 la.length c0, .slice A1 sa.length c1, .int .i64 root]] (by rfl) rfl rfl (by simp only [List.map_toArray, List.map_cons, List.map_nil]; rfl) ?_
 with_reducible refine (arena_Check.calls k A0 c0 la A1 c1 sa root 3 _ HQ0.out HC.out.1 HQ1.out HC.out.2 HCK.out).mono ?_
 rintro e w4 ⟨rfl, hb⟩
 refine ⟨_, rfl, ?_⟩
 have H4 := Aside0.mk (H1.out.under (below_then (below_drew1 (Below.refl _ _)) (by simp) hb))
 have HX4 := Aside0.mk (blk_below (blk_drew HBX.out) hb)
 have HB4 : Aside0 (Below W.heap.size W w4) := ⟨below_then (below_drew1 HB1.out) (below_drew1 HB1.out).size hb⟩
 obtain ⟨hx0', hx1', hx2'⟩ := cells25 HX4.out
 have hg0' := H4.out.c0
 have hg1' := H4.out.c1
 rw [HEU.out] at hg0'
 rw [HEV.out] at hg1'
 clear hb
 refine hK.out _ _ ⟨hx0', hx1', hx2', hg0', hg1'⟩ (fun hHeld => ?_)
 clear hK K
 refine norm_ (a' := ?_) ?_ ?_
 rotate_left
 ·show Act.put _ (some 15) _ = _
  exact nrm_
 refine pq_ (i := 5) (n := 16) (bA 31 63) (by kernel_rfl) ?_
 refine pq_ (i := 6) (n := 17) (bA 31 127) (by kernel_rfl) ?_
 refine pq_ (i := 7) (n := 18) (bA 31 255) (by kernel_rfl) ?_
 refine pure_ (i := 8) (N := some 19) (v := undef) (a' := ?_) (bA 31 511) rfl rfl (by kernel_rfl) (fun _ _ _ h => h) (Or.inr ⟨by rfl, rfl⟩) ?_ ?_
 rotate_left
 ·exact nrm_
 refine pure_ (i := 9) (N := some 20) (v := undef) (a' := ?_) (bA 31 1023) rfl rfl (by kernel_rfl) (fun _ _ _ h => h) (Or.inr ⟨by rfl, rfl⟩) ?_ ?_
 rotate_left
 ·exact nrm_
 refine pure_ (i := 10) (N := some 21) (v := undef) (a' := ?_) (bA 31 2047) rfl rfl (by kernel_rfl) (fun _ _ _ h => h) (Or.inr ⟨by rfl, rfl⟩) ?_ ?_
 rotate_left
 ·exact nrm_
 refine pure_ (i := 11) (N := some 22) (v := undef) (a' := ?_) (bA 31 4095) rfl rfl (by kernel_rfl) (fun _ _ _ h => h) (Or.inr ⟨by rfl, rfl⟩) ?_ ?_
 rotate_left
 ·exact nrm_
 refine pure_ (i := 12) (N := some 23) (v := undef) (a' := ?_) (bA 31 8191) rfl rfl (by kernel_rfl) (fun _ _ _ h => h) (Or.inr ⟨by rfl, rfl⟩) ?_ ?_
 rotate_left
 ·exact nrm_
 refine pure_ (i := 13) (N := some 24) (v := undef) (a' := ?_) (bA 31 16383) rfl rfl (by kernel_rfl) (fun _ _ _ h => h) (Or.inr ⟨by rfl, rfl⟩) ?_ ?_
 rotate_left
 ·exact nrm_
 refine pure_ (i := 14) (N := some 25) (v := undef) (a' := ?_) (bA 31 32767) rfl rfl (by kernel_rfl) (fun _ _ _ h => h) (Or.inr ⟨by rfl, rfl⟩) ?_ ?_
 rotate_left
 ·exact nrm_
 refine pure_ (i := 15) (N := some 26) (v := undef) (a' := ?_) (bA 31 65535) rfl rfl (by kernel_rfl) (fun _ _ _ h => h) (Or.inr ⟨by rfl, rfl⟩) ?_ ?_
 rotate_left
 ·exact nrm_
 refine pure_ (i := 16) (N := some 27) (v := undef) (a' := ?_) (bA 31 131071) rfl rfl (by kernel_rfl) (fun _ _ _ h => h) (Or.inr ⟨by rfl, rfl⟩) ?_ ?_
 rotate_left
 ·exact nrm_
 refine pure_ (i := 17) (N := some 28) (v := undef) (a' := ?_) (bA 31 262143) rfl rfl (by kernel_rfl) (fun _ _ _ h => h) (Or.inr ⟨by rfl, rfl⟩) ?_ ?_
 rotate_left
 ·exact nrm_
 refine pq_ (i := 18) (n := 29) (bA 31 524287) (by kernel_rfl) ?_
 refine pq_ (i := 19) (n := 30) (bA 31 1048575) (by kernel_rfl) ?_
 refine pure_ (i := 20) (N := some 31) (v := undef) (a' := ?_) (bA 31 2097151) rfl rfl (by kernel_rfl) (fun _ _ _ h => h) (Or.inr ⟨by rfl, rfl⟩) ?_ ?_
 rotate_left
 ·exact nrm_
 refine pure_ (i := 21) (N := some 32) (v := undef) (a' := ?_) (bA 31 4194303) rfl rfl (by kernel_rfl) (fun _ _ _ h => h) (Or.inr ⟨by rfl, rfl⟩) ?_ ?_
 rotate_left
 ·exact nrm_
 refine pure_ (i := 22) (N := some 33) (v := undef) (a' := ?_) (bA 31 8388607) rfl rfl (by kernel_rfl) (fun _ _ _ h => h) (Or.inr ⟨by rfl, rfl⟩) ?_ ?_
 rotate_left
 ·exact nrm_
 refine pure_ (i := 23) (N := some 34) (v := undef) (a' := ?_) (bA 31 16777215) rfl rfl (by kernel_rfl) (fun _ _ _ h => h) (Or.inr ⟨by rfl, rfl⟩) ?_ ?_
 rotate_left
 ·exact nrm_
 refine pure_ (i := 24) (N := some 35) (v := undef) (a' := ?_) (bA 31 33554431) rfl rfl (by kernel_rfl) (fun _ _ _ h => h) (Or.inr ⟨by rfl, rfl⟩) ?_ ?_
 rotate_left
 ·exact nrm_
 refine pure_ (i := 25) (N := some 36) (v := undef) (a' := ?_) (bA 31 67108863) rfl rfl (by kernel_rfl) (fun _ _ _ h => h) (Or.inr ⟨by rfl, rfl⟩) ?_ ?_
 rotate_left
 ·exact nrm_
 refine pure_ (i := 26) (N := some 37) (v := undef) (a' := ?_) (bA 31 134217727) rfl rfl (by kernel_rfl) (fun _ _ _ h => h) (Or.inr ⟨by rfl, rfl⟩) ?_ ?_
 rotate_left
 ·exact nrm_
 refine pure_ (i := 27) (N := some 38) (v := undef) (a' := ?_) (bA 31 268435455) rfl rfl (by kernel_rfl) (fun _ _ _ h => h) (Or.inr ⟨by rfl, rfl⟩) ?_ ?_
 rotate_left
 ·exact nrm_
 refine pure_ (i := 28) (N := some 39) (v := undef) (a' := ?_) (bA 31 536870911) rfl rfl (by kernel_rfl) (fun _ _ _ h => h) (Or.inr ⟨by rfl, rfl⟩) ?_ ?_
 rotate_left
 ·exact nrm_
 refine pure_ (i := 29) (N := some 40) (v := undef) (a' := ?_) (bA 31 1073741823) rfl rfl (by kernel_rfl) (fun _ _ _ h => h) (Or.inr ⟨by rfl, rfl⟩) ?_ ?_
 rotate_left
 ·exact nrm_
 refine pq_ (i := 30) (n := 41) (bA 31 2147483647) (by kernel_rfl) ?_
 refine done_ (by kernel_rfl) ?_
 have HF := Aside0.mk (BRes.same H0.out HB4.out)
 go_wp2_with fail
 go_ret
 exact ⟨rfl, HF.out⟩
set_option maxRecDepth 100000 in
set_option maxHeartbeats 2000000 in
theorem tree_not (w0 : World) (g : Nat) (u v : Value) (ns : List S41) (ss : List (List S55)) (root : Int) (W : World) (h : BAt w0 g u v ns ss W) (hb : thereB ns.length [root] = false) :
  Calls Try.prog 25 #[.pointer (some ⟨g, 0, none⟩), .int .i64 root] W fun e W' => e = .returned (.tuple #[.agg #[.slice none 0 0, .slice none 0 0, .int .i64 0], .int .i64 10]) ∧ Below W.heap.size W W' := by
 have h1 : ((W.alloc (.cells #[.slice none 0 0, .slice none 0 0, .int .i64 0] 25)).alloc (.cells #[.int .i64 root] 3)).heap[W.heap.size]? = some (.cells #[.slice none 0 0, .slice none 0 0, .int .i64 0] 25 (0, 0)) := blk_alloc (blk_new W _) _
 have hbel : Below W.heap.size W ((W.alloc (.cells #[.slice none 0 0, .slice none 0 0, .int .i64 0] 25 (0, 0))).alloc (.cells #[.int .i64 root] 3)) := below_alloc (below_alloc (Below.refl _ _) _) _
 have H2 := Aside0.mk (h.under hbel)
 have HR := Aside0.mk hb
 have hli := lit_int (W.alloc (.cells #[.slice none 0 0, .slice none 0 0, .int .i64 0] 25 (0, 0))) root
 rw [show (W.alloc (.cells #[.slice none 0 0, .slice none 0 0, .int .i64 0] 25 (0, 0))).heap.size = W.heap.size + 1 by simp] at hli
 have HLI := Aside0.mk hli
 have HBE := Aside0.mk hbel
 have H1 := Aside0.mk h1
 have hz0 : ((W.alloc (.cells #[.slice none 0 0, .slice none 0 0, .int .i64 0] 25)).alloc (.cells #[.int .i64 root] 3)).cell? ⟨W.heap.size, 0, none⟩ = some (.slice none 0 0) := (blk_cell h1 0).trans rfl
 have hz1 : ((W.alloc (.cells #[.slice none 0 0, .slice none 0 0, .int .i64 0] 25)).alloc (.cells #[.int .i64 root] 3)).cell? ⟨W.heap.size, 1, none⟩ = some (.slice none 0 0) := (blk_cell h1 1).trans rfl
 have hz2 : ((W.alloc (.cells #[.slice none 0 0, .slice none 0 0, .int .i64 0] 25)).alloc (.cells #[.int .i64 root] 3)).cell? ⟨W.heap.size, 2, none⟩ = some (.int .i64 0) := (blk_cell h1 2).trans rfl
 have hf0 := blk_frozen h1 0
 have hf1 := blk_frozen h1 1
 have hf2 := blk_frozen h1 2
 clear h hb hli hbel h1
 go_enter Try.func25, Try.ntmps25
 go_wp2_with (go_at_call 43; (refine (there_calls w0 g _ _ ns ss _ H2.out _ _ [root] HLI.out (by show 1 < 2 ^ 31; decide) false HR.out).mono ?_); rintro e w4 ⟨rfl, rfl⟩)
 refine bodyPost_ret (results_list (rs := [.cell 4 25, .tmp 5]) rfl (by simp) (.cell W.heap.size 25 #[.slice none 0 0, .slice none 0 0, .int .i64 0] (0, 0) _ rfl H1.out Try.underlying25 rfl (by kernel_rfl) (.tmp .nil))) rfl ⟨rfl, HBE.out⟩
end Go.Proofs.Ytbgoaigbkfibbaa.HandGraftN

/- A builder: a tree is put in. Conditions: the tree may be, bounds on lengths. -/
import Derived.Test.YtbgoaigbkfibbaaHandBo
import Derived.Test.YtbgoaigbkfibbaaHandClone
import Derived.Test.YtbgoaigbkfibbaaHandSame
import Derived.Test.YtbgoaigbkfibbaaPAx0
import Derived.Test.YtbgoaigbkfibbaaPAx5
import Derived.Test.YtbgoaigbkfibbaaPAx8
set_option linter.unusedSimpArgs false
set_option linter.unusedVariables false
namespace Go.Proofs.Ytbgoaigbkfibbaa.HandGraft
open Go.RowKit Go.Proofs.YtbgoaigbkfibbaaW.PrintWords Go.Proofs.YtbgoaigbkfibbaaW.PrintLast Go.Proofs.YtbgoaigbkfibbaaW.PrintMore Go.Proofs.Ytbgoaigbkfibbaa.PA Go.Proofs.Ytbgoaigbkfibbaa.HandRight Go.Proofs.Ytbgoaigbkfibbaa.HandBl Go.Proofs.Ytbgoaigbkfibbaa.HandBm Go.Proofs.Ytbgoaigbkfibbaa.HandBo Go.Proofs.Ytbgoaigbkfibbaa.HandClone Go.Proofs.Ytbgoaigbkfibbaa.PfT
open Go.Proofs.Ytbgoaigbkfibbaa.HandSame (cells25 two_boxes)
open Go.Proofs.Ytbgoaigbkfibbaa.HandAt (N41 n_cells)
/-- A node behind so many nodes and sets. -/
def shiftN (N M : Int) (n : S41) : S41 :=
 if n.f0 = 2 then ⟨n.f0, n.f1, n.f2, n.f3, n.f4, n.f5 + M⟩ else if n.f0 = 3 ∨ n.f0 = 4 then ⟨n.f0, n.f1 + N, n.f2 + N, n.f3, n.f4, n.f5⟩ else if n.f0 = 5 then ⟨n.f0, n.f1 + N, n.f2, n.f3, n.f4, n.f5⟩ else n
theorem shift_f (n : S41) (i m N M : Int) (h : rightN n i m = true) (hi : i ≤ 4096) (hm : m ≤ 4096) (hN : 0 ≤ N ∧ N ≤ 4096) (hM : 0 ≤ M ∧ M ≤ 4096) : arena_shift.f 2 n.f0 n.f1 n.f2 n.f3 n.f4 n.f5 N M = some ((shiftN N M n).f0, (shiftN N M n).f1, (shiftN N M n).f2, (shiftN N M n).f3, (shiftN N M n).f4, (shiftN N M n).f5) := by
 unfold arena_shift.f shiftN
 by_cases c2 : n.f0 = 2
 ·have hb := right_2 h c2
  rw [if_pos c2, if_pos c2, wn _ (by omega) (by omega)]
 ·rw [if_neg c2, if_neg c2]
  have key : ∀ b : Bool, b = decide (n.f0 = 3 ∨ n.f0 = 4) → arena_shift.j0 2 N n.f0 b n.f0 n.f1 n.f2 n.f3 n.f4 n.f5 = some ((if n.f0 = 3 ∨ n.f0 = 4 then (⟨n.f0, n.f1 + N, n.f2 + N, n.f3, n.f4, n.f5⟩ : S41) else if n.f0 = 5 then ⟨n.f0, n.f1 + N, n.f2, n.f3, n.f4, n.f5⟩ else n).f0, (if n.f0 = 3 ∨ n.f0 = 4 then (⟨n.f0, n.f1 + N, n.f2 + N, n.f3, n.f4, n.f5⟩ : S41) else if n.f0 = 5 then ⟨n.f0, n.f1 + N, n.f2, n.f3, n.f4, n.f5⟩ else n).f1, (if n.f0 = 3 ∨ n.f0 = 4 then (⟨n.f0, n.f1 + N, n.f2 + N, n.f3, n.f4, n.f5⟩ : S41) else if n.f0 = 5 then ⟨n.f0, n.f1 + N, n.f2, n.f3, n.f4, n.f5⟩ else n).f2, (if n.f0 = 3 ∨ n.f0 = 4 then (⟨n.f0, n.f1 + N, n.f2 + N, n.f3, n.f4, n.f5⟩ : S41) else if n.f0 = 5 then ⟨n.f0, n.f1 + N, n.f2, n.f3, n.f4, n.f5⟩ else n).f3, (if n.f0 = 3 ∨ n.f0 = 4 then (⟨n.f0, n.f1 + N, n.f2 + N, n.f3, n.f4, n.f5⟩ : S41) else if n.f0 = 5 then ⟨n.f0, n.f1 + N, n.f2, n.f3, n.f4, n.f5⟩ else n).f4, (if n.f0 = 3 ∨ n.f0 = 4 then (⟨n.f0, n.f1 + N, n.f2 + N, n.f3, n.f4, n.f5⟩ : S41) else if n.f0 = 5 then ⟨n.f0, n.f1 + N, n.f2, n.f3, n.f4, n.f5⟩ else n).f5) := by
   intro b hb
   rw [arena_shift.j0]
   by_cases c3 : n.f0 = 3 ∨ n.f0 = 4
   ·have hx := right_34 h c3
    rw [hb, decide_eq_true c3, if_pos rfl, if_pos c3, wn _ (by omega) (by omega), wn _ (by omega) (by omega)]
   ·rw [hb, decide_eq_false c3, if_neg (by decide), if_neg c3]
    by_cases c5 : n.f0 = 5
    ·have hx := right_5 h c5
     rw [if_pos c5, if_pos c5, wn _ (by omega) (by omega)]
    ·rw [if_neg c5, if_neg c5]
  by_cases c3 : n.f0 = 3
  ·rw [if_pos c3]
   exact key _ (by simp [c3])
  ·rw [if_neg c3]
   exact key _ (by simp [c3]; rfl)
theorem BRes.trans {w0 : World} {g : Nat} {u v u1 v1 : Value} {ns : List S41} {ss : List (List S55)} {W w w' : World} (hk : Kept W w (BK g u v)) (hu : ∀ k, some k = u1.ownBlock → some k = u.ownBlock ∨ W.heap.size ≤ k) (hv : ∀ k, some k = v1.ownBlock → some k = v.ownBlock ∨ W.heap.size ≤ k)
  (h : BRes w0 g u1 v1 ns ss w w') : BRes w0 g u v ns ss W w' := by
 obtain ⟨u', v', h1, h2, h3, h4⟩ := h
 refine ⟨u', v', h1, hk.then_ h2 ?_, ?_, ?_⟩
 ·rintro k (q | q | q)
  ·exact .inl (.inl q)
  ·exact (hu k q).imp (fun z => .inr (.inl z)) id
  ·exact (hv k q).imp (fun z => .inr (.inr z)) id
 ·intro k q
  rcases h3 k q with q | q
  ·exact hu k q
  ·exact .inr (Nat.le_trans hk.1 q)
 ·intro k q
  rcases h4 k q with q | q
  ·exact hv k q
  ·exact .inr (Nat.le_trans hk.1 q)
theorem kept_put' {W w6 w9 : World} {g j : Nat} {u : Value} {row : Option Nat} (h1 : Below W.heap.size W w6) (hg : w6.grownBy w9 row) : Kept W (w9.setCell ⟨g, j, none⟩ u) (fun k => k = g ∨ some k = row) := by
 refine ⟨?_, fun i hi hn => ?_⟩
 ·have := h1.size
  have h2 : w6.heap.size ≤ w9.heap.size := hg.size
  have h3 : (w9.setCell ⟨g, j, none⟩ u).heap.size = w9.heap.size := by simp
  omega
 ·have hs := h1.size
  rw [Below.heap_setCell w9 ⟨g, j, none⟩ u i (fun e => hn (.inl e)), hg.block i (by omega) (fun e => hn (.inr e))]
  exact h1.block i hi
theorem own_new {w w6 : World} {a b : Value} (hs : w.heap.size ≤ w6.heap.size) (hat : b.ownBlock = a.ownBlock ∨ ∃ k, b.ownBlock = some k ∧ w6.heap.size ≤ k) : ∀ k, some k = b.ownBlock → some k = a.ownBlock ∨ w.heap.size ≤ k := by
 intro k hk
 rcases hat with h1 | ⟨c, h1, h2⟩
 ·exact .inl (hk.trans h1)
 ·right
  rw [h1] at hk
  injection hk with hk
  omega
theorem map_take_snoc (la : List S41) (f : S41 → S41) (j : Nat) (h : j < la.length) : (la.take j).map f ++ [f (rd_T41 la (j : Int))] = (la.take (j + 1)).map f := by
 rw [List.take_add_one, List.map_append]
 congr 1
 simp [rd_T41, List.getD_eq_getElem?_getD, h]
theorem take_snoc (ss : List (List S55)) (j : Nat) (h : j < ss.length) : ss.take j ++ [rd_L3 ss (j : Int)] = ss.take (j + 1) := by
 rw [List.take_add_one]
 congr 1
 simp [rd_L3, List.getD_eq_getElem?_getD, h]
theorem eqP (w : World) (p : Option Addr) : (binOp .eql 35 (.pointer p) (.pointer none)).run Try.prog w = .ok (.bool p.isNone) w := run_eql_pointer_nil w 35 p (by kernel_rfl)
attribute [local go_sem high] eqP
set_option maxRecDepth 100000 in
set_option maxHeartbeats 4000000 in
theorem graft_calls (w0 : World) (g : Nat) (u v : Value) (ns : List S41) (ss : List (List S55)) (A0 : Option Addr) (c0 : Nat) (la : List S41) (A1 : Option Addr) (c1 : Nat) (sa : List (List S55)) (root : Int) (W : World) (h : BAt w0 g u v ns ss W)
  (hq0 : Kd.C k41 w0 A0 la.length la) (hc0 : la.length ≤ c0) (hq1 : Kd.C (Kd.slice 55 k55) w0 A1 sa.length sa) (hc1 : sa.length ≤ c1) (k : Nat) (hck : arena_Check.f k la sa root = some 0) (hr : RightT la sa.length) (r0 : 0 ≤ root) (r1 : root < (la.length : Int)) (hl : la.length ≤ 60) (hs : sa.length ≤ 60) (hss : ∀ x, x ∈ sa → x.length ≤ 1000000)
  (hn : ns.length + la.length ≤ 4096) (hm : ss.length + sa.length ≤ 4096) :
  Calls Try.prog 24 #[.pointer (some ⟨g, 0, none⟩), .agg #[.slice A0 la.length c0, .slice A1 sa.length c1, .int .i64 root]] W fun e W' => e = .returned (.int .i64 ((ns.length : Int) + root)) ∧ BRes w0 g u v (ns ++ la.map (shiftN (ns.length : Int) (ss.length : Int))) (ss ++ sa) W W' := by
 obtain ⟨U, cu, eu, _, _⟩ := Kd.R_reads h.n
 obtain ⟨V, cv, ev, _, _⟩ := Kd.R_reads h.s
 have H0 := Aside0.mk h
 have hb1 : Below W.heap.size W (W.alloc (.cells #[.slice A0 la.length c0, .slice A1 sa.length c1, .int .i64 root] 25 (0, 0))) := below_alloc (Below.refl _ _) _
 have H1 := Aside0.mk (h.under hb1)
 have HB1 := Aside0.mk hb1
 have HBX := Aside0.mk (blk_new W (.cells #[.slice A0 la.length c0, .slice A1 sa.length c1, .int .i64 root] 25 (0, 0)))
 obtain ⟨hx0, hx1, hx2⟩ := cells25 HBX.out
 have hg0 := H1.out.c0
 have hg1 := H1.out.c1
 rw [eu] at hg0
 rw [ev] at hg1
 have HEU := Aside0.mk eu
 have HEV := Aside0.mk ev
 have HQ00 := Aside0.mk hq0
 have HQ10 := Aside0.mk hq1
 have HQ0 := Aside0.mk (Kd.C_drew (Kd.C_below hq0 H1.out.below))
 have HQ1 := Aside0.mk (Kd.C_drew (Kd.C_below hq1 H1.out.below))
 have HC := Aside0.mk (And.intro hc0 hc1)
 have HCK := Aside0.mk hck
 have HR := Aside0.mk hr
 have HRT := Aside0.mk (And.intro r0 r1)
 have HL := Aside0.mk (And.intro hl hs)
 have HSS := Aside0.mk hss
 have HNM := Aside0.mk (And.intro hn hm)
 have b1 : decide ((la.length : Int) > wrap64 (4096 - (ns.length : Int))) = false := decide_eq_false (by unfold wrap64; omega)
 have b2 : decide ((sa.length : Int) > wrap64 (4096 - (ss.length : Int))) = false := decide_eq_false (by unfold wrap64; omega)
 have b1' : decide (wrap64 (4096 - (ns.length : Int)) < (la.length : Int)) = false := decide_eq_false (by unfold wrap64; omega)
 have b2' : decide (wrap64 (4096 - (ss.length : Int)) < (sa.length : Int)) = false := decide_eq_false (by unfold wrap64; omega)
 clear h hb1 hq0 hq1 hc0 hc1 hck hr r0 r1 hl hs hss hn hm eu ev
 go_enter Try.func24, Try.ntmps24
 go_wp2_with fail
 refine start_ (n := 31) (S := fun w' => w'.cell? ⟨W.heap.size, 0, none⟩ = some (.slice A0 la.length c0) ∧ w'.cell? ⟨W.heap.size, 1, none⟩ = some (.slice A1 sa.length c1) ∧ w'.cell? ⟨W.heap.size, 2, none⟩ = some (.int .i64 root) ∧ w'.cell? ⟨g, 0, none⟩ = some (.slice U ns.length cu) ∧ w'.cell? ⟨g, 1, none⟩ = some (.slice V ss.length cv)) (ds := []) #[false, false, false, false, false, false, false, false, false, false, false, false, false, false, false, false, false, false, false, false, false, false, false, false, false, false, false, false, false, false, false] (by kernel_rfl) rfl rfl ⟨hx0, hx1, hx2, hg0, hg1⟩ (fun hHeld => ?_)
 refine pq_ (i := 0) (n := 11) (bA 31 1) (by kernel_rfl) ?_
 refine pq_ (i := 1) (n := 12) (bA 31 3) (by kernel_rfl) ?_
 refine pq_ (i := 2) (n := 13) (bA 31 7) (by kernel_rfl) ?_
 refine take_ (i := 3) (N := some 14) (v := ?_) (a' := ?_) (bA 31 15) rfl rfl (by kernel_rfl) (fun _ _ _ h => h) (Or.inl ⟨by rfl, ?_⟩) hHeld ?_ ?_
 rotate_left
 ·rintro w' ⟨s0, s1, s2, s3, s4⟩
  go_simp
  with_reducible rfl
 rotate_left
 ·exact nrm_
 refine one_ (i := 4) (N := some 15) (bA 31 31) rfl rfl (by kernel_rfl) (by decide) (fun K hK => ?_)
 refine goes_ Try.func9 (by kernel_rfl) rfl #[.agg #[.slice A0 la.length c0, .slice A1 sa.length c1, .int .i64 root]] (by rfl) rfl rfl (by simp only [List.map_toArray, List.map_cons, List.map_nil]; rfl) ?_
 with_reducible refine (arena_Check.calls k A0 c0 la A1 c1 sa root 0 _ HQ0.out HC.out.1 HQ1.out HC.out.2 HCK.out).mono ?_
 rintro e w4 ⟨rfl, hb⟩
 refine ⟨_, rfl, ?_⟩
 have H4 := Aside0.mk (H1.out.under (below_then (below_drew1 (Below.refl _ _)) (by simp) hb))
 have HX4 := Aside0.mk (blk_below (blk_drew HBX.out) hb)
 have HB4 : Aside0 (Below W.heap.size W w4) := ⟨below_then (below_drew1 HB1.out) (below_drew1 HB1.out).size hb⟩
 obtain ⟨hx0', hx1', hx2'⟩ := cells25 HX4.out
 have hg0' := H4.out.c0
 have hg1' := H4.out.c1
 rw [HEU.out] at hg0'
 rw [HEV.out] at hg1'
 clear hb
 refine hK.out _ _ ⟨hx0', hx1', hx2', hg0', hg1'⟩ (fun hHeld => ?_)
 clear hK K
 refine norm_ (a' := ?_) ?_ ?_
 rotate_left
 ·show Act.put _ (some 15) _ = _
  exact nrm_
 refine pq_ (i := 5) (n := 16) (bA 31 63) (by kernel_rfl) ?_
 refine pq_ (i := 6) (n := 17) (bA 31 127) (by kernel_rfl) ?_
 refine pq_ (i := 7) (n := 18) (bA 31 255) (by kernel_rfl) ?_
 refine pq_ (i := 8) (n := 19) (bA 31 511) (by kernel_rfl) ?_
 refine pq_ (i := 11) (n := 22) (bA 31 2559) (by kernel_rfl) ?_
 refine pq_ (i := 12) (n := 23) (bA 31 6655) (by kernel_rfl) ?_
 refine pq_ (i := 13) (n := 24) (bA 31 14847) (by kernel_rfl) ?_
 refine take_ (i := 9) (N := some 20) (v := ?_) (a' := ?_) (bA 31 15359) rfl rfl (by kernel_rfl) (fun _ _ _ h => h) (Or.inl ⟨by rfl, ?_⟩) hHeld ?_ ?_
 rotate_left
 ·rintro w' ⟨s0, s1, s2, s3, s4⟩
  go_simp
  with_reducible rfl
 rotate_left
 ·exact nrm_
 refine pq_ (i := 10) (n := 21) (bA 31 16383) (by kernel_rfl) ?_
 refine take_ (i := 14) (N := some 25) (v := ?_) (a' := ?_) (bA 31 32767) rfl rfl (by kernel_rfl) (fun _ _ _ h => h) (Or.inl ⟨by rfl, ?_⟩) hHeld ?_ ?_
 rotate_left
 ·rintro w' ⟨s0, s1, s2, s3, s4⟩
  go_simp
  with_reducible rfl
 rotate_left
 ·exact nrm_
 refine pq_ (i := 15) (n := 26) (bA 31 65535) (by kernel_rfl) ?_
 refine pq_ (i := 16) (n := 27) (bA 31 131071) (by kernel_rfl) ?_
 refine pq_ (i := 17) (n := 28) (bA 31 262143) (by kernel_rfl) ?_
 refine pq_ (i := 18) (n := 29) (bA 31 524287) (by kernel_rfl) ?_
 refine pq_ (i := 19) (n := 30) (bA 31 1048575) (by kernel_rfl) ?_
 refine pq_ (i := 20) (n := 31) (bA 31 2097151) (by kernel_rfl) ?_
 refine pq_ (i := 23) (n := 34) (bA 31 10485759) (by kernel_rfl) ?_
 refine pq_ (i := 24) (n := 35) (bA 31 27262975) (by kernel_rfl) ?_
 refine pq_ (i := 25) (n := 36) (bA 31 60817407) (by kernel_rfl) ?_
 refine take_ (i := 21) (N := some 32) (v := ?_) (a' := ?_) (bA 31 62914559) rfl rfl (by kernel_rfl) (fun _ _ _ h => h) (Or.inl ⟨by rfl, ?_⟩) hHeld ?_ ?_
 rotate_left
 ·rintro w' ⟨s0, s1, s2, s3, s4⟩
  go_simp
  with_reducible rfl
 rotate_left
 ·exact nrm_
 refine pq_ (i := 22) (n := 33) (bA 31 67108863) (by kernel_rfl) ?_
 refine take_ (i := 26) (N := some 37) (v := ?_) (a' := ?_) (bA 31 134217727) rfl rfl (by kernel_rfl) (fun _ _ _ h => h) (Or.inl ⟨by rfl, ?_⟩) hHeld ?_ ?_
 rotate_left
 ·rintro w' ⟨s0, s1, s2, s3, s4⟩
  go_simp
  with_reducible rfl
 rotate_left
 ·exact nrm_
 refine pq_ (i := 27) (n := 38) (bA 31 268435455) (by kernel_rfl) ?_
 refine pq_ (i := 28) (n := 39) (bA 31 536870911) (by kernel_rfl) ?_
 refine pq_ (i := 29) (n := 40) (bA 31 1073741823) (by kernel_rfl) ?_
 refine pq_ (i := 30) (n := 41) (bA 31 2147483647) (by kernel_rfl) ?_
 refine done_ (by kernel_rfl) ?_
 clear hg0 hg1 hx0 hx1 hx2
 go_wp2_with fail
 refine start_ (n := 12) (S := fun w' => w'.cell? ⟨g, 0, none⟩ = some (.slice U ns.length cu) ∧ w'.cell? ⟨g, 1, none⟩ = some (.slice V ss.length cv)) (ds := []) #[false, false, false, false, false, false, false, false, false, false, false, false] (by kernel_rfl) rfl rfl ⟨hg0', hg1'⟩ (fun hHeld => ?_)
 refine pq_ (i := 0) (n := 42) (bA 12 1) (by kernel_rfl) ?_
 refine pq_ (i := 1) (n := 43) (bA 12 3) (by kernel_rfl) ?_
 refine pq_ (i := 2) (n := 44) (bA 12 7) (by kernel_rfl) ?_
 refine pq_ (i := 5) (n := 47) (bA 12 39) (by kernel_rfl) ?_
 refine pq_ (i := 6) (n := 48) (bA 12 103) (by kernel_rfl) ?_
 refine pq_ (i := 7) (n := 49) (bA 12 231) (by kernel_rfl) ?_
 refine take_ (i := 3) (N := some 45) (v := ?_) (a' := ?_) (bA 12 239) rfl rfl (by kernel_rfl) (fun _ _ _ h => h) (Or.inl ⟨by rfl, ?_⟩) hHeld ?_ ?_
 rotate_left
 ·rintro w' ⟨s0, s1⟩
  go_simp
  with_reducible rfl
 rotate_left
 ·exact nrm_
 refine pq_ (i := 4) (n := 46) (bA 12 255) (by kernel_rfl) ?_
 refine pq_ (i := 10) (n := 5) (bA 12 1279) (by kernel_rfl) ?_
 refine take_ (i := 8) (N := some 50) (v := ?_) (a' := ?_) (bA 12 1535) rfl rfl (by kernel_rfl) (fun _ _ _ h => h) (Or.inl ⟨by rfl, ?_⟩) hHeld ?_ ?_
 rotate_left
 ·rintro w' ⟨s0, s1⟩
  go_simp
  with_reducible rfl
 rotate_left
 ·exact nrm_
 refine pq_ (i := 9) (n := 51) (bA 12 2047) (by kernel_rfl) ?_
 refine pq_ (i := 11) (n := 6) (bA 12 4095) (by kernel_rfl) ?_
 refine done_ (by kernel_rfl) ?_
 have H5 := Aside0.mk (H4.out.under (below_drew1 (Below.refl _ _)))
 have HX5 : Aside0 (w4.drew.heap[W.heap.size]? = some (.cells #[.slice A0 la.length c0, .slice A1 sa.length c1, .int .i64 root] 25 (0, 0))) := ⟨blk_drew HX4.out⟩
 have HB5 : Aside0 (Below W.heap.size W w4.drew) := ⟨below_drew1 HB4.out⟩
 clear hx0' hx1' hx2' hg0' hg1' HQ0 HQ1 H4 HX4 HB4 HBX HB1 H1 b1 b2 b1' b2'
 generalize w4.drew = w5 at H5 HX5 HB5 ⊢
 obtain ⟨hy0, hy1, hy2⟩ := cells25 HX5.out
 have HRES : Aside0 (BRes w0 g u v (ns ++ (la.take 0).map (shiftN (ns.length : Int) (ss.length : Int))) ss W w5) := ⟨by simpa using BRes.same H0.out HB5.out⟩
 have HX6 := HX5
 clear H5 HB5 HX5
 go_wp2_with fail
 clear hy0 hy1 hy2
 go_loopg [55] (la.length + 1) (fun kq v55 w' => ∃ (x : Int) (j : Nat), v55 = .int .i64 x ∧ Aside0 (x = (j : Int)) ∧ Aside0 (j + kq = la.length + 1) ∧ Aside0 (j ≤ la.length) ∧ Aside0 (BRes w0 g u v (ns ++ (la.take j).map (shiftN (ns.length : Int) (ss.length : Int))) ss W w') ∧ Aside0 (w'.heap[W.heap.size]? = some (.cells #[.slice A0 la.length c0, .slice A1 sa.length c1, .int .i64 root] 25 (0, 0))))
 case atStart => exact ⟨0, 0, rfl, ⟨rfl⟩, ⟨by omega⟩, ⟨Nat.zero_le _⟩, HRES, HX6⟩
 case round =>
  obtain ⟨x, j, rfl, HX1, HJ, HJ2, HE, HXR⟩ := hrel
  have hx := HX1.out
  clear HRES HX6
  by_cases cc : j < la.length
  ·obtain ⟨u1, v1, hB, hK, hU, hV⟩ := HE.out
   obtain ⟨U1, cu1, eu1, _, _⟩ := Kd.R_reads hB.n
   have hln : (ns ++ (la.take j).map (shiftN (ns.length : Int) (ss.length : Int))).length = ns.length + j := by rw [List.length_append, List.length_map, List.length_take]; omega
   rw [hln] at eu1
   subst eu1
   have p1 : 0 ≤ x := by omega
   have p2 : x < (la.length : Int) := by omega
   obtain ⟨ad, eA, ha0, ha1, ha2, ha3, ha4, ha5⟩ := at_T41 (Kd.C_below HQ00.out hB.below) x p1 p2
   subst eA
   obtain ⟨a0, a1, a2, a3, a4, a5, hA⟩ : ∃ a0 a1 a2 a3 a4 a5, rd_T41 la x = ⟨a0, a1, a2, a3, a4, a5⟩ := ⟨_, _, _, _, _, _, rfl⟩
   obtain ⟨b0, b1, b2, b3, b4, b5, hS⟩ : ∃ b0 b1 b2 b3 b4 b5, shiftN (ns.length : Int) (ss.length : Int) (rd_T41 la x) = ⟨b0, b1, b2, b3, b4, b5⟩ := ⟨_, _, _, _, _, _, rfl⟩
   have hsh := shift_f (rd_T41 la x) x (sa.length : Int) (ns.length : Int) (ss.length : Int) (HR.out x p1 p2) (by have := HL.out; omega) (by have := HL.out; omega) (by have := HNM.out; omega) (by have := HNM.out; omega)
   rw [hS, hA] at hsh
   have HSH := Aside0.mk hsh
   have hsn := map_take_snoc la (shiftN (ns.length : Int) (ss.length : Int)) j cc
   rw [← hx, hS] at hsn
   have HSN : Aside0 ((ns ++ (la.take j).map (shiftN (ns.length : Int) (ss.length : Int))) ++ [⟨b0, b1, b2, b3, b4, b5⟩] = ns ++ (la.take (j + 1)).map (shiftN (ns.length : Int) (ss.length : Int))) := ⟨by rw [List.append_assoc, hsn]⟩
   have HLN := Aside0.mk hln
   rw [hA] at ha0 ha1 ha2 ha3 ha4 ha5
   have hba : Below wr.heap.size wr (wr.alloc (.cells #[.int .i64 a0, .int .i64 a1, .int .i64 a2, .int .i64 a3, .int .i64 a4, .int .i64 a5] 41 (0, 0))) := below_alloc (Below.refl _ _) _
   have H5 := Aside0.mk (hB.under hba)
   have HB5 := Aside0.mk hba
   have HBR := Aside0.mk hB
   have hu0 : (wr.alloc (.cells #[.int .i64 a0, .int .i64 a1, .int .i64 a2, .int .i64 a3, .int .i64 a4, .int .i64 a5] 41 (0, 0))).cell? ⟨g, 0, none⟩ = some (.slice U1 (ns.length + j) cu1) := H5.out.c0
   have HN5 : Aside0 ((wr.alloc (.cells #[.int .i64 a0, .int .i64 a1, .int .i64 a2, .int .i64 a3, .int .i64 a4, .int .i64 a5] 41 (0, 0))).heap[wr.heap.size]? = some (N41 a0 a1 a2 a3 a4 a5)) := ⟨blk_new wr _⟩
   obtain ⟨hn0, hn1, hn2, hn3, hn4, hn5⟩ := n_cells HN5.out
   have HKR := Aside0.mk hK
   have HUR := Aside0.mk hU
   have HVR := Aside0.mk hV
   have hL := HL.out
   have hw : wrap64 (x + 1) = ((j + 1 : Nat) : Int) := by unfold wrap64; omega
   have HW := Aside0.mk hw
   have HCC := Aside0.mk cc
   have p1' : decide (0 ≤ x) = true := decide_eq_true p1
   have p2' : decide (x < (la.length : Int)) = true := decide_eq_true p2
   replace p1 := eq_true p1
   replace p2 := eq_true p2
   clear hB hK hU hV hln hsh hsn hba hw hL hx cc hS hA HE
   go_wp2_with fail
   refine start_ (n := 14) (S := fun w' => w'.cell? ⟨g, 0, none⟩ = some (.slice U1 (ns.length + j) cu1) ∧ w'.cell? ⟨wr.heap.size, 0, none⟩ = some (.int .i64 a0) ∧ w'.cell? ⟨wr.heap.size, 1, none⟩ = some (.int .i64 a1) ∧ w'.cell? ⟨wr.heap.size, 2, none⟩ = some (.int .i64 a2) ∧ w'.cell? ⟨wr.heap.size, 3, none⟩ = some (.int .i64 a3) ∧ w'.cell? ⟨wr.heap.size, 4, none⟩ = some (.int .i64 a4) ∧ w'.cell? ⟨wr.heap.size, 5, none⟩ = some (.int .i64 a5)) (ds := [10, 13]) #[false, false, false, false, false, false, false, false, false, false, false, false, false, false] (by kernel_rfl) rfl rfl ⟨hu0, hn0, hn1, hn2, hn3, hn4, hn5⟩ (fun hHeld => ?_)
   refine pq_ (i := 0) (n := 59) (bA 14 1) (by kernel_rfl) ?_
   refine pq_ (i := 1) (n := 60) (bA 14 3) (by kernel_rfl) ?_
   refine pq_ (i := 2) (n := 61) (bA 14 7) (by kernel_rfl) ?_
   refine pq_ (i := 3) (n := 62) (bA 14 15) (by kernel_rfl) ?_
   refine pq_ (i := 6) (n := 65) (bA 14 79) (by kernel_rfl) ?_
   refine pq_ (i := 7) (n := 66) (bA 14 207) (by kernel_rfl) ?_
   refine take_ (i := 4) (N := some 63) (v := ?_) (a' := ?_) (bA 14 223) rfl rfl (by kernel_rfl) (fun _ _ _ h => h) (Or.inl ⟨by rfl, ?_⟩) hHeld ?_ ?_
   rotate_left
   ·rintro w' ⟨s0, s1, s2, s3, s4, s5, s6⟩
    go_simp
    with_reducible rfl
   rotate_left
   ·exact nrm_
   refine take_ (i := 5) (N := some 64) (v := ?_) (a' := ?_) (bA 14 255) rfl rfl (by kernel_rfl) (fun _ _ _ h => h) (Or.inl ⟨by rfl, ?_⟩) hHeld ?_ ?_
   rotate_left
   ·rintro w' ⟨s0, s1, s2, s3, s4, s5, s6⟩
    go_simp
    with_reducible rfl
   rotate_left
   ·exact nrm_
   refine one_ (i := 8) (N := some 67) (bA 14 511) rfl rfl (by kernel_rfl) (by decide) (fun K hK => ?_)
   refine goes_ Try.func41 (by kernel_rfl) rfl #[.agg #[.int .i64 a0, .int .i64 a1, .int .i64 a2, .int .i64 a3, .int .i64 a4, .int .i64 a5], .int .i64 (ns.length : Int), .int .i64 (ss.length : Int)] (by rfl) rfl rfl (by simp only [List.map_toArray, List.map_cons, List.map_nil]; rfl) ?_
   with_reducible refine (arena_shift.calls 2 a0 a1 a2 a3 a4 a5 (ns.length : Int) (ss.length : Int) b0 b1 b2 b3 b4 b5 _ HSH.out).mono ?_
   rintro e w6 ⟨rfl, hb⟩
   refine ⟨_, rfl, ?_⟩
   have H6 := Aside0.mk (H5.out.under (below_then (below_drew1 (Below.refl _ _)) (by simp) hb))
   have HB6 : Aside0 (Below wr.heap.size wr w6) := ⟨below_then (below_drew1 HB5.out) (below_drew1 HB5.out).size hb⟩
   have HN6 := Aside0.mk (blk_below (blk_drew HN5.out) hb)
   have hu6 : w6.cell? ⟨g, 0, none⟩ = some (.slice U1 (ns.length + j) cu1) := H6.out.c0
   obtain ⟨hn0', hn1', hn2', hn3', hn4', hn5'⟩ := n_cells HN6.out
   clear hb
   refine hK.out _ _ ⟨hu6, hn0', hn1', hn2', hn3', hn4', hn5'⟩ (fun hHeld => ?_)
   clear hK K
   refine norm_ (a' := ?_) ?_ ?_
   rotate_left
   ·show Act.put _ (some 67) _ = _
    exact nrm_
   refine one_ (i := 9) (N := some 68) (bA 14 1023) rfl rfl (by kernel_rfl) (by decide) (fun K hK => ?_)
   refine value_ (w1 := ?_) (v := ?_) (by rfl) rfl ?_ ?_
   rotate_left 2
   ·go_simp
    constructor
    ·rfl
    ·rfl
   refine hK.out _ _ ⟨(HandBm.cell_al (W := w6) hu6 _), (HandBm.cell_al (W := w6) hn0' _), (HandBm.cell_al (W := w6) hn1' _), (HandBm.cell_al (W := w6) hn2' _), (HandBm.cell_al (W := w6) hn3' _), (HandBm.cell_al (W := w6) hn4' _), (HandBm.cell_al (W := w6) hn5' _)⟩ (fun hHeld => ?_)
   clear hK K
   refine norm_ (a' := ?_) ?_ ?_
   rotate_left
   ·show Act.put _ (some 68) _ = _
    exact nrm_
   refine last_ (i := 10) (N := some 69) #[true, true, true, true, true, true, true, true, true, true, true, false, false, false] rfl rfl (by kernel_rfl) (by decide) (fun K hK => ?_)
   refine Kd.R_append_step k41 (w0 := w0) w0.heap.size (by rfl) (.tmp 63) (.tmp 68) 22 41 (.agg #[(.int .i64 0), (.int .i64 0), (.int .i64 0), (.int .i64 0), (.int .i64 0), (.int .i64 0)]) 48 rfl Try.underlying22 HandBl.info41 rfl (by decide) (by omega) (.slice U1 (ns.length + j) cu1) (ns ++ (la.take j).map (shiftN (ns.length : Int) (ss.length : Int))) ⟨b0, b1, b2, b3, b4, b5⟩ [.int .i64 b0, .int .i64 b1, .int .i64 b2, .int .i64 b3, .int .i64 b4, .int .i64 b5] (fun _ => True) (fun _ => False) rfl rfl (k41_mkM _ _ _ ⟨b0, b1, b2, b3, b4, b5⟩) (fun _ hk => hk.elim) (fun _ _ => trivial) H6.out.n H6.out.below H6.out.below.size (by have h1 := HLN.out; have h2 := HNM.out; have h3 := HCC.out; rw [h1]; omega) ?_
   intro z1 w9 ho hb hg hat
   have hbox := blk_grown H6.out.box hg (Kd.R_ne H6.out.n H6.out.box (by decide))
   have HS9 := Aside0.mk (Kd.R_over H6.out.s H6.out.n (by decide) hg)
   have HX9 := Aside0.mk (blk_grown (blk_below HXR.out HB6.out) hg (Kd.R_ne H6.out.n (blk_below HXR.out HB6.out) (by decide)))
   obtain ⟨A9, c9, e1, _, _⟩ := Kd.R_reads ho
   have hsn := HSN.out
   rw [hsn] at e1 ho
   rw [show (ns ++ (la.take (j + 1)).map (shiftN (ns.length : Int) (ss.length : Int))).length = ns.length + j + 1 by have := HCC.out; rw [List.length_append, List.length_map, List.length_take]; omega] at e1
   subst e1
   have hc9 : w9.cell? ⟨g, 0, none⟩ = some (.slice U1 (ns.length + j) cu1) := (blk_cell hbox 0).trans rfl
   have hf9 := blk_frozen hbox 0
   have HO := Aside0.mk ho
   have HBX9 := Aside0.mk hbox
   have HBW := Aside0.mk hb
   have HG := Aside0.mk hg
   have HAT := Aside0.mk hat
   clear ho hb hg hat hbox hsn
   refine hK.out _ _ ?_
   clear hK K
   refine norm_ (a' := ?_) ?_ ?_
   rotate_left
   ·show Act.put _ (some 69) _ = _
    exact nrm_
   refine pq_ (i := 11) (n := 70) (bA 14 4095) (by kernel_rfl) ?_
   refine pq_ (i := 12) (n := 71) (bA 14 8191) (by kernel_rfl) ?_
   refine last_ (i := 13) (N := none) #[true, true, true, true, true, true, true, true, true, true, true, true, true, true] rfl rfl (by kernel_rfl) (by decide) (fun K hK => ?_)
   refine skip_ (w1 := ?_) (by rfl) rfl ?_ ?_
   rotate_left
   ·go_simp
    rfl
   refine hK.out _ _ ?_
   clear hK K
   refine done_ (by kernel_rfl) ?_
   have hnx : W.heap.size ≠ g := blk_ne HX9.out HBX9.out (by decide)
   have hb9 : BAt w0 g (.slice A9 (ns.length + j + 1) c9) v1 (ns ++ (la.take (j + 1)).map (shiftN (ns.length : Int) (ss.length : Int))) ss (w9.setCell ⟨g, 0, none⟩ (.slice A9 (ns.length + j + 1) c9)) := ⟨HBR.out.lo, blk_put HBX9.out 0 _ rfl, Kd.R_set HO.out HBX9.out (by decide) 0 _, Kd.R_set HS9.out HBX9.out (by decide) 0 _, HBW.out.setCell HBR.out.lo _⟩
   have hr9 : BRes w0 g (.slice U1 (ns.length + j) cu1) v1 (ns ++ (la.take (j + 1)).map (shiftN (ns.length : Int) (ss.length : Int))) ss wr (w9.setCell ⟨g, 0, none⟩ (.slice A9 (ns.length + j + 1) c9)) := ⟨_, v1, hb9, kept_sub (kept_put' HB6.out HG.out) (fun k hk => hk.imp_right .inl), own_new HB6.out.size HAT.out, fun _ h => .inl h⟩
   have HRN := Aside0.mk (BRes.trans HKR.out HUR.out HVR.out hr9)
   have HXN : Aside0 ((w9.setCell ⟨g, 0, none⟩ (.slice A9 (ns.length + j + 1) c9)).heap[W.heap.size]? = some (.cells #[.slice (some ad) la.length c0, .slice A1 sa.length c1, .int .i64 root] 25 (0, 0))) := ⟨blk_far HX9.out hnx _⟩
   clear hnx hb9 hr9
   go_wp2_with fail
   cases gk with
   | zero => have := HJ.out; have := HCC.out; omega
   | succ k1 =>
    go_roundg k1
    case measure => omega
    case rel => exact ⟨_, j + 1, rfl, ⟨HW.out⟩, ⟨by have := HJ.out; omega⟩, ⟨HCC.out⟩, HRN, HXN⟩
  ·have p2' : decide (x < (la.length : Int)) = false := decide_eq_false (by omega)
   have hj : j = la.length := by have := HJ2.out; omega
   subst hj
   have hres := HE.out
   rw [List.take_length] at hres
   have HRES : Aside0 (BRes w0 g u v (ns ++ la.map (shiftN (ns.length : Int) (ss.length : Int))) (ss ++ sa.take 0) W wr) := ⟨by simpa using hres⟩
   obtain ⟨hy0, hy1, hy2⟩ := cells25 HXR.out
   clear hres HE hx cc HJ HJ2 HX1
   go_wp2_with fail
   clear hy0 hy1 hy2 p2'
   go_loopg [76] (sa.length + 1) (fun kq v76 w' => ∃ (x : Int) (j : Nat), v76 = .int .i64 x ∧ Aside0 (x = (j : Int)) ∧ Aside0 (j + kq = sa.length + 1) ∧ Aside0 (j ≤ sa.length) ∧ Aside0 (BRes w0 g u v (ns ++ la.map (shiftN (ns.length : Int) (ss.length : Int))) (ss ++ sa.take j) W w') ∧ Aside0 (w'.heap[W.heap.size]? = some (.cells #[.slice A0 la.length c0, .slice A1 sa.length c1, .int .i64 root] 25 (0, 0))))
   case atStart => exact ⟨0, 0, rfl, ⟨rfl⟩, ⟨by omega⟩, ⟨Nat.zero_le _⟩, HRES, HXR⟩
   case round =>
    obtain ⟨x, j, rfl, HX1, HJ, HJ2, HE, HXQ⟩ := hrel
    have hx := HX1.out
    clear HRES HXR
    by_cases cc : j < sa.length
    ·obtain ⟨u1, v1, hB, hK, hU, hV⟩ := HE.out
     obtain ⟨V1, cv1, ev1, _, _⟩ := Kd.R_reads hB.s
     have hln : (ss ++ sa.take j).length = ss.length + j := by rw [List.length_append, List.length_take]; omega
     rw [hln] at ev1
     subst ev1
     have p1 : 0 ≤ x := by omega
     have p2 : x < (sa.length : Int) := by omega
     obtain ⟨ad, Aj, cj, eA, hcell, hlj, hCj⟩ := at_L3 (Kd.C_below HQ10.out hB.below) x p1 p2
     subst eA
     have hs1 : wr.cell? ⟨g, 1, none⟩ = some (.slice V1 (ss.length + j) cv1) := hB.c1
     have HCL : Aside0 (clone_R.f (rd_L3 sa x) = some (rd_L3 sa x)) := ⟨if_pos (HSS.out _ (by rw [hx]; simp [rd_L3, List.getD_eq_getElem?_getD, cc]))⟩
     have hsn := take_snoc sa j cc
     rw [← hx] at hsn
     have HSN : Aside0 ((ss ++ sa.take j) ++ [rd_L3 sa x] = ss ++ sa.take (j + 1)) := ⟨by rw [List.append_assoc, hsn]⟩
     have HLN := Aside0.mk hln
     have HBR := Aside0.mk hB
     have HKR := Aside0.mk hK
     have HUR := Aside0.mk hU
     have HVR := Aside0.mk hV
     have hL := HL.out
     have hw : wrap64 (x + 1) = ((j + 1 : Nat) : Int) := by unfold wrap64; omega
     have HW := Aside0.mk hw
     have HCC := Aside0.mk cc
     have p1' : decide (0 ≤ x) = true := decide_eq_true p1
     have p2' : decide (x < (sa.length : Int)) = true := decide_eq_true p2
     replace p1 := eq_true p1
     replace p2 := eq_true p2
     clear hB hK hU hV hln hsn hw hL hx cc HE
     go_wp2_with fail
     refine start_ (n := 12) (S := fun w' => w'.cell? ⟨g, 1, none⟩ = some (.slice V1 (ss.length + j) cv1)) (ds := [8, 11]) #[false, false, false, false, false, false, false, false, false, false, false, false] (by kernel_rfl) rfl rfl (hs1) (fun hHeld => ?_)
     refine pq_ (i := 0) (n := 80) (bA 12 1) (by kernel_rfl) ?_
     refine pq_ (i := 1) (n := 81) (bA 12 3) (by kernel_rfl) ?_
     refine pq_ (i := 2) (n := 82) (bA 12 7) (by kernel_rfl) ?_
     refine pq_ (i := 3) (n := 83) (bA 12 15) (by kernel_rfl) ?_
     refine pq_ (i := 5) (n := 85) (bA 12 47) (by kernel_rfl) ?_
     refine take_ (i := 4) (N := some 84) (v := ?_) (a' := ?_) (bA 12 63) rfl rfl (by kernel_rfl) (fun _ _ _ h => h) (Or.inl ⟨by rfl, ?_⟩) hHeld ?_ ?_
     rotate_left
     ·intro w' s0
      go_simp
      with_reducible rfl
     rotate_left
     ·exact nrm_
     refine one_ (i := 6) (N := some 86) (bA 12 127) rfl rfl (by kernel_rfl) (by decide) (fun K hK => ?_)
     refine goes_ Try.func42 (by kernel_rfl) rfl #[.slice Aj (rd_L3 sa x).length cj] (by rfl) rfl rfl (by simp only [List.map_toArray, List.map_cons, List.map_nil]; rfl) ?_
     with_reducible refine (clone_R.calls Aj cj (rd_L3 sa x) (rd_L3 sa x) _ (Kd.C_drew hCj) hlj HCL.out).mono ?_
     rintro e w6 ⟨v0, rfl, hr, hb⟩
     refine ⟨_, rfl, ?_⟩
     obtain ⟨A2, c2, rfl, _, _⟩ := Kd.R_reads hr
     have HN4 := Aside0.mk hr
     have HB6 : Aside0 (Below wr.heap.size wr w6) := ⟨below_then (below_drew1 (Below.refl _ _)) (by simp) hb⟩
     have H6 := Aside0.mk (HBR.out.under HB6.out)
     have hc4 : w6.cell? ⟨g, 1, none⟩ = some (.slice V1 (ss.length + j) cv1) := H6.out.c1
     clear hr hb
     refine hK.out _ _ (hc4) (fun hHeld => ?_)
     clear hK K
     refine norm_ (a' := ?_) ?_ ?_
     rotate_left
     ·show Act.put _ (some 86) _ = _
      exact nrm_
     refine one_ (i := 7) (N := some 87) (bA 12 255) rfl rfl (by kernel_rfl) (by decide) (fun K hK => ?_)
     refine value_ (w1 := ?_) (v := ?_) (by rfl) rfl ?_ ?_
     rotate_left 2
     ·go_simp
      constructor
      ·rfl
      ·rfl
     refine hK.out _ _ ((HandBm.cell_al (W := w6) hc4 _)) (fun hHeld => ?_)
     clear hK K
     refine norm_ (a' := ?_) ?_ ?_
     rotate_left
     ·show Act.put _ (some 87) _ = _
      exact nrm_
     refine last_ (i := 8) (N := some 88) #[true, true, true, true, true, true, true, true, true, false, false, false] rfl rfl (by kernel_rfl) (by decide) (fun K hK => ?_)
     refine Kd.R_append_step (Kd.slice 55 k55) (w0 := w0) w0.heap.size (by rfl) (.tmp 84) (.tmp 87) 23 37 (.slice none 0 0) 24 rfl Try.underlying23 HandBl.info37 rfl (by decide) (by omega) (.slice V1 (ss.length + j) cv1) (ss ++ sa.take j) (rd_L3 sa x) [.slice A2 (rd_L3 sa x).length c2] (fun _ => True) (fun k => True ∧ some k ≠ (Value.slice V1 (ss.length + j) cv1).ownBlock) rfl rfl (Kd.M_row (Kd.R_apartR (Kd.R_lower HN4.out (by have := HBR.out.below.size; show _ ≤ wr.drew.heap.size; simpa using this)) H6.out.s (by decide))) (fun _ hk => hk) (fun _ _ => trivial) H6.out.s H6.out.below H6.out.below.size (by have h1 := HLN.out; have h2 := HNM.out; have h3 := HCC.out; rw [h1]; omega) ?_
     intro z1 w9 ho hb hg hat
     have hbox := blk_grown H6.out.box hg (Kd.R_ne H6.out.s H6.out.box (by decide))
     have HN9 := Aside0.mk (Kd.R_over H6.out.n H6.out.s (by decide) hg)
     have HX9 := Aside0.mk (blk_grown (blk_below HXQ.out HB6.out) hg (Kd.R_ne H6.out.s (blk_below HXQ.out HB6.out) (by decide)))
     obtain ⟨A9, c9, e1, _, _⟩ := Kd.R_reads ho
     have hsn := HSN.out
     rw [hsn] at e1 ho
     rw [show (ss ++ sa.take (j + 1)).length = ss.length + j + 1 by have := HCC.out; rw [List.length_append, List.length_take]; omega] at e1
     subst e1
     have hc9 : w9.cell? ⟨g, 1, none⟩ = some (.slice V1 (ss.length + j) cv1) := (blk_cell hbox 1).trans rfl
     have hf9 := blk_frozen hbox 1
     have HO := Aside0.mk ho
     have HBX9 := Aside0.mk hbox
     have HBW := Aside0.mk hb
     have HG := Aside0.mk hg
     have HAT := Aside0.mk hat
     clear ho hb hg hat hbox hsn
     refine hK.out _ _ ?_
     clear hK K
     refine norm_ (a' := ?_) ?_ ?_
     rotate_left
     ·show Act.put _ (some 88) _ = _
      exact nrm_
     refine pq_ (i := 9) (n := 89) (bA 12 1023) (by kernel_rfl) ?_
     refine pq_ (i := 10) (n := 90) (bA 12 2047) (by kernel_rfl) ?_
     refine last_ (i := 11) (N := none) #[true, true, true, true, true, true, true, true, true, true, true, true] rfl rfl (by kernel_rfl) (by decide) (fun K hK => ?_)
     refine skip_ (w1 := ?_) (by rfl) rfl ?_ ?_
     rotate_left
     ·go_simp
      rfl
     refine hK.out _ _ ?_
     clear hK K
     refine done_ (by kernel_rfl) ?_
     have hnx : W.heap.size ≠ g := blk_ne HX9.out HBX9.out (by decide)
     have hb9 : BAt w0 g u1 (.slice A9 (ss.length + j + 1) c9) (ns ++ la.map (shiftN (ns.length : Int) (ss.length : Int))) (ss ++ sa.take (j + 1)) (w9.setCell ⟨g, 1, none⟩ (.slice A9 (ss.length + j + 1) c9)) := ⟨HBR.out.lo, blk_put HBX9.out 1 _ rfl, Kd.R_set HN9.out HBX9.out (by decide) 1 _, Kd.R_set HO.out HBX9.out (by decide) 1 _, HBW.out.setCell HBR.out.lo _⟩
     have hr9 : BRes w0 g u1 (.slice V1 (ss.length + j) cv1) (ns ++ la.map (shiftN (ns.length : Int) (ss.length : Int))) (ss ++ sa.take (j + 1)) wr (w9.setCell ⟨g, 1, none⟩ (.slice A9 (ss.length + j + 1) c9)) := ⟨u1, _, hb9, kept_sub (kept_put' HB6.out HG.out) (fun k hk => hk.imp_right .inr), fun _ h => .inl h, own_new HB6.out.size HAT.out⟩
     have HRN := Aside0.mk (BRes.trans HKR.out HUR.out HVR.out hr9)
     have HXN : Aside0 ((w9.setCell ⟨g, 1, none⟩ (.slice A9 (ss.length + j + 1) c9)).heap[W.heap.size]? = some (.cells #[.slice A0 la.length c0, .slice (some ad) sa.length c1, .int .i64 root] 25 (0, 0))) := ⟨blk_far HX9.out hnx _⟩
     clear hnx hb9 hr9
     go_wp2_with fail
     cases gk with
     | zero => have := HJ.out; have := HCC.out; omega
     | succ k1 =>
      go_roundg k1
      case measure => omega
      case rel => exact ⟨_, j + 1, rfl, ⟨HW.out⟩, ⟨by have := HJ.out; omega⟩, ⟨HCC.out⟩, HRN, HXN⟩
    ·have p2' : decide (x < (sa.length : Int)) = false := decide_eq_false (by omega)
     have hj : j = sa.length := by have := HJ2.out; omega
     subst hj
     have hres := HE.out
     rw [List.take_length] at hres
     have HFIN := Aside0.mk hres
     obtain ⟨hy0, hy1, hy2⟩ := cells25 HXQ.out
     have hw : wrap64 ((ns.length : Int) + root) = (ns.length : Int) + root := by have h1 := HRT.out; have h2 := HNM.out; unfold wrap64; omega
     clear hres HE hx cc HJ HJ2 HX1
     go_wp2_with fail
     go_ret
     exact ⟨by first | rfl | simp [hw] | rw [hw], HFIN.out⟩
end Go.Proofs.Ytbgoaigbkfibbaa.HandGraft

/- A builder: a set more, one so many times. Conditions: bounds on the rows' lengths. -/
import Derived.Test.YtbgoaigbkfibbaaPAx0
import Derived.Test.YtbgoaigbkfibbaaPAx2
import Derived.Test.YtbgoaigbkfibbaaHandBl
import Derived.Test.YtbgoaigbkfibbaaHandOf
set_option linter.unusedSimpArgs false
set_option linter.unusedVariables false
namespace Go.Proofs.Ytbgoaigbkfibbaa.HandBm
open Go.RowKit Go.Proofs.YtbgoaigbkfibbaaW.PrintWords Go.Proofs.YtbgoaigbkfibbaaW.PrintLast Go.Proofs.YtbgoaigbkfibbaaW.PrintMore Go.Proofs.Ytbgoaigbkfibbaa.PA Go.Proofs.Ytbgoaigbkfibbaa.HandRight Go.Proofs.Ytbgoaigbkfibbaa.HandBl Go.Proofs.Ytbgoaigbkfibbaa.HandOf Go.Proofs.Ytbgoaigbkfibbaa.Sets
theorem lit_int (W : World) (a : Int) : Kd.C (Kd.int .i64) (W.alloc (.cells #[.int .i64 a] 3)) (some ⟨W.heap.size, 0, none⟩) [a].length [a] := by
 have h : (Kd.int .i64).R 3 (W.alloc (.cells #[.int .i64 a] 3)) W.heap.size (fun _ => True) (.slice (some ⟨W.heap.size, 0, none⟩) 1 1) [a] :=
  ⟨fun _ _ => trivial, [.int .i64 a], World.ownsRow_lit (base := W.heap.size) (e := 3) (size := 1) W #[.int .i64 a] 1 (Nat.le_refl _) (by decide) rfl, Reps.one rfl (Reps.none _ _)⟩
 exact (Kd.R_reads' h).2.2
set_option maxRecDepth 100000 in
set_option maxHeartbeats 1000000 in
theorem rep_calls (w0 : World) (g : Nat) (u v : Value) (ns : List S41) (ss : List (List S55)) (x lo hi : Int) (W : World) (h : BAt w0 g u v ns ss W) (ht : arena_times.f lo hi = some true) (hx0 : 0 ≤ x) (hx1 : x < (ns.length : Int)) (hn : ns.length < 4096) :
  Calls Try.prog 22 #[.pointer (some ⟨g, 0, none⟩), .int .i64 x, .int .i64 lo, .int .i64 hi] W fun e W' => e = .returned (.int .i64 (ns.length : Int)) ∧ ∃ u', BAt w0 g u' v (ns ++ [⟨5, x, 0, lo, hi, 0⟩]) ss W' ∧ Kept W W' (fun k => k = g ∨ some k = u.ownBlock) ∧ (∀ k, some k = u'.ownBlock → some k = u.ownBlock ∨ W.heap.size ≤ k) := by
 have H := Aside0.mk h
 have HT := Aside0.mk ht
 have HN := Aside0.mk hn
 have HX : Aside0 (thereB ns.length [x] = true) := ⟨by simp [thereB, hx0, hx1]⟩
 clear h ht hx0 hx1 hn
 go_enter Try.func22, Try.ntmps22
 go_wp2_with (first | (go_at_call 40; (refine (arena_times.calls lo hi true _ HT.out).mono ?_); rintro e w4 ⟨rfl, ⟨nd, rfl⟩⟩; have hbd : Below W.heap.size W (W.drewN nd) := pw_below_drewN (Below.refl _ W) nd; have H4 := Aside0.mk (H.out.under hbd); have HBD := Aside0.mk hbd; clear hbd) | (go_at_call 36; (refine (add_calls w0 g u v ns ss 5 x 0 lo hi 0 _ (H4.out.under (below_alloc (Below.refl _ _) _)) _ _ [x] (lit_int _ x) (by show 1 < 2 ^ 31; decide) HX.out HN.out).mono ?_); rintro e w5 ⟨rfl, u', hf, hk, hat⟩; have HAT : Aside0 (∀ k, some k = u'.ownBlock → some k = u.ownBlock ∨ W.heap.size ≤ k) := ⟨fun k h => (hat k h).imp_right (fun h2 => Nat.le_trans (below_alloc HBD.out _).size h2)⟩; have HF := Aside0.mk hf; have HK : Aside0 (Kept W w5 (fun k => k = g ∨ some k = u.ownBlock)) := ⟨(Kept.of_below (below_alloc HBD.out _) _).then_ hk (fun k h => .inl h)⟩; clear hf hk hat))
 go_ret
 exact ⟨rfl, u', HF.out, HK.out, HAT.out⟩
theorem elem_new {w0 : World} {g : Nat} {u v : Value} {ns : List S41} {ss : List (List S55)} {W : World} {n : S41} (h : BAt w0 g u v (ns ++ [n]) ss W) : ∃ q cu, u = .slice (some ⟨q, 0, none⟩) (ns.length + 1) cu ∧ W.cell? ⟨q, ns.length * 6 + 5, none⟩ = some (.int .i64 n.f5) ∧ W.frozen? ⟨q, ns.length * 6 + 5, none⟩ = false ∧ q < W.heap.size ∧
  ∀ y : Int, Kd.R k41 41 (W.setCell ⟨q, ns.length * 6 + 5, none⟩ (.int .i64 y)) w0.heap.size (fun _ => True) u (ns ++ [⟨n.f0, n.f1, n.f2, n.f3, n.f4, y⟩]) ∧ W.grownBy (W.setCell ⟨q, ns.length * 6 + 5, none⟩ (.int .i64 y)) (some q) := by
 obtain ⟨q, cu, e, hq1, hq2, cells, hcells⟩ := Kd.R_form h.n (by simp)
 rw [show (ns ++ [n]).length = ns.length + 1 by simp] at e
 subst e
 obtain ⟨cs, hcl, hM, hcc, hfz⟩ := Kd.R_elem h.n n (ns.length : Int) (by omega) (by omega)
 have e1 : (ns ++ [n]).getD ((ns.length : Int)).toNat n = n := by simp [List.getD_eq_getElem?_getD]
 rw [e1] at hM
 have e2 := k41_openM hM
 subst e2
 refine ⟨q, cu, rfl, ?_, ?_, hq2, fun y => ?_⟩
 ·have h5 := hcc 5 _ rfl
  simp only [Int.toNat_natCast] at h5
  exact h5
 ·have h5 := hfz 5
  simp only [Int.toNat_natCast] at h5
  exact h5
 ·have h2 := Kd.R_seg h.n (ns.length : Int) (by omega) (by omega) hcl hcc (seg := [.int .i64 y]) (j := 5) (okp := fun _ => False) (x' := ⟨n.f0, n.f1, n.f2, n.f3, n.f4, y⟩) (show 5 + 1 ≤ 6 by omega) (k41_mkM _ _ _ ⟨n.f0, n.f1, n.f2, n.f3, n.f4, y⟩) (fun _ hk => hk.elim)
  rw [show (ns ++ [n]).set ((ns.length : Int)).toNat (⟨n.f0, n.f1, n.f2, n.f3, n.f4, y⟩ : S41) = ns ++ [⟨n.f0, n.f1, n.f2, n.f3, n.f4, y⟩] by simp] at h2
  exact h2
theorem cell_al {W : World} {p : Addr} {u : Value} (h : W.cell? p = some u) (o1 : Obj) : (W.alloc o1).cell? p = some u := ((below_alloc (Below.refl _ W) o1).cell (World.block_lt_of_cell? W _ h)).trans h
set_option maxRecDepth 100000 in
set_option maxHeartbeats 2000000 in
theorem set_calls (w0 : World) (g : Nat) (u v : Value) (ns : List S41) (ss : List (List S55)) (A : Option Addr) (c : Nat) (l : List S55) (W : World) (h : BAt w0 g u v ns ss W) (hl : ∀ W', Kept W W' (fun k => k = g ∨ some k = u.ownBlock ∨ W.heap.size ≤ k) → Kd.C k55 W' A l.length l) (hc : l.length ≤ c) (hll : l.length < 2 ^ 31) (hn : ns.length < 4096) (hs : ss.length < 2 ^ 31) :
  Calls Try.prog 18 #[.pointer (some ⟨g, 0, none⟩), .slice A l.length c] W fun e W' => e = .returned (.int .i64 (ns.length : Int)) ∧ ∃ u' v', BAt w0 g u' v' (ns ++ [⟨2, 0, 0, 0, 0, (ss.length : Int)⟩]) (ss ++ [ofL l]) W' ∧ Kept W W' (fun k => k = g ∨ some k = u.ownBlock ∨ some k = v.ownBlock) ∧ (∀ k, some k = u'.ownBlock → some k = u.ownBlock ∨ W.heap.size ≤ k) ∧ (∀ k, some k = v'.ownBlock → some k = v.ownBlock ∨ W.heap.size ≤ k) := by
 have H := Aside0.mk h
 have HLL := Aside0.mk hl
 have HLC := Aside0.mk hc
 have HSL := Aside0.mk hs
 have HN := Aside0.mk hn
 have HOF : Aside0 (ranges_Of.f l = some (ofL l)) := ⟨if_pos (by omega)⟩
 obtain ⟨B, cv, rfl, _, _⟩ := Kd.R_reads h.s
 clear h hl hc hll hs hn
 have k1 : (0 ≤ (ns.length : Int)) = True := eq_true (by omega)
 have k1' : decide (0 ≤ (ns.length : Int)) = true := decide_eq_true (by omega)
 have k1'' : decide ((ns.length : Int) ≥ 0) = true := decide_eq_true (by omega)
 have k2 : ((ns.length : Int) < ((ns.length + 1 : Nat) : Int)) = True := eq_true (by omega)
 have k2' : decide ((ns.length : Int) < ((ns.length + 1 : Nat) : Int)) = true := decide_eq_true (by omega)
 have k3 : ((ns.length : Int) < (ns.length : Int) + 1) = True := eq_true (by omega)
 have k3' : decide ((ns.length : Int) < (ns.length : Int) + 1) = true := decide_eq_true (by omega)
 go_enter Try.func18, Try.ntmps18
 go_wp2_with (go_at_call 36; (refine (add_calls w0 g u _ ns ss 2 0 0 0 0 0 _ H.out _ _ [] (Kd.C_nil _ _) (by show 0 < 2 ^ 31; decide) rfl HN.out).mono ?_); rintro e w1 ⟨rfl, u1, hf, hk, hat⟩; have HAT := Aside0.mk hat; have H1 := Aside0.mk hf; have HK1 := Aside0.mk hk; have hc1 := hf.c1; obtain ⟨q, cu, rfl, hz5, hf5, hq, hput⟩ := elem_new hf; have hc0 := hf.c0; have HP := Aside0.mk hput; have HQ := Aside0.mk hq; clear hf hk hput hq hat)
 refine start_ (n := 13) (S := fun w' => w'.cell? ⟨g, 0, none⟩ = some (.slice (some ⟨q, 0, none⟩) (ns.length + 1) cu) ∧ w'.cell? ⟨g, 1, none⟩ = some (.slice B ss.length cv)) (ds := [12]) #[false, false, false, false, false, false, false, false, false, false, false, false, false] (by kernel_rfl) rfl rfl ⟨hc0, hc1⟩ (fun hHeld => ?_)
 refine pq_ (i := 0) (n := 11) (bA 13 1) (by kernel_rfl) ?_
 refine pq_ (i := 1) (n := 12) (bA 13 3) (by kernel_rfl) ?_
 refine pq_ (i := 2) (n := 13) (bA 13 7) (by kernel_rfl) ?_
 refine pq_ (i := 4) (n := 15) (bA 13 23) (by kernel_rfl) ?_
 refine pq_ (i := 5) (n := 16) (bA 13 55) (by kernel_rfl) ?_
 refine pq_ (i := 6) (n := 17) (bA 13 119) (by kernel_rfl) ?_
 refine pq_ (i := 7) (n := 18) (bA 13 247) (by kernel_rfl) ?_
 refine take_ (i := 3) (N := some 14) (v := ?_) (a' := ?_) (bA 13 255) rfl rfl (by kernel_rfl) (fun _ _ _ h => h) (Or.inl ⟨by rfl, ?_⟩) hHeld ?_ ?_
 rotate_left
 ·rintro w' ⟨s0, s1⟩
  go_simp
  with_reducible rfl
 rotate_left
 ·exact nrm_
 refine take_ (i := 8) (N := some 19) (v := ?_) (a' := ?_) (bA 13 511) rfl rfl (by kernel_rfl) (fun _ _ _ h => h) (Or.inl ⟨by rfl, ?_⟩) hHeld ?_ ?_
 rotate_left
 ·rintro w' ⟨s0, s1⟩
  go_simp
  with_reducible rfl
 rotate_left
 ·exact nrm_
 refine pq_ (i := 9) (n := 20) (bA 13 1023) (by kernel_rfl) ?_
 refine pq_ (i := 10) (n := 21) (bA 13 2047) (by kernel_rfl) ?_
 refine pq_ (i := 11) (n := 22) (bA 13 4095) (by kernel_rfl) ?_
 refine last_ (i := 12) (N := none) #[true, true, true, true, true, true, true, true, true, true, true, true, true] rfl rfl (by kernel_rfl) (by decide) (fun K hK => ?_)
 refine skip_ (w1 := ?_) (by rfl) rfl ?_ ?_
 rotate_left
 ·go_simp
  rfl
 refine hK.out _ _ ?_
 clear hK K
 refine done_ (by kernel_rfl) ?_
 have hput := HP.out (ss.length : Int)
 have hq0 : w0.heap.size ≤ q := Kd.R_base H1.out.n q rfl
 have hA : BAt w0 g (.slice (some ⟨q, 0, none⟩) (ns.length + 1) cu) (.slice B ss.length cv) (ns ++ [⟨2, 0, 0, 0, 0, (ss.length : Int)⟩]) ss (w1.setCell ⟨q, ns.length * 6 + 5, none⟩ (.int .i64 (ss.length : Int))) :=
  ⟨H1.out.lo, blk_grown H1.out.box hput.2 (Kd.R_ne H1.out.n H1.out.box (by decide)), hput.1, Kd.R_over H1.out.s H1.out.n (by decide) hput.2, H1.out.below.setCell hq0 _⟩
 have H3 := Aside0.mk (hA.under (below_drew1 (Below.refl _ _)))
 have hK3 : Kept W ((w1.setCell ⟨q, ns.length * 6 + 5, none⟩ (.int .i64 (ss.length : Int))).drew) (fun k => k = g ∨ some k = u.ownBlock ∨ W.heap.size ≤ k) := by
  refine ⟨?_, fun i hi hn => ?_⟩
  ·have h1 := HK1.out.1
   have h2 : w1.heap.size ≤ ((w1.setCell ⟨q, ns.length * 6 + 5, none⟩ (.int .i64 (ss.length : Int))).drew).heap.size := hput.2.size
   omega
  ·have h1 := HK1.out.2 i hi (fun h => hn (h.imp_right .inl))
   rw [← h1]
   refine hput.2.block i (Nat.lt_of_lt_of_le hi HK1.out.1) (fun e => hn (.inr ?_))
   exact HAT.out i (e.trans rfl)
 have HLW : Aside0 (Kd.C k55 ((w1.setCell ⟨q, ns.length * 6 + 5, none⟩ (.int .i64 (ss.length : Int))).drew) A l.length l) := ⟨HLL.out _ hK3⟩
 have HK3 := Aside0.mk hK3
 clear hput hq0 hA hK3 HP hz5 hf5 hc0 hc1
 generalize hW3 : (w1.setCell ⟨q, ns.length * 6 + 5, none⟩ (.int .i64 (ss.length : Int))).drew = W3 at *
 have h3c1 : W3.cell? ⟨g, 1, none⟩ = some (.slice B ss.length cv) := H3.out.c1
 go_wp2_with fail
 refine start_ (n := 12) (S := fun w' => w'.cell? ⟨g, 1, none⟩ = some (.slice B ss.length cv)) (ds := [8, 11]) #[false, false, false, false, false, false, false, false, false, false, false, false] (by kernel_rfl) rfl rfl (h3c1) (fun hHeld => ?_)
 refine pq_ (i := 0) (n := 23) (bA 12 1) (by kernel_rfl) ?_
 refine pq_ (i := 1) (n := 24) (bA 12 3) (by kernel_rfl) ?_
 refine pq_ (i := 2) (n := 25) (bA 12 7) (by kernel_rfl) ?_
 refine pq_ (i := 3) (n := 26) (bA 12 15) (by kernel_rfl) ?_
 refine pq_ (i := 5) (n := 28) (bA 12 47) (by kernel_rfl) ?_
 refine take_ (i := 4) (N := some 27) (v := ?_) (a' := ?_) (bA 12 63) rfl rfl (by kernel_rfl) (fun _ _ _ h => h) (Or.inl ⟨by rfl, ?_⟩) hHeld ?_ ?_
 rotate_left
 ·intro w' s0
  go_simp
  with_reducible rfl
 rotate_left
 ·exact nrm_
 refine one_ (i := 6) (N := some 29) (bA 12 127) rfl rfl (by kernel_rfl) (by decide) (fun K hK => ?_)
 refine goes_ Try.func37 (by kernel_rfl) rfl #[.slice A l.length c] (by rfl) rfl rfl (by simp only [List.map_toArray, List.map_cons, List.map_nil]; rfl) ?_
 with_reducible refine (ranges_Of.calls A c l (ofL l) _ (Kd.C_drew HLW.out) HLC.out HOF.out).mono ?_
 rintro e w4 ⟨v0, rfl, hr, hb⟩
 refine ⟨_, rfl, ?_⟩
 obtain ⟨A0, c0, rfl, _, _⟩ := Kd.R_reads hr
 have HN4 := Aside0.mk hr
 have H4 := Aside0.mk (BAt.under (BAt.under H3.out (below_drew1 (Below.refl W3.heap.size W3))) hb)
 have HB4 := Aside0.mk hb
 have hc1' := H4.out.c1
 clear hr hb
 refine hK.out _ _ (hc1') (fun hHeld => ?_)
 clear hK K
 refine norm_ (a' := ?_) ?_ ?_
 rotate_left
 ·show Act.put _ (some 29) _ = _
  exact nrm_
 refine one_ (i := 7) (N := some 30) (bA 12 255) rfl rfl (by kernel_rfl) (by decide) (fun K hK => ?_)
 refine value_ (w1 := ?_) (v := ?_) (by rfl) rfl ?_ ?_
 rotate_left 2
 ·go_simp
  constructor
  ·rfl
  ·rfl
 refine hK.out _ _ ((cell_al (W := w4) hc1' _)) (fun hHeld => ?_)
 clear hK K
 refine norm_ (a' := ?_) ?_ ?_
 rotate_left
 ·show Act.put _ (some 30) _ = _
  exact nrm_
 refine last_ (i := 8) (N := some 31) #[true, true, true, true, true, true, true, true, true, false, false, false] rfl rfl (by kernel_rfl) (by decide) (fun K hK => ?_)
 refine Kd.R_append_step (Kd.slice 55 k55) (w0 := w0) w0.heap.size (by rfl) (.tmp 27) (.tmp 30) 23 37 (.slice none 0 0) 24 rfl Try.underlying23 info37 rfl (by decide) (by omega) (.slice B ss.length cv) ss (ofL l) [.slice A0 (ofL l).length c0] (fun _ => True) (fun k => True ∧ some k ≠ (Value.slice B ss.length cv).ownBlock) rfl rfl (Kd.M_row (Kd.R_apartR (Kd.R_lower HN4.out (by have := H3.out.below.size; show _ ≤ W3.drew.heap.size; simpa using this)) H4.out.s (by decide))) (fun _ hk => hk) (fun _ _ => trivial) H4.out.s H4.out.below H4.out.below.size (by have := HSL.out; omega) ?_
 intro v1 w5 ho hb hg hat
 have hbox := blk_grown H4.out.box hg (Kd.R_ne H4.out.s H4.out.box (by decide))
 have HNS := Aside0.mk (Kd.R_over H4.out.n H4.out.s (by decide) hg)
 obtain ⟨A1, c1, e1, _, _⟩ := Kd.R_reads ho
 rw [show (ss ++ [ofL l]).length = ss.length + 1 by simp] at e1
 subst e1
 have hc5 : w5.cell? ⟨g, 1, none⟩ = some (.slice B ss.length cv) := (blk_cell hbox 1).trans rfl
 have hf5 := blk_frozen hbox 1
 have HO := Aside0.mk ho
 have HBX := Aside0.mk hbox
 have HBW := Aside0.mk hb
 have HG := Aside0.mk hg
 have HATV := Aside0.mk hat
 clear ho hb hg hat hbox
 refine hK.out _ _ ?_
 clear hK K
 refine norm_ (a' := ?_) ?_ ?_
 rotate_left
 ·show Act.put _ (some 31) _ = _
  exact nrm_
 refine pq_ (i := 9) (n := 32) (bA 12 1023) (by kernel_rfl) ?_
 refine pq_ (i := 10) (n := 33) (bA 12 2047) (by kernel_rfl) ?_
 refine last_ (i := 11) (N := none) #[true, true, true, true, true, true, true, true, true, true, true, true] rfl rfl (by kernel_rfl) (by decide) (fun K hK => ?_)
 refine skip_ (w1 := ?_) (by rfl) rfl ?_ ?_
 rotate_left
 ·go_simp
  rfl
 refine hK.out _ _ ?_
 clear hK K
 refine done_ (by kernel_rfl) ?_
 have hb4 : (w5.setCell ⟨g, 1, none⟩ (.slice A1 (ss.length + 1) c1)).heap[g]? = some (.cells #[.slice (some ⟨q, 0, none⟩) (ns.length + 1) cu, .slice A1 (ss.length + 1) c1] 65 (0, 0)) := blk_put HBX.out 1 _ rfl
 have HF : Aside0 (BAt w0 g (.slice (some ⟨q, 0, none⟩) (ns.length + 1) cu) (.slice A1 (ss.length + 1) c1) (ns ++ [⟨2, 0, 0, 0, 0, (ss.length : Int)⟩]) (ss ++ [ofL l]) (w5.setCell ⟨g, 1, none⟩ (.slice A1 (ss.length + 1) c1))) := ⟨⟨H.out.lo, hb4, Kd.R_set HNS.out HBX.out (by decide) 1 _, Kd.R_set HO.out HBX.out (by decide) 1 _, HBW.out.setCell H.out.lo _⟩⟩
 have HKF : Aside0 (Kept W (w5.setCell ⟨g, 1, none⟩ (.slice A1 (ss.length + 1) c1)) (fun k => k = g ∨ some k = u.ownBlock ∨ some k = (Value.slice B ss.length cv).ownBlock)) := ⟨by
  have s1 := HK3.out.1
  have s2 : W3.heap.size ≤ w4.heap.size := HB4.out.size
  have s3 : w4.heap.size ≤ w5.heap.size := HG.out.size
  refine ⟨?_, fun i hi hn => ?_⟩
  ·have h3 : (w5.setCell ⟨g, 1, none⟩ (.slice A1 (ss.length + 1) c1)).heap.size = w5.heap.size := by simp
   omega
  ·rw [Below.heap_setCell w5 ⟨g, 1, none⟩ _ i (fun e => hn (.inl e)), HG.out.block i (by omega) (fun e => hn (.inr (.inr e)))]
   have h4 : w4.heap[i]? = W3.heap[i]? := HB4.out.block i (by show i < W3.heap.size; omega)
   rw [h4]
   refine HK3.out.2 i hi ?_
   rintro (h | h | h)
   ·exact hn (.inl h)
   ·exact hn (.inr (.inl h))
   ·omega⟩
 have HV1 : Aside0 (∀ k, some k = (Value.slice A1 (ss.length + 1) c1).ownBlock → some k = (Value.slice B ss.length cv).ownBlock ∨ W.heap.size ≤ k) := ⟨by
  intro k hk
  rcases HATV.out with h1 | ⟨b, h1, h2⟩
  ·exact .inl (hk.trans h1)
  ·right
   rw [h1] at hk
   injection hk with hk
   have s1 := HK3.out.1
   have s2 : W3.heap.size ≤ w4.heap.size := HB4.out.size
   omega⟩
 clear hb4
 go_wp2_with fail
 go_ret
 exact ⟨rfl, _, _, HF.out, HKF.out, fun k hk => HAT.out k (hk.trans rfl), HV1.out⟩
end Go.Proofs.Ytbgoaigbkfibbaa.HandBm

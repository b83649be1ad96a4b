/- An action's words read: what action.Parse makes. Conditions: what the plain functions tell. -/
import Derived.Test.YtkfijbmplllmlaaDoorHandWr
set_option linter.unusedSimpArgs false
set_option linter.unusedVariables false
namespace Go.Proofs.YtkfijbmplllmlaaDoor.HandParse
open Go.RowKit Go.Proofs.YtkfijbmplllmlaaDoorW.PrintWords Go.Proofs.YtkfijbmplllmlaaDoorW.PrintLast Go.Proofs.YtkfijbmplllmlaaDoorW.PrintMore Go.Proofs.YtkfijbmplllmlaaDoor.PA Go.Proofs.YtkfijbmplllmlaaDoor.HandAll Go.Proofs.YtkfijbmplllmlaaDoor.HandRd Go.Proofs.YtkfijbmplllmlaaDoor.HandKw Go.Proofs.YtkfijbmplllmlaaDoor.HandWh Go.Proofs.YtkfijbmplllmlaaDoor.HandWr
attribute [local go_sem] arrI48_0 arrI48_1 arrI56_0 arrI56_1 arrI56_2
attribute [local go_sem high] eqA29 eqA26
theorem below_two {w W : World} {o1 o2 : Obj} (h : Below ((w.alloc o1).alloc o2).heap.size ((w.alloc o1).alloc o2) W) : Below w.heap.size w W :=
  below_then (((Below.refl _ w).alloc (Nat.le_refl _) o1).alloc (by simp) o2) (((Below.refl _ w).alloc (Nat.le_refl _) o1).alloc (by simp) o2).size h
theorem Below.trans_ {w W1 W2 : World} (h : Below w.heap.size w W1) (k : Below W1.heap.size W1 W2) : Below w.heap.size w W2 := below_then h h.size k
theorem new_R (W : World) (s : ByteArray) (v : Value) : IsR W (W.alloc (.cells #[.string s, v, .int .i64 0] 40)) W.heap.size s v 0 := ⟨blk_new W _ 40, Nat.le_refl _⟩
theorem four_set {w W : World} {n m : Nat} {x0 x1 y0 y1 : Value} (hn : w.heap.size ≤ n) (hm : w.heap.size ≤ m) (hnm : n ≠ m) (h4 : W.heap[n]? = some (.cells #[x0, x1] 26 (0, 0))) (h5 : W.heap[m]? = some (.cells #[y0, y1] 29 (0, 0))) (hB : Below w.heap.size w W) (u0 u1 v0 v1 : Value) :
    ((((W.setCell ⟨n, 0, none⟩ u0).setCell ⟨n, 1, none⟩ u1).setCell ⟨m, 0, none⟩ v0).setCell ⟨m, 1, none⟩ v1).heap[n]? = some (.cells #[u0, u1] 26 (0, 0)) ∧ ((((W.setCell ⟨n, 0, none⟩ u0).setCell ⟨n, 1, none⟩ u1).setCell ⟨m, 0, none⟩ v0).setCell ⟨m, 1, none⟩ v1).heap[m]? = some (.cells #[v0, v1] 29 (0, 0)) ∧
      Below w.heap.size w ((((W.setCell ⟨n, 0, none⟩ u0).setCell ⟨n, 1, none⟩ u1).setCell ⟨m, 0, none⟩ v0).setCell ⟨m, 1, none⟩ v1) :=
  ⟨blk_far (p := ⟨m, 1, none⟩) (blk_far (p := ⟨m, 0, none⟩) (blk_set (blk_set h4 0 u0) 1 u1) hnm v0) hnm v1, blk_set (blk_set (blk_far (p := ⟨n, 1, none⟩) (blk_far (p := ⟨n, 0, none⟩) h5 (Ne.symm hnm) u0) (Ne.symm hnm) u1) 0 v0) 1 v1, below_set (below_set (below_set (below_set hB hn) hn) hm) hm⟩
set_option maxRecDepth 100000 in
set_option maxHeartbeats 1000000 in
theorem parse_what (K : Nat) (s : ByteArray) (l : List S48) (nm : ByteArray) (E a b : Int) (A1 : Option Addr) (cm : Nat) (ms : List ByteArray) (w : World) (hA : words_All.f s = some l) (hT : Kd.C Kd.string w (some ⟨0, 0, none⟩) tab_action_kinds.length tab_action_kinds) (hM : Kd.C Kd.string w A1 ms.length ms) (hMc : ms.length ≤ cm)
    (hW : whatF K s l 0 = some (nm, E, a, b)) (hE : E ≠ 0) :
    Calls Tryd.prog 7 #[.string s, .slice A1 ms.length cm] w fun e w' => e = .returned (.tuple #[.agg #[.string ⟨#[]⟩, .int .i64 0], .agg #[.int .i64 E, .int .i64 a]]) ∧ Below w.heap.size w w' := by
  have c1 : (E == 0) = false := beq_eq_false_iff_ne.mpr hE
  clear hE
  have HA := Aside0.mk hA
  have HT := Aside0.mk hT
  have HM := Aside0.mk hM
  have HMC := Aside0.mk hMc
  have HW := Aside0.mk hW
  have HQ5 : ((w.alloc (.cells #[.string ⟨#[]⟩, .int .i64 0] 26)).alloc (.cells #[.int .i64 0, .int .i64 0] 29)).heap[w.heap.size + 1]? = some (.cells #[.int .i64 0, .int .i64 0] 29 (0, 0)) := by
    have := World.alloc_heap_new (w.alloc (.cells #[.string ⟨#[]⟩, .int .i64 0] 26)) (.cells #[.int .i64 0, .int .i64 0] 29)
    rwa [World.size_alloc] at this
  clear hA hT hM hMc hW
  go_enter Tryd.func7, Tryd.ntmps7
  go_wp2_with (first | (go_at_call 13; (with_reducible refine (words_All.calls s l _ HA.out).mono ?_); rintro e W1 ⟨v0, rfl, hR, hb⟩; obtain ⟨A, cap, ev⟩ := Kd.R_slice hR; subst ev; have HCl := Aside0.mk (Kd.R_reads' hR).2.2; have H4 := Aside0.mk (blk_below (blk_alloc (blk_new w #[.string ⟨#[]⟩, .int .i64 0] 26) (.cells #[.int .i64 0, .int .i64 0] 29)) hb); have H5 := Aside0.mk (blk_below HQ5 hb); have HB1 : Aside0 (Below w.heap.size w W1) := ⟨below_two hb⟩; have HL1 : Aside0 (w.heap.size + 1 + 1 ≤ W1.heap.size) := ⟨by have := hb.size; simpa using this⟩; have HT1 := Aside0.mk (Kd.C_below HT.out HB1.out); have HM1 := Aside0.mk (Kd.C_below HM.out HB1.out); clear hR hb) | (go_at_call 14; (with_reducible refine (what_calls K W1.heap.size s A cap l 0 nm E a b W1 _ (new_R W1 s (.slice A l.length cap)) (below_alloc (Below.refl _ W1) _) HCl.out HT1.out HW.out).mono ?_); rintro e W2 ⟨rfl, hI2, hB2, hK2⟩; obtain ⟨g, hg⟩ : ∃ g, g = W1.heap.size := ⟨_, rfl⟩; rw [← hg] at hI2 hK2 ⊢; have HN1 : Aside0 (w.heap.size ≠ g ∧ w.heap.size + 1 ≠ g ∧ w.heap.size + 1 + 1 ≤ g) := ⟨by have := HL1.out; omega⟩; have HR4 := Aside0.mk (KeepBut.blk hK2 (blk_alloc H4.out (.cells #[.string s, .slice A l.length cap, .int .i64 0] 40)) HN1.out.1 (by simp)); have HR5 := Aside0.mk (KeepBut.blk hK2 (blk_alloc H5.out (.cells #[.string s, .slice A l.length cap, .int .i64 0] 40)) HN1.out.2.1 (by simp)); have HI2 := Aside0.mk hI2; have HB2 := Aside0.mk hB2; have HL2 : Aside0 (w.heap.size + 1 + 1 ≤ W2.heap.size) := ⟨by have h1_ := HL1.out; have h2_ := hB2.size; omega⟩; clear hI2 hB2 hK2 hg H4 H5 HL1))
  obtain ⟨q, hq⟩ : ∃ q, q = W2.heap.size := ⟨_, rfl⟩
  have HX : Aside0 ((W2.alloc (.cells #[.int .i64 E, .int .i64 a] 29)).heap[q]? = some (.cells #[.int .i64 E, .int .i64 a] 29 (0, 0))) := ⟨by rw [hq]; exact World.alloc_heap_new W2 _⟩
  have HNq : Aside0 (q ≠ w.heap.size ∧ q ≠ w.heap.size + 1) := ⟨by have := HL2.out; omega⟩
  rw [← hq]
  have HB5 := Aside0.mk (below_drew ((Below.trans_ HB1.out HB2.out).alloc (Below.trans_ HB1.out HB2.out).size (.cells #[.int .i64 E, .int .i64 a] 29)))
  have HR45 := Aside0.mk (blk_drew (blk_alloc HR4.out (.cells #[.int .i64 E, .int .i64 a] 29)))
  have HR55 := Aside0.mk (blk_drew (blk_alloc HR5.out (.cells #[.int .i64 E, .int .i64 a] 29)))
  have HX5 := Aside0.mk (blk_drew HX.out)
  have hy0 : (W2.alloc (.cells #[.int .i64 E, .int .i64 a] 29)).cell? ⟨q, 0, none⟩ = some (.int .i64 E) := (blk_cell HX.out 0).trans rfl
  have hy1 : (W2.alloc (.cells #[.int .i64 E, .int .i64 a] 29)).cell? ⟨q, 1, none⟩ = some (.int .i64 a) := (blk_cell HX.out 1).trans rfl
  clear hq HX
  refine start_ (n := 4) (S := fun w' => w'.cell? ⟨q, 0, none⟩ = some (.int .i64 E) ∧ w'.cell? ⟨q, 1, none⟩ = some (.int .i64 a)) (ds := [3]) #[false, false, false, false] (by kernel_rfl) rfl rfl ⟨hy0, hy1⟩ (fun hHeld => ?_)
  clear hy0 hy1
  generalize (W2.alloc (.cells #[.int .i64 E, .int .i64 a] 29)).drew = W5 at HB5 HR45 HR55 HX5 hHeld ⊢
  have hr0 : W5.cell? ⟨w.heap.size, 0, none⟩ = some (.string ⟨#[]⟩) := (blk_cell HR45.out 0).trans rfl; have hr1 : W5.cell? ⟨w.heap.size, 1, none⟩ = some (.int .i64 0) := (blk_cell HR45.out 1).trans rfl; have fr0 := blk_frozen HR45.out 0; have fr1 := blk_frozen HR45.out 1
  have ht0 : W5.cell? ⟨w.heap.size + 1, 0, none⟩ = some (.int .i64 0) := (blk_cell HR55.out 0).trans rfl; have ht1 : W5.cell? ⟨w.heap.size + 1, 1, none⟩ = some (.int .i64 0) := (blk_cell HR55.out 1).trans rfl; have ft0 := blk_frozen HR55.out 0; have ft1 := blk_frozen HR55.out 1
  refine pure_ (i := 0) (N := some 25) (v := ?_) (a' := ?_) #[true, false, false, false] rfl rfl (by kernel_rfl) (fun _ _ _ h => h) (Or.inl ⟨by rfl, ?_⟩) ?_ ?_
  rotate_left
  · intro w'
    go_simp
    with_reducible rfl
  rotate_left
  · simp only [Act.put, List.setIfInBounds_toArray, List.set_cons_zero, List.set_cons_succ, i64_w, i32_w]
    rfl
  refine take_ (i := 1) (N := some 26) (v := ?_) (a' := ?_) #[true, true, false, false] rfl rfl (by kernel_rfl) (fun _ _ _ h => h) (Or.inl ⟨by rfl, ?_⟩) hHeld ?_ ?_
  rotate_left
  · rintro w' ⟨s0, s1⟩
    go_simp
    with_reducible rfl
  rotate_left
  · simp only [Act.put, List.setIfInBounds_toArray, List.set_cons_zero, List.set_cons_succ, i64_w, i32_w]
    rfl
  refine one_ (i := 2) (N := none) #[true, true, true, false] rfl rfl (by kernel_rfl) (by decide) (fun K hK => ?_)
  refine skip_ (w1 := ?_) (by rfl) rfl ?_ ?_
  rotate_left
  · go_simp
    rfl
  refine hK.out _ _ ⟨((blk_cell (blk_far (p := ⟨w.heap.size, 1, none⟩) (blk_far (p := ⟨w.heap.size, 0, none⟩) HX5.out HNq.out.1 _) HNq.out.1 _) 0).trans rfl), ((blk_cell (blk_far (p := ⟨w.heap.size, 1, none⟩) (blk_far (p := ⟨w.heap.size, 0, none⟩) HX5.out HNq.out.1 _) HNq.out.1 _) 1).trans rfl)⟩ (fun hHeld => ?_)
  clear hK K
  refine last_ (i := 3) (N := none) #[true, true, true, true] rfl rfl (by kernel_rfl) (by decide) (fun K hK => ?_)
  refine skip_ (w1 := ?_) (by rfl) rfl ?_ ?_
  rotate_left
  · go_simp
    rfl
  refine hK.out _ _ ?_
  clear hK K
  refine done_ (by kernel_rfl) ?_

  go_wp2_with fail
  obtain ⟨t1_, t2_, t3_⟩ := four_set (Nat.le_refl w.heap.size) (Nat.le_succ w.heap.size) (by omega) HR45.out HR55.out HB5.out (.string ⟨#[]⟩) (.int .i64 0) (.int .i64 E) (.int .i64 a)
  refine bodyPost_ret (results_list (rs := [.cell 4 26, .cell 5 29]) rfl (by simp) (.cell w.heap.size 26 #[.string ⟨#[]⟩, .int .i64 0] (0, 0) _ rfl t1_ Tryd.underlying26 rfl (by kernel_rfl) (.cell (w.heap.size + 1) 29 #[.int .i64 E, .int .i64 a] (0, 0) _ rfl t2_ Tryd.underlying29 rfl (by kernel_rfl) .nil))) rfl ⟨rfl, t3_⟩
set_option maxRecDepth 100000 in
set_option maxHeartbeats 1000000 in
theorem parse_where (K : Nat) (s : ByteArray) (l : List S48) (nm : ByteArray) (b i E2 a2 b2 : Int) (A1 : Option Addr) (cm : Nat) (ms : List ByteArray) (w : World) (hA : words_All.f s = some l) (hT : Kd.C Kd.string w (some ⟨0, 0, none⟩) tab_action_kinds.length tab_action_kinds) (hM : Kd.C Kd.string w A1 ms.length ms) (hMc : ms.length ≤ cm)
    (hW : whatF K s l 0 = some (nm, 0, 0, b)) (hW2 : whereF K ms s l b = some (i, E2, a2, b2)) (hE : E2 ≠ 0) :
    Calls Tryd.prog 7 #[.string s, .slice A1 ms.length cm] w fun e w' => e = .returned (.tuple #[.agg #[.string ⟨#[]⟩, .int .i64 0], .agg #[.int .i64 E2, .int .i64 a2]]) ∧ Below w.heap.size w w' := by
  have c1 : (E2 == 0) = false := beq_eq_false_iff_ne.mpr hE
  have HW2 := Aside0.mk hW2
  clear hE hW2
  have HA := Aside0.mk hA
  have HT := Aside0.mk hT
  have HM := Aside0.mk hM
  have HMC := Aside0.mk hMc
  have HW := Aside0.mk hW
  have HQ5 : ((w.alloc (.cells #[.string ⟨#[]⟩, .int .i64 0] 26)).alloc (.cells #[.int .i64 0, .int .i64 0] 29)).heap[w.heap.size + 1]? = some (.cells #[.int .i64 0, .int .i64 0] 29 (0, 0)) := by
    have := World.alloc_heap_new (w.alloc (.cells #[.string ⟨#[]⟩, .int .i64 0] 26)) (.cells #[.int .i64 0, .int .i64 0] 29)
    rwa [World.size_alloc] at this
  clear hA hT hM hMc hW
  go_enter Tryd.func7, Tryd.ntmps7
  go_wp2_with (first | (go_at_call 13; (with_reducible refine (words_All.calls s l _ HA.out).mono ?_); rintro e W1 ⟨v0, rfl, hR, hb⟩; obtain ⟨A, cap, ev⟩ := Kd.R_slice hR; subst ev; have HCl := Aside0.mk (Kd.R_reads' hR).2.2; have H4 := Aside0.mk (blk_below (blk_alloc (blk_new w #[.string ⟨#[]⟩, .int .i64 0] 26) (.cells #[.int .i64 0, .int .i64 0] 29)) hb); have H5 := Aside0.mk (blk_below HQ5 hb); have HB1 : Aside0 (Below w.heap.size w W1) := ⟨below_two hb⟩; have HL1 : Aside0 (w.heap.size + 1 + 1 ≤ W1.heap.size) := ⟨by have := hb.size; simpa using this⟩; have HT1 := Aside0.mk (Kd.C_below HT.out HB1.out); have HM1 := Aside0.mk (Kd.C_below HM.out HB1.out); clear hR hb) | (go_at_call 14; (with_reducible refine (what_calls K W1.heap.size s A cap l 0 nm 0 0 b W1 _ (new_R W1 s (.slice A l.length cap)) (below_alloc (Below.refl _ W1) _) HCl.out HT1.out HW.out).mono ?_); rintro e W2 ⟨rfl, hI2, hB2, hK2⟩; obtain ⟨g, hg⟩ : ∃ g, g = W1.heap.size := ⟨_, rfl⟩; rw [← hg] at hI2 hK2 ⊢; have HN1 : Aside0 (w.heap.size ≠ g ∧ w.heap.size + 1 ≠ g ∧ w.heap.size + 1 + 1 ≤ g) := ⟨by have := HL1.out; omega⟩; have HR4 := Aside0.mk (KeepBut.blk hK2 (blk_alloc H4.out (.cells #[.string s, .slice A l.length cap, .int .i64 0] 40)) HN1.out.1 (by simp)); have HR5 := Aside0.mk (KeepBut.blk hK2 (blk_alloc H5.out (.cells #[.string s, .slice A l.length cap, .int .i64 0] 40)) HN1.out.2.1 (by simp)); have HI2 := Aside0.mk hI2; have HB2 := Aside0.mk hB2; have HL2 : Aside0 (w.heap.size + 1 + 1 ≤ W2.heap.size) := ⟨by have h1_ := HL1.out; have h2_ := hB2.size; omega⟩; clear hI2 hB2 hK2 hg H4 H5 HL1) | (go_at_call 15; (with_reducible refine (where_calls K g s A cap l b i E2 a2 b2 W1 _ (IsR.alloc HI2.out _) (HB2.out.alloc HB2.out.size _) HCl.out HT1.out A1 cm ms HM1.out HMC.out HW2.out).mono ?_); rintro e W3 ⟨rfl, hI3, hB3, hK3⟩; obtain ⟨q, hq⟩ : ∃ q, q = W2.heap.size := ⟨_, rfl⟩; have HNq : Aside0 (q ≠ w.heap.size ∧ q ≠ w.heap.size + 1 ∧ q ≠ g ∧ W1.heap.size ≤ q) := ⟨by have h1_ := HL2.out; have h2_ := IsR.lt HI2.out; have h3_ := HB2.out.size; omega⟩; have HX3 := Aside0.mk (KeepBut.blk hK3 (blk_new W2 #[.int .i64 0, .int .i64 0] 29) (by rw [← hq]; exact HNq.out.2.2.1) (by simp)); have HR43 := Aside0.mk (KeepBut.blk hK3 (blk_alloc HR4.out (.cells #[.int .i64 0, .int .i64 0] 29)) HN1.out.1 (by simp)); have HR53 := Aside0.mk (KeepBut.blk hK3 (blk_alloc HR5.out (.cells #[.int .i64 0, .int .i64 0] 29)) HN1.out.2.1 (by simp)); rw [← hq] at HX3 ⊢; have HI3 := Aside0.mk hI3; have HB3 := Aside0.mk hB3; clear hI3 hB3 hK3 hq HI2 HB2 HR4 HR5 HL2; have hx0 : W3.cell? ⟨q, 0, none⟩ = some (.int .i64 0) := (blk_cell HX3.out 0).trans rfl; have hx1 : W3.cell? ⟨q, 1, none⟩ = some (.int .i64 0) := (blk_cell HX3.out 1).trans rfl; have fx0 := blk_frozen HX3.out 0; have fx1 := blk_frozen HX3.out 1; have HX5 := Aside0.mk (blk_set (blk_set HX3.out 0 (.int .i64 E2)) 1 (.int .i64 a2)); have hy0 : ((W3.setCell ⟨q, 0, none⟩ (.int .i64 E2)).setCell ⟨q, 1, none⟩ (.int .i64 a2)).cell? ⟨q, 0, none⟩ = some (.int .i64 E2) := (blk_cell HX5.out 0).trans rfl; have hy1 : ((W3.setCell ⟨q, 0, none⟩ (.int .i64 E2)).setCell ⟨q, 1, none⟩ (.int .i64 a2)).cell? ⟨q, 1, none⟩ = some (.int .i64 a2) := (blk_cell HX5.out 1).trans rfl))
  have HR45 := Aside0.mk (blk_drew (blk_far (p := ⟨q, 1, none⟩) (blk_far (p := ⟨q, 0, none⟩) HR43.out (Ne.symm HNq.out.1) (.int .i64 E2)) (Ne.symm HNq.out.1) (.int .i64 a2)))
  have HR55 := Aside0.mk (blk_drew (blk_far (p := ⟨q, 1, none⟩) (blk_far (p := ⟨q, 0, none⟩) HR53.out (Ne.symm HNq.out.2.1) (.int .i64 E2)) (Ne.symm HNq.out.2.1) (.int .i64 a2)))
  have HB5 : Aside0 (Below w.heap.size w (((W3.setCell ⟨q, 0, none⟩ (.int .i64 E2)).setCell ⟨q, 1, none⟩ (.int .i64 a2)).drew)) := ⟨below_drew (below_set (below_set (Below.trans_ HB1.out HB3.out) (Nat.le_trans HB1.out.size HNq.out.2.2.2)) (Nat.le_trans HB1.out.size HNq.out.2.2.2))⟩
  have HNq := Aside0.mk (And.intro HNq.out.1 HNq.out.2.1)
  replace HX5 := Aside0.mk (blk_drew HX5.out)
  clear hx0 hx1 fx0 fx1 HX3 HR43 HR53 HI3 HB3
  refine start_ (n := 4) (S := fun w' => w'.cell? ⟨q, 0, none⟩ = some (.int .i64 E2) ∧ w'.cell? ⟨q, 1, none⟩ = some (.int .i64 a2)) (ds := [3]) #[false, false, false, false] (by kernel_rfl) rfl rfl ⟨hy0, hy1⟩ (fun hHeld => ?_)
  clear hy0 hy1
  generalize ((W3.setCell ⟨q, 0, none⟩ (.int .i64 E2)).setCell ⟨q, 1, none⟩ (.int .i64 a2)).drew = W5 at HB5 HR45 HR55 HX5 hHeld ⊢
  have hr0 : W5.cell? ⟨w.heap.size, 0, none⟩ = some (.string ⟨#[]⟩) := (blk_cell HR45.out 0).trans rfl; have hr1 : W5.cell? ⟨w.heap.size, 1, none⟩ = some (.int .i64 0) := (blk_cell HR45.out 1).trans rfl; have fr0 := blk_frozen HR45.out 0; have fr1 := blk_frozen HR45.out 1
  have ht0 : W5.cell? ⟨w.heap.size + 1, 0, none⟩ = some (.int .i64 0) := (blk_cell HR55.out 0).trans rfl; have ht1 : W5.cell? ⟨w.heap.size + 1, 1, none⟩ = some (.int .i64 0) := (blk_cell HR55.out 1).trans rfl; have ft0 := blk_frozen HR55.out 0; have ft1 := blk_frozen HR55.out 1
  refine pure_ (i := 0) (N := some 36) (v := ?_) (a' := ?_) #[true, false, false, false] rfl rfl (by kernel_rfl) (fun _ _ _ h => h) (Or.inl ⟨by rfl, ?_⟩) ?_ ?_
  rotate_left
  · intro w'
    go_simp
    with_reducible rfl
  rotate_left
  · simp only [Act.put, List.setIfInBounds_toArray, List.set_cons_zero, List.set_cons_succ, i64_w, i32_w]
    rfl
  refine take_ (i := 1) (N := some 37) (v := ?_) (a' := ?_) #[true, true, false, false] rfl rfl (by kernel_rfl) (fun _ _ _ h => h) (Or.inl ⟨by rfl, ?_⟩) hHeld ?_ ?_
  rotate_left
  · rintro w' ⟨s0, s1⟩
    go_simp
    with_reducible rfl
  rotate_left
  · simp only [Act.put, List.setIfInBounds_toArray, List.set_cons_zero, List.set_cons_succ, i64_w, i32_w]
    rfl
  refine one_ (i := 2) (N := none) #[true, true, true, false] rfl rfl (by kernel_rfl) (by decide) (fun K hK => ?_)
  refine skip_ (w1 := ?_) (by rfl) rfl ?_ ?_
  rotate_left
  · go_simp
    rfl
  refine hK.out _ _ ⟨((blk_cell (blk_far (p := ⟨w.heap.size, 1, none⟩) (blk_far (p := ⟨w.heap.size, 0, none⟩) HX5.out HNq.out.1 _) HNq.out.1 _) 0).trans rfl), ((blk_cell (blk_far (p := ⟨w.heap.size, 1, none⟩) (blk_far (p := ⟨w.heap.size, 0, none⟩) HX5.out HNq.out.1 _) HNq.out.1 _) 1).trans rfl)⟩ (fun hHeld => ?_)
  clear hK K
  refine last_ (i := 3) (N := none) #[true, true, true, true] rfl rfl (by kernel_rfl) (by decide) (fun K hK => ?_)
  refine skip_ (w1 := ?_) (by rfl) rfl ?_ ?_
  rotate_left
  · go_simp
    rfl
  refine hK.out _ _ ?_
  clear hK K
  refine done_ (by kernel_rfl) ?_

  go_wp2_with fail
  obtain ⟨t1_, t2_, t3_⟩ := four_set (Nat.le_refl w.heap.size) (Nat.le_succ w.heap.size) (by omega) HR45.out HR55.out HB5.out (.string ⟨#[]⟩) (.int .i64 0) (.int .i64 E2) (.int .i64 a2)
  refine bodyPost_ret (results_list (rs := [.cell 4 26, .cell 5 29]) rfl (by simp) (.cell w.heap.size 26 #[.string ⟨#[]⟩, .int .i64 0] (0, 0) _ rfl t1_ Tryd.underlying26 rfl (by kernel_rfl) (.cell (w.heap.size + 1) 29 #[.int .i64 E2, .int .i64 a2] (0, 0) _ rfl t2_ Tryd.underlying29 rfl (by kernel_rfl) .nil))) rfl ⟨rfl, t3_⟩
set_option maxRecDepth 100000 in
set_option maxHeartbeats 1000000 in
theorem parse_more (K : Nat) (s : ByteArray) (l : List S48) (nm : ByteArray) (b i b2 p b3 : Int) (wd : ByteArray) (A1 : Option Addr) (cm : Nat) (ms : List ByteArray) (w : World) (hA : words_All.f s = some l) (hT : Kd.C Kd.string w (some ⟨0, 0, none⟩) tab_action_kinds.length tab_action_kinds) (hM : Kd.C Kd.string w A1 ms.length ms) (hMc : ms.length ≤ cm)
    (hW : whatF K s l 0 = some (nm, 0, 0, b)) (hW2 : whereF K ms s l b = some (i, 0, 0, b2)) (hW3 : wordF s l b2 = some (wd, p, b3)) (hE : ¬ wd.toList = ([] : List UInt8)) :
    Calls Tryd.prog 7 #[.string s, .slice A1 ms.length cm] w fun e w' => e = .returned (.tuple #[.agg #[.string ⟨#[]⟩, .int .i64 0], .agg #[.int .i64 3, .int .i64 p]]) ∧ Below w.heap.size w w' := by
  have c1 : (wd.toList == ([] : List UInt8)) = false := beq_eq_false_iff_ne.mpr hE
  have HW2 := Aside0.mk hW2
  have HW3 := Aside0.mk hW3
  clear hE hW2 hW3
  have HA := Aside0.mk hA
  have HT := Aside0.mk hT
  have HM := Aside0.mk hM
  have HMC := Aside0.mk hMc
  have HW := Aside0.mk hW
  have HQ5 : ((w.alloc (.cells #[.string ⟨#[]⟩, .int .i64 0] 26)).alloc (.cells #[.int .i64 0, .int .i64 0] 29)).heap[w.heap.size + 1]? = some (.cells #[.int .i64 0, .int .i64 0] 29 (0, 0)) := by
    have := World.alloc_heap_new (w.alloc (.cells #[.string ⟨#[]⟩, .int .i64 0] 26)) (.cells #[.int .i64 0, .int .i64 0] 29)
    rwa [World.size_alloc] at this
  clear hA hT hM hMc hW
  go_enter Tryd.func7, Tryd.ntmps7
  go_wp2_with (first | (go_at_call 13; (with_reducible refine (words_All.calls s l _ HA.out).mono ?_); rintro e W1 ⟨v0, rfl, hR, hb⟩; obtain ⟨A, cap, ev⟩ := Kd.R_slice hR; subst ev; have HCl := Aside0.mk (Kd.R_reads' hR).2.2; have H4 := Aside0.mk (blk_below (blk_alloc (blk_new w #[.string ⟨#[]⟩, .int .i64 0] 26) (.cells #[.int .i64 0, .int .i64 0] 29)) hb); have H5 := Aside0.mk (blk_below HQ5 hb); have HB1 : Aside0 (Below w.heap.size w W1) := ⟨below_two hb⟩; have HL1 : Aside0 (w.heap.size + 1 + 1 ≤ W1.heap.size) := ⟨by have := hb.size; simpa using this⟩; have HT1 := Aside0.mk (Kd.C_below HT.out HB1.out); have HM1 := Aside0.mk (Kd.C_below HM.out HB1.out); clear hR hb) | (go_at_call 14; (with_reducible refine (what_calls K W1.heap.size s A cap l 0 nm 0 0 b W1 _ (new_R W1 s (.slice A l.length cap)) (below_alloc (Below.refl _ W1) _) HCl.out HT1.out HW.out).mono ?_); rintro e W2 ⟨rfl, hI2, hB2, hK2⟩; obtain ⟨g, hg⟩ : ∃ g, g = W1.heap.size := ⟨_, rfl⟩; rw [← hg] at hI2 hK2 ⊢; have HN1 : Aside0 (w.heap.size ≠ g ∧ w.heap.size + 1 ≠ g ∧ w.heap.size + 1 + 1 ≤ g) := ⟨by have := HL1.out; omega⟩; have HR4 := Aside0.mk (KeepBut.blk hK2 (blk_alloc H4.out (.cells #[.string s, .slice A l.length cap, .int .i64 0] 40)) HN1.out.1 (by simp)); have HR5 := Aside0.mk (KeepBut.blk hK2 (blk_alloc H5.out (.cells #[.string s, .slice A l.length cap, .int .i64 0] 40)) HN1.out.2.1 (by simp)); have HI2 := Aside0.mk hI2; have HB2 := Aside0.mk hB2; have HL2 : Aside0 (w.heap.size + 1 + 1 ≤ W2.heap.size) := ⟨by have h1_ := HL1.out; have h2_ := hB2.size; omega⟩; clear hI2 hB2 hK2 hg H4 H5 HL1) | (go_at_call 15; (with_reducible refine (where_calls K g s A cap l b i 0 0 b2 W1 _ (IsR.alloc HI2.out _) (HB2.out.alloc HB2.out.size _) HCl.out HT1.out A1 cm ms HM1.out HMC.out HW2.out).mono ?_); rintro e W3 ⟨rfl, hI3, hB3, hK3⟩; obtain ⟨q, hq⟩ : ∃ q, q = W2.heap.size := ⟨_, rfl⟩; have HNq : Aside0 (q ≠ w.heap.size ∧ q ≠ w.heap.size + 1 ∧ q ≠ g ∧ W1.heap.size ≤ q) := ⟨by have h1_ := HL2.out; have h2_ := IsR.lt HI2.out; have h3_ := HB2.out.size; omega⟩; have HX3 := Aside0.mk (KeepBut.blk hK3 (blk_new W2 #[.int .i64 0, .int .i64 0] 29) (by rw [← hq]; exact HNq.out.2.2.1) (by simp)); have HR43 := Aside0.mk (KeepBut.blk hK3 (blk_alloc HR4.out (.cells #[.int .i64 0, .int .i64 0] 29)) HN1.out.1 (by simp)); have HR53 := Aside0.mk (KeepBut.blk hK3 (blk_alloc HR5.out (.cells #[.int .i64 0, .int .i64 0] 29)) HN1.out.2.1 (by simp)); rw [← hq] at HX3 ⊢; have HI3 := Aside0.mk hI3; have HB3 := Aside0.mk hB3; clear hI3 hB3 hK3 hq HI2 HB2 HR4 HR5 HL2; have hx0 : W3.cell? ⟨q, 0, none⟩ = some (.int .i64 0) := (blk_cell HX3.out 0).trans rfl; have hx1 : W3.cell? ⟨q, 1, none⟩ = some (.int .i64 0) := (blk_cell HX3.out 1).trans rfl; have fx0 := blk_frozen HX3.out 0; have fx1 := blk_frozen HX3.out 1; have HX5 := Aside0.mk (blk_set (blk_set HX3.out 0 (.int .i64 0)) 1 (.int .i64 0)); have hy0 : ((W3.setCell ⟨q, 0, none⟩ (.int .i64 0)).setCell ⟨q, 1, none⟩ (.int .i64 0)).cell? ⟨q, 0, none⟩ = some (.int .i64 0) := (blk_cell HX5.out 0).trans rfl; have hy1 : ((W3.setCell ⟨q, 0, none⟩ (.int .i64 0)).setCell ⟨q, 1, none⟩ (.int .i64 0)).cell? ⟨q, 1, none⟩ = some (.int .i64 0) := (blk_cell HX5.out 1).trans rfl) | (go_at_call 16; (with_reducible refine (word_calls g s A cap l b2 wd p b3 W1 _ (IsR.far (IsR.far HI3.out (Ne.symm HNq.out.2.2.1) 0 _) (Ne.symm HNq.out.2.2.1) 1 _) (below_set (below_set HB3.out HNq.out.2.2.2) HNq.out.2.2.2) HCl.out HW3.out).mono ?_); rintro e W4 ⟨rfl, hI4, hB4, hK4⟩; have HR44 := Aside0.mk (KeepBut.blk hK4 (blk_far (p := ⟨q, 1, none⟩) (blk_far (p := ⟨q, 0, none⟩) HR43.out (Ne.symm HNq.out.1) (.int .i64 0)) (Ne.symm HNq.out.1) (.int .i64 0)) HN1.out.1 (by simp)); have HR54 := Aside0.mk (KeepBut.blk hK4 (blk_far (p := ⟨q, 1, none⟩) (blk_far (p := ⟨q, 0, none⟩) HR53.out (Ne.symm HNq.out.2.1) (.int .i64 0)) (Ne.symm HNq.out.2.1) (.int .i64 0)) HN1.out.2.1 (by simp)); have HB4 := Aside0.mk (Below.trans_ HB1.out hB4); clear hI4 hB4 hK4 hx0 hx1 fx0 fx1 hy0 hy1 HX3 HX5 HR43 HR53 HI3 HB3; have hr0 : W4.cell? ⟨w.heap.size, 0, none⟩ = some (.string ⟨#[]⟩) := (blk_cell HR44.out 0).trans rfl; have hr1 : W4.cell? ⟨w.heap.size, 1, none⟩ = some (.int .i64 0) := (blk_cell HR44.out 1).trans rfl; have fr0 := blk_frozen HR44.out 0; have fr1 := blk_frozen HR44.out 1; have ht0 : W4.cell? ⟨w.heap.size + 1, 0, none⟩ = some (.int .i64 0) := (blk_cell HR54.out 0).trans rfl; have ht1 : W4.cell? ⟨w.heap.size + 1, 1, none⟩ = some (.int .i64 0) := (blk_cell HR54.out 1).trans rfl; have ft0 := blk_frozen HR54.out 0; have ft1 := blk_frozen HR54.out 1))
  obtain ⟨t1_, t2_, t3_⟩ := four_set (Nat.le_refl w.heap.size) (Nat.le_succ w.heap.size) (by omega) HR44.out HR54.out HB4.out (.string ⟨#[]⟩) (.int .i64 0) (.int .i64 3) (.int .i64 p)
  refine bodyPost_ret (results_list (rs := [.cell 4 26, .cell 5 29]) rfl (by simp) (.cell w.heap.size 26 #[.string ⟨#[]⟩, .int .i64 0] (0, 0) _ rfl t1_ Tryd.underlying26 rfl (by kernel_rfl) (.cell (w.heap.size + 1) 29 #[.int .i64 3, .int .i64 p] (0, 0) _ rfl t2_ Tryd.underlying29 rfl (by kernel_rfl) .nil))) rfl ⟨rfl, t3_⟩
set_option maxRecDepth 100000 in
set_option maxHeartbeats 1000000 in
theorem parse_good (K : Nat) (s : ByteArray) (l : List S48) (nm : ByteArray) (b i b2 p b3 : Int) (wd : ByteArray) (A1 : Option Addr) (cm : Nat) (ms : List ByteArray) (w : World) (hA : words_All.f s = some l) (hT : Kd.C Kd.string w (some ⟨0, 0, none⟩) tab_action_kinds.length tab_action_kinds) (hM : Kd.C Kd.string w A1 ms.length ms) (hMc : ms.length ≤ cm)
    (hW : whatF K s l 0 = some (nm, 0, 0, b)) (hW2 : whereF K ms s l b = some (i, 0, 0, b2)) (hW3 : wordF s l b2 = some (wd, p, b3)) (hE : wd.toList = ([] : List UInt8)) :
    Calls Tryd.prog 7 #[.string s, .slice A1 ms.length cm] w fun e w' => e = .returned (.tuple #[.agg #[.string nm, .int .i64 i], .agg #[.int .i64 0, .int .i64 0]]) ∧ Below w.heap.size w w' := by
  have c1 : (wd.toList == ([] : List UInt8)) = true := beq_iff_eq.mpr hE
  have HW2 := Aside0.mk hW2
  have HW3 := Aside0.mk hW3
  clear hE hW2 hW3
  have HA := Aside0.mk hA
  have HT := Aside0.mk hT
  have HM := Aside0.mk hM
  have HMC := Aside0.mk hMc
  have HW := Aside0.mk hW
  have HQ5 : ((w.alloc (.cells #[.string ⟨#[]⟩, .int .i64 0] 26)).alloc (.cells #[.int .i64 0, .int .i64 0] 29)).heap[w.heap.size + 1]? = some (.cells #[.int .i64 0, .int .i64 0] 29 (0, 0)) := by
    have := World.alloc_heap_new (w.alloc (.cells #[.string ⟨#[]⟩, .int .i64 0] 26)) (.cells #[.int .i64 0, .int .i64 0] 29)
    rwa [World.size_alloc] at this
  clear hA hT hM hMc hW
  go_enter Tryd.func7, Tryd.ntmps7
  go_wp2_with (first | (go_at_call 13; (with_reducible refine (words_All.calls s l _ HA.out).mono ?_); rintro e W1 ⟨v0, rfl, hR, hb⟩; obtain ⟨A, cap, ev⟩ := Kd.R_slice hR; subst ev; have HCl := Aside0.mk (Kd.R_reads' hR).2.2; have H4 := Aside0.mk (blk_below (blk_alloc (blk_new w #[.string ⟨#[]⟩, .int .i64 0] 26) (.cells #[.int .i64 0, .int .i64 0] 29)) hb); have H5 := Aside0.mk (blk_below HQ5 hb); have HB1 : Aside0 (Below w.heap.size w W1) := ⟨below_two hb⟩; have HL1 : Aside0 (w.heap.size + 1 + 1 ≤ W1.heap.size) := ⟨by have := hb.size; simpa using this⟩; have HT1 := Aside0.mk (Kd.C_below HT.out HB1.out); have HM1 := Aside0.mk (Kd.C_below HM.out HB1.out); clear hR hb) | (go_at_call 14; (with_reducible refine (what_calls K W1.heap.size s A cap l 0 nm 0 0 b W1 _ (new_R W1 s (.slice A l.length cap)) (below_alloc (Below.refl _ W1) _) HCl.out HT1.out HW.out).mono ?_); rintro e W2 ⟨rfl, hI2, hB2, hK2⟩; obtain ⟨g, hg⟩ : ∃ g, g = W1.heap.size := ⟨_, rfl⟩; rw [← hg] at hI2 hK2 ⊢; have HN1 : Aside0 (w.heap.size ≠ g ∧ w.heap.size + 1 ≠ g ∧ w.heap.size + 1 + 1 ≤ g) := ⟨by have := HL1.out; omega⟩; have HR4 := Aside0.mk (KeepBut.blk hK2 (blk_alloc H4.out (.cells #[.string s, .slice A l.length cap, .int .i64 0] 40)) HN1.out.1 (by simp)); have HR5 := Aside0.mk (KeepBut.blk hK2 (blk_alloc H5.out (.cells #[.string s, .slice A l.length cap, .int .i64 0] 40)) HN1.out.2.1 (by simp)); have HI2 := Aside0.mk hI2; have HB2 := Aside0.mk hB2; have HL2 : Aside0 (w.heap.size + 1 + 1 ≤ W2.heap.size) := ⟨by have h1_ := HL1.out; have h2_ := hB2.size; omega⟩; clear hI2 hB2 hK2 hg H4 H5 HL1) | (go_at_call 15; (with_reducible refine (where_calls K g s A cap l b i 0 0 b2 W1 _ (IsR.alloc HI2.out _) (HB2.out.alloc HB2.out.size _) HCl.out HT1.out A1 cm ms HM1.out HMC.out HW2.out).mono ?_); rintro e W3 ⟨rfl, hI3, hB3, hK3⟩; obtain ⟨q, hq⟩ : ∃ q, q = W2.heap.size := ⟨_, rfl⟩; have HNq : Aside0 (q ≠ w.heap.size ∧ q ≠ w.heap.size + 1 ∧ q ≠ g ∧ W1.heap.size ≤ q) := ⟨by have h1_ := HL2.out; have h2_ := IsR.lt HI2.out; have h3_ := HB2.out.size; omega⟩; have HX3 := Aside0.mk (KeepBut.blk hK3 (blk_new W2 #[.int .i64 0, .int .i64 0] 29) (by rw [← hq]; exact HNq.out.2.2.1) (by simp)); have HR43 := Aside0.mk (KeepBut.blk hK3 (blk_alloc HR4.out (.cells #[.int .i64 0, .int .i64 0] 29)) HN1.out.1 (by simp)); have HR53 := Aside0.mk (KeepBut.blk hK3 (blk_alloc HR5.out (.cells #[.int .i64 0, .int .i64 0] 29)) HN1.out.2.1 (by simp)); rw [← hq] at HX3 ⊢; have HI3 := Aside0.mk hI3; have HB3 := Aside0.mk hB3; clear hI3 hB3 hK3 hq HI2 HB2 HR4 HR5 HL2; have hx0 : W3.cell? ⟨q, 0, none⟩ = some (.int .i64 0) := (blk_cell HX3.out 0).trans rfl; have hx1 : W3.cell? ⟨q, 1, none⟩ = some (.int .i64 0) := (blk_cell HX3.out 1).trans rfl; have fx0 := blk_frozen HX3.out 0; have fx1 := blk_frozen HX3.out 1; have HX5 := Aside0.mk (blk_set (blk_set HX3.out 0 (.int .i64 0)) 1 (.int .i64 0)); have hy0 : ((W3.setCell ⟨q, 0, none⟩ (.int .i64 0)).setCell ⟨q, 1, none⟩ (.int .i64 0)).cell? ⟨q, 0, none⟩ = some (.int .i64 0) := (blk_cell HX5.out 0).trans rfl; have hy1 : ((W3.setCell ⟨q, 0, none⟩ (.int .i64 0)).setCell ⟨q, 1, none⟩ (.int .i64 0)).cell? ⟨q, 1, none⟩ = some (.int .i64 0) := (blk_cell HX5.out 1).trans rfl) | (go_at_call 16; (with_reducible refine (word_calls g s A cap l b2 wd p b3 W1 _ (IsR.far (IsR.far HI3.out (Ne.symm HNq.out.2.2.1) 0 _) (Ne.symm HNq.out.2.2.1) 1 _) (below_set (below_set HB3.out HNq.out.2.2.2) HNq.out.2.2.2) HCl.out HW3.out).mono ?_); rintro e W4 ⟨rfl, hI4, hB4, hK4⟩; have HR44 := Aside0.mk (KeepBut.blk hK4 (blk_far (p := ⟨q, 1, none⟩) (blk_far (p := ⟨q, 0, none⟩) HR43.out (Ne.symm HNq.out.1) (.int .i64 0)) (Ne.symm HNq.out.1) (.int .i64 0)) HN1.out.1 (by simp)); have HR54 := Aside0.mk (KeepBut.blk hK4 (blk_far (p := ⟨q, 1, none⟩) (blk_far (p := ⟨q, 0, none⟩) HR53.out (Ne.symm HNq.out.2.1) (.int .i64 0)) (Ne.symm HNq.out.2.1) (.int .i64 0)) HN1.out.2.1 (by simp)); have HB4 := Aside0.mk (Below.trans_ HB1.out hB4); clear hI4 hB4 hK4 hx0 hx1 fx0 fx1 hy0 hy1 HX3 HX5 HR43 HR53 HI3 HB3; have hr0 : W4.cell? ⟨w.heap.size, 0, none⟩ = some (.string ⟨#[]⟩) := (blk_cell HR44.out 0).trans rfl; have hr1 : W4.cell? ⟨w.heap.size, 1, none⟩ = some (.int .i64 0) := (blk_cell HR44.out 1).trans rfl; have fr0 := blk_frozen HR44.out 0; have fr1 := blk_frozen HR44.out 1; have ht0 : W4.cell? ⟨w.heap.size + 1, 0, none⟩ = some (.int .i64 0) := (blk_cell HR54.out 0).trans rfl; have ht1 : W4.cell? ⟨w.heap.size + 1, 1, none⟩ = some (.int .i64 0) := (blk_cell HR54.out 1).trans rfl; have ft0 := blk_frozen HR54.out 0; have ft1 := blk_frozen HR54.out 1))
  obtain ⟨t1_, t2_, t3_⟩ := four_set (Nat.le_refl w.heap.size) (Nat.le_succ w.heap.size) (by omega) HR44.out HR54.out HB4.out (.string nm) (.int .i64 i) (.int .i64 0) (.int .i64 0)
  refine bodyPost_ret (results_list (rs := [.cell 4 26, .cell 5 29]) rfl (by simp) (.cell w.heap.size 26 #[.string nm, .int .i64 i] (0, 0) _ rfl t1_ Tryd.underlying26 rfl (by kernel_rfl) (.cell (w.heap.size + 1) 29 #[.int .i64 0, .int .i64 0] (0, 0) _ rfl t2_ Tryd.underlying29 rfl (by kernel_rfl) .nil))) rfl ⟨rfl, t3_⟩
theorem whatF_zero {K : Nat} {s : ByteArray} {l : List S48} {k : Int} {nm : ByteArray} {E a b : Int} (h : whatF K s l k = some (nm, E, a, b)) (hE : E = 0) : a = 0 := by
  unfold whatF at h
  obtain ⟨⟨kw, E1, a1, b1⟩, h1, h2⟩ := Option.bind_eq_some_iff.mp h
  dsimp only at h2
  split at h2
  · simp only [Option.some.injEq, Prod.mk.injEq] at h2
    obtain ⟨rfl, rfl, rfl, rfl⟩ := h2
    exact keyF_zero h1 hE
  · obtain ⟨⟨nm', p, E2, a2, b2⟩, h3, h4⟩ := Option.bind_eq_some_iff.mp h2
    simp only [Option.some.injEq, Prod.mk.injEq] at h4
    obtain ⟨rfl, rfl, rfl, rfl⟩ := h4
    exact nameF_zero h3 hE
theorem whereF_zero {K : Nat} {ms : List ByteArray} {s : ByteArray} {l : List S48} {k : Int} {i E a b : Int} (h : whereF K ms s l k = some (i, E, a, b)) (hE : E = 0) : a = 0 := by
  unfold whereF at h
  split at h
  · simp only [Option.some.injEq, Prod.mk.injEq] at h
    omega
  · obtain ⟨⟨kw, E1, a1, b1⟩, h1, h2⟩ := Option.bind_eq_some_iff.mp h
    dsimp only at h2
    split at h2
    · simp only [Option.some.injEq, Prod.mk.injEq] at h2
      obtain ⟨rfl, rfl, rfl, rfl⟩ := h2
      exact keyF_zero h1 hE
    · obtain ⟨⟨nm, p, E2, a2, b2⟩, h3, h4⟩ := Option.bind_eq_some_iff.mp h2
      dsimp only at h4
      split at h4
      · simp only [Option.some.injEq, Prod.mk.injEq] at h4
        obtain ⟨rfl, rfl, rfl, rfl⟩ := h4
        exact nameF_zero h3 hE
      · obtain ⟨j, h5, h6⟩ := Option.bind_eq_some_iff.mp h4
        split at h6
        · simp only [Option.some.injEq, Prod.mk.injEq] at h6
          omega
        · simp only [Option.some.injEq, Prod.mk.injEq] at h6
          omega
/-- What an action's words tell: the name, the mode, what is wrong. -/
def action_Parse.f (K : Nat) (s : ByteArray) (ms : List ByteArray) : Option (ByteArray × Int × Int × Int) :=
  (words_All.f s).bind fun l => (whatF K s l 0).bind fun q => if q.2.1 ≠ 0 then some (⟨#[]⟩, 0, q.2.1, q.2.2.1)
    else (whereF K ms s l q.2.2.2).bind fun i => if i.2.1 ≠ 0 then some (⟨#[]⟩, 0, i.2.1, i.2.2.1)
      else (wordF s l i.2.2.2).bind fun v => if v.1.toList = ([] : List UInt8) then some (q.1, i.1, 0, 0) else some (⟨#[]⟩, 0, 3, v.2.1)
theorem keyF_mono (ks : List ByteArray) (s : ByteArray) (l : List S48) (j : Int) (k : Nat) : LeO (keyF k ks s l j) (keyF (k + 1) ks s l j) := LeO.bind (LeO.refl _) (fun b => LeO.bind (slices_Contains_string_string.mono ks b.1 k) (fun _ => LeO.refl _))
theorem nameF_mono (s : ByteArray) (l : List S48) (j : Int) (k : Nat) : LeO (nameF k s l j) (nameF (k + 1) s l j) := LeO.bind (LeO.refl _) (fun b => LeO.ite (LeO.refl _) (LeO.bind (words_Name.mono b.1 k) (fun _ => LeO.refl _)))
theorem whatF_mono (s : ByteArray) (l : List S48) (j : Int) (k : Nat) : LeO (whatF k s l j) (whatF (k + 1) s l j) := LeO.bind (keyF_mono _ s l j k) (fun b => LeO.ite (LeO.refl _) (LeO.bind (nameF_mono s l _ k) (fun _ => LeO.refl _)))
theorem whereF_mono (ms : List ByteArray) (s : ByteArray) (l : List S48) (j : Int) (k : Nat) : LeO (whereF k ms s l j) (whereF (k + 1) ms s l j) :=
  LeO.ite (LeO.refl _) (LeO.bind (keyF_mono _ s l j k) (fun b => LeO.ite (LeO.refl _) (LeO.bind (nameF_mono s l _ k) (fun n => LeO.ite (LeO.refl _) (LeO.bind (slices_Index_string_string.mono ms n.1 k) (fun _ => LeO.refl _))))))
theorem action_Parse.mono : ∀ (a0 : ByteArray) (a1 : List ByteArray) (k : Nat), LeO (action_Parse.f k a0 a1) (action_Parse.f (k + 1) a0 a1) := fun s ms k =>
  LeO.bind (LeO.refl _) (fun l => LeO.bind (whatF_mono s l 0 k) (fun q => LeO.ite (LeO.refl _) (LeO.bind (whereF_mono ms s l _ k) (fun i => LeO.refl _))))
theorem action_Parse.calls (k : Nat) (a0 : ByteArray) (A1 : Option Addr) (c1 : Nat) (l1 : List ByteArray) (r1 : ByteArray) (r2 r3 r4 : Int) (w : World) (hr1 : Kd.C Kd.string w A1 l1.length l1) (hc1 : l1.length ≤ c1) (hrG0 : Kd.C Kd.string w (some ⟨0, 0, none⟩) tab_action_kinds.length tab_action_kinds) (h : action_Parse.f k a0 l1 = some (r1, r2, r3, r4)) :
    Calls Tryd.prog 7 #[.string a0, .slice A1 l1.length c1] w fun e w' => e = .returned (.tuple #[.agg #[.string r1, .int .i64 r2], .agg #[.int .i64 r3, .int .i64 r4]]) ∧ Below w.heap.size w w' := by
  unfold action_Parse.f at h
  obtain ⟨l, hA, h1⟩ := Option.bind_eq_some_iff.mp h
  obtain ⟨⟨nm, E, a, b⟩, h2, h3⟩ := Option.bind_eq_some_iff.mp h1
  dsimp only at h3
  by_cases hE : E = 0
  · have hz := whatF_zero h2 hE
    subst hE
    subst hz
    rw [if_neg (fun e => e rfl)] at h3
    obtain ⟨⟨i, E2, a2, b2⟩, h4, h5⟩ := Option.bind_eq_some_iff.mp h3
    dsimp only at h5
    by_cases hE2 : E2 = 0
    · have hz := whereF_zero h4 hE2
      subst hE2
      subst hz
      rw [if_neg (fun e => e rfl)] at h5
      obtain ⟨⟨wd, p, b3⟩, h6, h7⟩ := Option.bind_eq_some_iff.mp h5
      dsimp only at h7
      by_cases hw : wd.toList = ([] : List UInt8)
      · rw [if_pos hw] at h7
        simp only [Option.some.injEq, Prod.mk.injEq] at h7
        obtain ⟨rfl, rfl, rfl, rfl⟩ := h7
        exact parse_good k a0 l nm b i b2 p b3 wd A1 c1 l1 w hA hrG0 hr1 hc1 h2 h4 h6 hw
      · rw [if_neg hw] at h7
        simp only [Option.some.injEq, Prod.mk.injEq] at h7
        obtain ⟨rfl, rfl, rfl, rfl⟩ := h7
        exact parse_more k a0 l nm b i b2 p b3 wd A1 c1 l1 w hA hrG0 hr1 hc1 h2 h4 h6 hw
    · rw [if_pos hE2] at h5
      simp only [Option.some.injEq, Prod.mk.injEq] at h5
      obtain ⟨rfl, rfl, rfl, rfl⟩ := h5
      exact parse_where k a0 l nm b i E2 a2 b2 A1 c1 l1 w hA hrG0 hr1 hc1 h2 h4 hE2
  · rw [if_pos hE] at h3
    simp only [Option.some.injEq, Prod.mk.injEq] at h3
    obtain ⟨rfl, rfl, rfl, rfl⟩ := h3
    exact parse_what k a0 l nm E a b A1 c1 l1 w hA hrG0 hr1 hc1 h2 hE
end Go.Proofs.YtkfijbmplllmlaaDoor.HandParse

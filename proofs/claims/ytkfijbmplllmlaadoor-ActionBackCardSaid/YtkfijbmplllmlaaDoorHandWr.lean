/- Where an action goes. Conditions: what the plain functions tell. -/
import Derived.Test.YtkfijbmplllmlaaDoorHandWh
set_option linter.unusedSimpArgs false
set_option linter.unusedVariables false
namespace Go.Proofs.YtkfijbmplllmlaaDoor.HandWr
open Go.RowKit Go.Proofs.YtkfijbmplllmlaaDoorW.PrintWords Go.Proofs.YtkfijbmplllmlaaDoorW.PrintLast Go.Proofs.YtkfijbmplllmlaaDoorW.PrintMore Go.Proofs.YtkfijbmplllmlaaDoor.PA Go.Proofs.YtkfijbmplllmlaaDoor.HandRd Go.Proofs.YtkfijbmplllmlaaDoor.HandKw Go.Proofs.YtkfijbmplllmlaaDoor.HandWh
attribute [local go_sem] arrI48_0 arrI48_1 arrI56_0 arrI56_1 arrI56_2
attribute [local go_sem high] eqA29
theorem keep_two {w W : World} {o1 o2 : Obj} {g : Nat} (h : KeepBut ((w.alloc o1).alloc o2).drew W g none) : w.heap.size + 1 + 1 ≤ W.heap.size := by
  have h1 : ((w.alloc o1).alloc o2).heap.size ≤ W.heap.size := h.1
  simpa using h1
set_option maxRecDepth 100000 in
set_option maxHeartbeats 1000000 in
theorem where_end (g : Nat) (s : ByteArray) (A : Option Addr) (cap : Nat) (l : List S48) (k : Int) (w0 w : World) (hI : IsR w0 w g s (.slice A l.length cap) k) (hB : Below w0.heap.size w0 w) (hC : Kd.C k48 w0 A l.length l) (hT : Kd.C Kd.string w0 (some ⟨0, 0, none⟩) tab_action_kinds.length tab_action_kinds) (A1 : Option Addr) (cm : Nat) (ms : List ByteArray) (hM : Kd.C Kd.string w0 A1 ms.length ms) (hMc : ms.length ≤ cm)
    (hk : k = (l.length : Int)) :
    Calls Tryd.prog 15 #[.pointer (some ⟨g, 0, none⟩), .slice A1 ms.length cm] w fun e w' => e = .returned (.tuple #[.int .i64 (-1), .agg #[.int .i64 0, .int .i64 0]]) ∧ IsR w0 w' g s (.slice A l.length cap) k ∧ Below w0.heap.size w0 w' ∧ KeepBut w w' g none := by
  have HI := Aside0.mk hI
  have HB := Aside0.mk hB
  have q0 : (k == (l.length : Int)) = true := beq_iff_eq.mpr hk
  have q1 : decide (k = (l.length : Int)) = true := decide_eq_true hk
  have hc1 : (w.alloc (.cells #[.int .i64 0, .int .i64 0] 29)).cell? ⟨g, 1, none⟩ = some (.slice A l.length cap) := IsR.c1 (IsR.alloc hI _)
  have hc2 : (w.alloc (.cells #[.int .i64 0, .int .i64 0] 29)).cell? ⟨g, 2, none⟩ = some (.int .i64 k) := IsR.c2 (IsR.alloc hI _)
  clear hI hB hC hT hk
  go_enter Tryd.func15, Tryd.ntmps15
  go_wp2_with fail
  refine start_ (n := 10) (S := fun w' => w'.cell? ⟨g, 1, none⟩ = some (.slice A l.length cap) ∧ w'.cell? ⟨g, 2, none⟩ = some (.int .i64 k)) (ds := []) #[false, false, false, false, false, false, false, false, false, false] (by kernel_rfl) rfl rfl ⟨hc1, hc2⟩ (fun hHeld => ?_)
  refine pure_ (i := 0) (N := some 12) (v := ?_) (a' := ?_) #[true, false, false, false, false, false, false, false, false, false] rfl rfl (by kernel_rfl) (fun _ _ _ h => h) (Or.inl ⟨by rfl, ?_⟩) ?_ ?_
  rotate_left
  · intro w'
    go_simp
    with_reducible rfl
  rotate_left
  · simp only [Act.put, List.setIfInBounds_toArray, List.set_cons_zero, List.set_cons_succ, i64_w, i32_w]
    rfl
  refine pure_ (i := 1) (N := some 13) (v := ?_) (a' := ?_) #[true, true, false, false, false, false, false, false, false, false] rfl rfl (by kernel_rfl) (fun _ _ _ h => h) (Or.inl ⟨by rfl, ?_⟩) ?_ ?_
  rotate_left
  · intro w'
    go_simp
    with_reducible rfl
  rotate_left
  · simp only [Act.put, List.setIfInBounds_toArray, List.set_cons_zero, List.set_cons_succ, i64_w, i32_w]
    rfl
  refine pure_ (i := 2) (N := some 14) (v := ?_) (a' := ?_) #[true, true, true, false, false, false, false, false, false, false] rfl rfl (by kernel_rfl) (fun _ _ _ h => h) (Or.inl ⟨by rfl, ?_⟩) ?_ ?_
  rotate_left
  · intro w'
    go_simp
    with_reducible rfl
  rotate_left
  · simp only [Act.put, List.setIfInBounds_toArray, List.set_cons_zero, List.set_cons_succ, i64_w, i32_w]
    rfl
  refine pure_ (i := 4) (N := some 16) (v := ?_) (a' := ?_) #[true, true, true, false, true, false, false, false, false, false] rfl rfl (by kernel_rfl) (fun _ _ _ h => h) (Or.inl ⟨by rfl, ?_⟩) ?_ ?_
  rotate_left
  · intro w'
    go_simp
    with_reducible rfl
  rotate_left
  · simp only [Act.put, List.setIfInBounds_toArray, List.set_cons_zero, List.set_cons_succ, i64_w, i32_w]
    rfl
  refine pure_ (i := 5) (N := some 17) (v := ?_) (a' := ?_) #[true, true, true, false, true, true, false, false, false, false] rfl rfl (by kernel_rfl) (fun _ _ _ h => h) (Or.inl ⟨by rfl, ?_⟩) ?_ ?_
  rotate_left
  · intro w'
    go_simp
    with_reducible rfl
  rotate_left
  · simp only [Act.put, List.setIfInBounds_toArray, List.set_cons_zero, List.set_cons_succ, i64_w, i32_w]
    rfl
  refine pure_ (i := 6) (N := some 18) (v := ?_) (a' := ?_) #[true, true, true, false, true, true, true, false, false, false] rfl rfl (by kernel_rfl) (fun _ _ _ h => h) (Or.inl ⟨by rfl, ?_⟩) ?_ ?_
  rotate_left
  · intro w'
    go_simp
    with_reducible rfl
  rotate_left
  · simp only [Act.put, List.setIfInBounds_toArray, List.set_cons_zero, List.set_cons_succ, i64_w, i32_w]
    rfl
  refine take_ (i := 3) (N := some 15) (v := ?_) (a' := ?_) #[true, true, true, true, true, true, true, false, false, false] rfl rfl (by kernel_rfl) (fun _ _ _ h => h) (Or.inl ⟨by rfl, ?_⟩) hHeld ?_ ?_
  rotate_left
  · rintro w' ⟨s0, s1⟩
    go_simp
    with_reducible rfl
  rotate_left
  · simp only [Act.put, List.setIfInBounds_toArray, List.set_cons_zero, List.set_cons_succ, i64_w, i32_w]
    rfl
  refine take_ (i := 7) (N := some 19) (v := ?_) (a' := ?_) #[true, true, true, true, true, true, true, true, false, false] rfl rfl (by kernel_rfl) (fun _ _ _ h => h) (Or.inl ⟨by rfl, ?_⟩) hHeld ?_ ?_
  rotate_left
  · rintro w' ⟨s0, s1⟩
    go_simp
    with_reducible rfl
  rotate_left
  · simp only [Act.put, List.setIfInBounds_toArray, List.set_cons_zero, List.set_cons_succ, i64_w, i32_w]
    rfl
  refine pure_ (i := 8) (N := some 20) (v := ?_) (a' := ?_) #[true, true, true, true, true, true, true, true, true, false] rfl rfl (by kernel_rfl) (fun _ _ _ h => h) (Or.inl ⟨by rfl, ?_⟩) ?_ ?_
  rotate_left
  · intro w'
    go_simp
    with_reducible rfl
  rotate_left
  · simp only [Act.put, List.setIfInBounds_toArray, List.set_cons_zero, List.set_cons_succ, i64_w, i32_w]
    rfl
  refine pure_ (i := 9) (N := some 21) (v := ?_) (a' := ?_) #[true, true, true, true, true, true, true, true, true, true] rfl rfl (by kernel_rfl) (fun _ _ _ h => h) (Or.inl ⟨by rfl, ?_⟩) ?_ ?_
  rotate_left
  · intro w'
    go_simp
    with_reducible rfl
  rotate_left
  · simp only [Act.put, List.setIfInBounds_toArray, List.set_cons_zero, List.set_cons_succ, i64_w, i32_w]
    rfl
  refine done_ (by kernel_rfl) ?_

  go_wp2_with fail
  refine bodyPost_ret (results_list (rs := [.tmp 4, .cell 5 29]) rfl (by simp) (.tmp (.cell w.heap.size 29 #[.int .i64 0, .int .i64 0] (0, 0) _ rfl (blk_drew (blk_new w _ _)) Tryd.underlying29 rfl (by kernel_rfl) .nil))) rfl ⟨rfl, IsR.drew (IsR.alloc HI.out _), below_drew (HB.out.alloc HB.out.size _), keep_drew (keep_alloc (KeepBut.refl w g none) _)⟩
set_option maxRecDepth 100000 in
set_option maxHeartbeats 1000000 in
theorem where_bad (K : Nat) (g : Nat) (s : ByteArray) (A : Option Addr) (cap : Nat) (l : List S48) (k : Int) (kw : ByteArray) (E a b : Int) (w0 w : World) (hI : IsR w0 w g s (.slice A l.length cap) k) (hB : Below w0.heap.size w0 w) (hC : Kd.C k48 w0 A l.length l) (hT : Kd.C Kd.string w0 (some ⟨0, 0, none⟩) tab_action_kinds.length tab_action_kinds) (A1 : Option Addr) (cm : Nat) (ms : List ByteArray) (hM : Kd.C Kd.string w0 A1 ms.length ms) (hMc : ms.length ≤ cm)
    (hk : k ≠ (l.length : Int)) (hW : keyF K [go] s l k = some (kw, E, a, b)) (hE : E ≠ 0) :
    Calls Tryd.prog 15 #[.pointer (some ⟨g, 0, none⟩), .slice A1 ms.length cm] w fun e w' => e = .returned (.tuple #[.int .i64 0, .agg #[.int .i64 E, .int .i64 a]]) ∧ IsR w0 w' g s (.slice A l.length cap) b ∧ Below w0.heap.size w0 w' ∧ KeepBut w w' g none := by
  have c1 : (E == 0) = false := beq_eq_false_iff_ne.mpr hE
  clear hE hM hMc
  have q0 : (k == (l.length : Int)) = false := beq_eq_false_iff_ne.mpr hk
  have q1 : decide (k = (l.length : Int)) = false := decide_eq_false hk
  clear hk
  have HI := Aside0.mk hI
  have HB := Aside0.mk hB
  have HC := Aside0.mk hC
  have HW := Aside0.mk hW
  have hlt := IsR.lt hI
  have HG : Aside0 (g ≠ w.heap.size) := ⟨by omega⟩
  have HGq : w.heap.size + 1 ≠ g := by omega
  have H0 : Aside0 (w0.heap.size ≤ w.heap.size) := ⟨hB.size⟩
  have HQ0 : (((w.alloc (.cells #[.int .i64 0, .int .i64 0] 29)).alloc (.cells #[.string go] 9)).drew).heap[w.heap.size + 1]? = some (.cells #[.string go] 9 (0, 0)) := by
    have := World.alloc_heap_new (w.alloc (.cells #[.int .i64 0, .int .i64 0] 29)) (.cells #[.string go] 9)
    rw [World.size_alloc] at this
    exact this
  obtain ⟨_, _, hk2⟩ := kinds_at (Kd.C_below hT hB)
  have hz2 : (w.alloc (.cells #[.int .i64 0, .int .i64 0] 29)).cell? ⟨0, 2, none⟩ = some (.string go) := cell_al hk2 _
  have hc1 : (w.alloc (.cells #[.int .i64 0, .int .i64 0] 29)).cell? ⟨g, 1, none⟩ = some (.slice A l.length cap) := IsR.c1 (IsR.alloc hI _)
  have hc2 : (w.alloc (.cells #[.int .i64 0, .int .i64 0] 29)).cell? ⟨g, 2, none⟩ = some (.int .i64 k) := IsR.c2 (IsR.alloc hI _)
  clear hI hB hC hW hlt hT hk2
  go_enter Tryd.func15, Tryd.ntmps15
  go_wp2_with fail
  refine start_ (n := 10) (S := fun w' => w'.cell? ⟨g, 1, none⟩ = some (.slice A l.length cap) ∧ w'.cell? ⟨g, 2, none⟩ = some (.int .i64 k)) (ds := []) #[false, false, false, false, false, false, false, false, false, false] (by kernel_rfl) rfl rfl ⟨hc1, hc2⟩ (fun hHeld => ?_)
  refine pure_ (i := 0) (N := some 12) (v := ?_) (a' := ?_) #[true, false, false, false, false, false, false, false, false, false] rfl rfl (by kernel_rfl) (fun _ _ _ h => h) (Or.inl ⟨by rfl, ?_⟩) ?_ ?_
  rotate_left
  · intro w'
    go_simp
    with_reducible rfl
  rotate_left
  · simp only [Act.put, List.setIfInBounds_toArray, List.set_cons_zero, List.set_cons_succ, i64_w, i32_w]
    rfl
  refine pure_ (i := 1) (N := some 13) (v := ?_) (a' := ?_) #[true, true, false, false, false, false, false, false, false, false] rfl rfl (by kernel_rfl) (fun _ _ _ h => h) (Or.inl ⟨by rfl, ?_⟩) ?_ ?_
  rotate_left
  · intro w'
    go_simp
    with_reducible rfl
  rotate_left
  · simp only [Act.put, List.setIfInBounds_toArray, List.set_cons_zero, List.set_cons_succ, i64_w, i32_w]
    rfl
  refine pure_ (i := 2) (N := some 14) (v := ?_) (a' := ?_) #[true, true, true, false, false, false, false, false, false, false] rfl rfl (by kernel_rfl) (fun _ _ _ h => h) (Or.inl ⟨by rfl, ?_⟩) ?_ ?_
  rotate_left
  · intro w'
    go_simp
    with_reducible rfl
  rotate_left
  · simp only [Act.put, List.setIfInBounds_toArray, List.set_cons_zero, List.set_cons_succ, i64_w, i32_w]
    rfl
  refine pure_ (i := 4) (N := some 16) (v := ?_) (a' := ?_) #[true, true, true, false, true, false, false, false, false, false] rfl rfl (by kernel_rfl) (fun _ _ _ h => h) (Or.inl ⟨by rfl, ?_⟩) ?_ ?_
  rotate_left
  · intro w'
    go_simp
    with_reducible rfl
  rotate_left
  · simp only [Act.put, List.setIfInBounds_toArray, List.set_cons_zero, List.set_cons_succ, i64_w, i32_w]
    rfl
  refine pure_ (i := 5) (N := some 17) (v := ?_) (a' := ?_) #[true, true, true, false, true, true, false, false, false, false] rfl rfl (by kernel_rfl) (fun _ _ _ h => h) (Or.inl ⟨by rfl, ?_⟩) ?_ ?_
  rotate_left
  · intro w'
    go_simp
    with_reducible rfl
  rotate_left
  · simp only [Act.put, List.setIfInBounds_toArray, List.set_cons_zero, List.set_cons_succ, i64_w, i32_w]
    rfl
  refine pure_ (i := 6) (N := some 18) (v := ?_) (a' := ?_) #[true, true, true, false, true, true, true, false, false, false] rfl rfl (by kernel_rfl) (fun _ _ _ h => h) (Or.inl ⟨by rfl, ?_⟩) ?_ ?_
  rotate_left
  · intro w'
    go_simp
    with_reducible rfl
  rotate_left
  · simp only [Act.put, List.setIfInBounds_toArray, List.set_cons_zero, List.set_cons_succ, i64_w, i32_w]
    rfl
  refine take_ (i := 3) (N := some 15) (v := ?_) (a' := ?_) #[true, true, true, true, true, true, true, false, false, false] rfl rfl (by kernel_rfl) (fun _ _ _ h => h) (Or.inl ⟨by rfl, ?_⟩) hHeld ?_ ?_
  rotate_left
  · rintro w' ⟨s0, s1⟩
    go_simp
    with_reducible rfl
  rotate_left
  · simp only [Act.put, List.setIfInBounds_toArray, List.set_cons_zero, List.set_cons_succ, i64_w, i32_w]
    rfl
  refine take_ (i := 7) (N := some 19) (v := ?_) (a' := ?_) #[true, true, true, true, true, true, true, true, false, false] rfl rfl (by kernel_rfl) (fun _ _ _ h => h) (Or.inl ⟨by rfl, ?_⟩) hHeld ?_ ?_
  rotate_left
  · rintro w' ⟨s0, s1⟩
    go_simp
    with_reducible rfl
  rotate_left
  · simp only [Act.put, List.setIfInBounds_toArray, List.set_cons_zero, List.set_cons_succ, i64_w, i32_w]
    rfl
  refine pure_ (i := 8) (N := some 20) (v := ?_) (a' := ?_) #[true, true, true, true, true, true, true, true, true, false] rfl rfl (by kernel_rfl) (fun _ _ _ h => h) (Or.inl ⟨by rfl, ?_⟩) ?_ ?_
  rotate_left
  · intro w'
    go_simp
    with_reducible rfl
  rotate_left
  · simp only [Act.put, List.setIfInBounds_toArray, List.set_cons_zero, List.set_cons_succ, i64_w, i32_w]
    rfl
  refine pure_ (i := 9) (N := some 21) (v := ?_) (a' := ?_) #[true, true, true, true, true, true, true, true, true, true] rfl rfl (by kernel_rfl) (fun _ _ _ h => h) (Or.inl ⟨by rfl, ?_⟩) ?_ ?_
  rotate_left
  · intro w'
    go_simp
    with_reducible rfl
  rotate_left
  · simp only [Act.put, List.setIfInBounds_toArray, List.set_cons_zero, List.set_cons_succ, i64_w, i32_w]
    rfl
  refine done_ (by kernel_rfl) ?_

  go_wp2_with (go_at_call 23; (with_reducible refine (key1_calls K g s A cap l k go kw E a b (w.heap.size + 1) w0 _ (IsR.drew (IsR.alloc (IsR.alloc HI.out _) _)) (below_drew ((HB.out.alloc HB.out.size _).alloc (HB.out.alloc HB.out.size _).size _)) HC.out HQ0 HGq HW.out).mono ?_); rintro e W1 ⟨rfl, hI1, hB1, hK1⟩; have HL1 := Aside0.mk (keep_two hK1); have HR1 := Aside0.mk (KeepBut.blk hK1 (blk_drew (blk_alloc (blk_new w #[.int .i64 0, .int .i64 0] 29) (.cells #[.string go] 9))) (Ne.symm HG.out) (by simp)); have HI1 := Aside0.mk hI1; have HB1 := Aside0.mk hB1; have HK1 : Aside0 (KeepBut w W1 g none) := ⟨KeepBut.trans (keep_drew (keep_alloc (keep_alloc (KeepBut.refl w g none) _) _)) hK1 (.inl rfl)⟩; clear hI1 hB1 hK1)
  obtain ⟨q, hq⟩ : ∃ q, q = W1.heap.size := ⟨_, rfl⟩
  have HX : Aside0 ((W1.alloc (.cells #[.int .i64 E, .int .i64 a] 29)).heap[q]? = some (.cells #[.int .i64 E, .int .i64 a] 29 (0, 0))) := ⟨by rw [hq]; exact World.alloc_heap_new W1 _⟩
  have HNq : Aside0 (q ≠ w.heap.size) := ⟨by have := HL1.out; omega⟩
  rw [← hq]
  clear hq HL1
  have hy0 : (W1.alloc (.cells #[.int .i64 E, .int .i64 a] 29)).cell? ⟨q, 0, none⟩ = some (.int .i64 E) := (blk_cell HX.out 0).trans rfl
  have hy1 : (W1.alloc (.cells #[.int .i64 E, .int .i64 a] 29)).cell? ⟨q, 1, none⟩ = some (.int .i64 a) := (blk_cell HX.out 1).trans rfl
  refine start_ (n := 3) (S := fun w' => w'.cell? ⟨q, 0, none⟩ = some (.int .i64 E) ∧ w'.cell? ⟨q, 1, none⟩ = some (.int .i64 a)) (ds := [2]) #[false, false, false] (by kernel_rfl) rfl rfl ⟨hy0, hy1⟩ (fun hHeld => ?_)
  have HI5 := Aside0.mk (IsR.drew (IsR.alloc HI1.out (.cells #[.int .i64 E, .int .i64 a] 29)))
  have HB5 := Aside0.mk (below_drew (HB1.out.alloc HB1.out.size (.cells #[.int .i64 E, .int .i64 a] 29)))
  have HK5 := Aside0.mk (keep_drew (keep_alloc HK1.out (.cells #[.int .i64 E, .int .i64 a] 29)))
  have HR5 := Aside0.mk (blk_drew (blk_alloc HR1.out (.cells #[.int .i64 E, .int .i64 a] 29)))
  clear HI1 HB1 HK1 HR1 hy0 hy1 HX hz2 hc1 hc2 HQ0
  generalize (W1.alloc (.cells #[.int .i64 E, .int .i64 a] 29)).drew = W5 at HI5 HB5 HK5 HR5 hHeld ⊢
  have hr0 : W5.cell? ⟨w.heap.size, 0, none⟩ = some (.int .i64 0) := (blk_cell HR5.out 0).trans rfl; have hr1 : W5.cell? ⟨w.heap.size, 1, none⟩ = some (.int .i64 0) := (blk_cell HR5.out 1).trans rfl; have fr0 := blk_frozen HR5.out 0; have fr1 := blk_frozen HR5.out 1
  refine pure_ (i := 1) (N := some 4) (v := ?_) (a' := ?_) #[false, true, false] rfl rfl (by kernel_rfl) (fun _ _ _ h => h) (Or.inl ⟨by rfl, ?_⟩) ?_ ?_
  rotate_left
  · intro w'
    go_simp
    with_reducible rfl
  rotate_left
  · simp only [Act.put, List.setIfInBounds_toArray, List.set_cons_zero, List.set_cons_succ, i64_w, i32_w]
    rfl
  refine take_ (i := 0) (N := some 34) (v := ?_) (a' := ?_) #[true, true, false] rfl rfl (by kernel_rfl) (fun _ _ _ h => h) (Or.inl ⟨by rfl, ?_⟩) hHeld ?_ ?_
  rotate_left
  · rintro w' ⟨s0, s1⟩
    go_simp
    with_reducible rfl
  rotate_left
  · simp only [Act.put, List.setIfInBounds_toArray, List.set_cons_zero, List.set_cons_succ, i64_w, i32_w]
    rfl
  refine last_ (i := 2) (N := none) #[true, true, true] rfl rfl (by kernel_rfl) (by decide) (fun K hK => ?_)
  refine skip_ (w1 := ?_) (by rfl) rfl ?_ ?_
  rotate_left
  · go_simp
    rfl
  refine hK.out _ _ ?_
  clear hK K
  refine done_ (by kernel_rfl) ?_

  go_wp2_with fail
  obtain ⟨t1_, t2_, t3_, t4_⟩ := two_set HI5.out HB5.out HK5.out (Nat.le_refl _) H0.out HG.out HR5.out (.int .i64 E) (.int .i64 a)
  refine bodyPost_ret (results_list (rs := [.tmp 4, .cell 5 29]) rfl (by simp) (.tmp (.cell w.heap.size 29 #[.int .i64 E, .int .i64 a] (0, 0) _ rfl t1_ Tryd.underlying29 rfl (by kernel_rfl) .nil))) rfl ⟨rfl, t2_, t3_, t4_⟩
set_option maxRecDepth 100000 in
set_option maxHeartbeats 1000000 in
theorem where_name (K : Nat) (g : Nat) (s : ByteArray) (A : Option Addr) (cap : Nat) (l : List S48) (k : Int) (kw nm : ByteArray) (b p E2 a2 b2 : Int) (w0 w : World) (hI : IsR w0 w g s (.slice A l.length cap) k) (hB : Below w0.heap.size w0 w) (hC : Kd.C k48 w0 A l.length l) (hT : Kd.C Kd.string w0 (some ⟨0, 0, none⟩) tab_action_kinds.length tab_action_kinds) (A1 : Option Addr) (cm : Nat) (ms : List ByteArray) (hM : Kd.C Kd.string w0 A1 ms.length ms) (hMc : ms.length ≤ cm)
    (hk : k ≠ (l.length : Int)) (hW : keyF K [go] s l k = some (kw, 0, 0, b)) (hN : nameF K s l b = some (nm, p, E2, a2, b2)) (hE : E2 ≠ 0) :
    Calls Tryd.prog 15 #[.pointer (some ⟨g, 0, none⟩), .slice A1 ms.length cm] w fun e w' => e = .returned (.tuple #[.int .i64 0, .agg #[.int .i64 E2, .int .i64 a2]]) ∧ IsR w0 w' g s (.slice A l.length cap) b2 ∧ Below w0.heap.size w0 w' ∧ KeepBut w w' g none := by
  have c1 : (E2 == 0) = false := beq_eq_false_iff_ne.mpr hE
  have HN := Aside0.mk hN
  clear hE hM hMc hN
  have q0 : (k == (l.length : Int)) = false := beq_eq_false_iff_ne.mpr hk
  have q1 : decide (k = (l.length : Int)) = false := decide_eq_false hk
  clear hk
  have HI := Aside0.mk hI
  have HB := Aside0.mk hB
  have HC := Aside0.mk hC
  have HW := Aside0.mk hW
  have hlt := IsR.lt hI
  have HG : Aside0 (g ≠ w.heap.size) := ⟨by omega⟩
  have HGq : w.heap.size + 1 ≠ g := by omega
  have H0 : Aside0 (w0.heap.size ≤ w.heap.size) := ⟨hB.size⟩
  have HQ0 : (((w.alloc (.cells #[.int .i64 0, .int .i64 0] 29)).alloc (.cells #[.string go] 9)).drew).heap[w.heap.size + 1]? = some (.cells #[.string go] 9 (0, 0)) := by
    have := World.alloc_heap_new (w.alloc (.cells #[.int .i64 0, .int .i64 0] 29)) (.cells #[.string go] 9)
    rw [World.size_alloc] at this
    exact this
  obtain ⟨_, _, hk2⟩ := kinds_at (Kd.C_below hT hB)
  have hz2 : (w.alloc (.cells #[.int .i64 0, .int .i64 0] 29)).cell? ⟨0, 2, none⟩ = some (.string go) := cell_al hk2 _
  have hc1 : (w.alloc (.cells #[.int .i64 0, .int .i64 0] 29)).cell? ⟨g, 1, none⟩ = some (.slice A l.length cap) := IsR.c1 (IsR.alloc hI _)
  have hc2 : (w.alloc (.cells #[.int .i64 0, .int .i64 0] 29)).cell? ⟨g, 2, none⟩ = some (.int .i64 k) := IsR.c2 (IsR.alloc hI _)
  clear hI hB hC hW hlt hT hk2
  go_enter Tryd.func15, Tryd.ntmps15
  go_wp2_with fail
  refine start_ (n := 10) (S := fun w' => w'.cell? ⟨g, 1, none⟩ = some (.slice A l.length cap) ∧ w'.cell? ⟨g, 2, none⟩ = some (.int .i64 k)) (ds := []) #[false, false, false, false, false, false, false, false, false, false] (by kernel_rfl) rfl rfl ⟨hc1, hc2⟩ (fun hHeld => ?_)
  refine pure_ (i := 0) (N := some 12) (v := ?_) (a' := ?_) #[true, false, false, false, false, false, false, false, false, false] rfl rfl (by kernel_rfl) (fun _ _ _ h => h) (Or.inl ⟨by rfl, ?_⟩) ?_ ?_
  rotate_left
  · intro w'
    go_simp
    with_reducible rfl
  rotate_left
  · simp only [Act.put, List.setIfInBounds_toArray, List.set_cons_zero, List.set_cons_succ, i64_w, i32_w]
    rfl
  refine pure_ (i := 1) (N := some 13) (v := ?_) (a' := ?_) #[true, true, false, false, false, false, false, false, false, false] rfl rfl (by kernel_rfl) (fun _ _ _ h => h) (Or.inl ⟨by rfl, ?_⟩) ?_ ?_
  rotate_left
  · intro w'
    go_simp
    with_reducible rfl
  rotate_left
  · simp only [Act.put, List.setIfInBounds_toArray, List.set_cons_zero, List.set_cons_succ, i64_w, i32_w]
    rfl
  refine pure_ (i := 2) (N := some 14) (v := ?_) (a' := ?_) #[true, true, true, false, false, false, false, false, false, false] rfl rfl (by kernel_rfl) (fun _ _ _ h => h) (Or.inl ⟨by rfl, ?_⟩) ?_ ?_
  rotate_left
  · intro w'
    go_simp
    with_reducible rfl
  rotate_left
  · simp only [Act.put, List.setIfInBounds_toArray, List.set_cons_zero, List.set_cons_succ, i64_w, i32_w]
    rfl
  refine pure_ (i := 4) (N := some 16) (v := ?_) (a' := ?_) #[true, true, true, false, true, false, false, false, false, false] rfl rfl (by kernel_rfl) (fun _ _ _ h => h) (Or.inl ⟨by rfl, ?_⟩) ?_ ?_
  rotate_left
  · intro w'
    go_simp
    with_reducible rfl
  rotate_left
  · simp only [Act.put, List.setIfInBounds_toArray, List.set_cons_zero, List.set_cons_succ, i64_w, i32_w]
    rfl
  refine pure_ (i := 5) (N := some 17) (v := ?_) (a' := ?_) #[true, true, true, false, true, true, false, false, false, false] rfl rfl (by kernel_rfl) (fun _ _ _ h => h) (Or.inl ⟨by rfl, ?_⟩) ?_ ?_
  rotate_left
  · intro w'
    go_simp
    with_reducible rfl
  rotate_left
  · simp only [Act.put, List.setIfInBounds_toArray, List.set_cons_zero, List.set_cons_succ, i64_w, i32_w]
    rfl
  refine pure_ (i := 6) (N := some 18) (v := ?_) (a' := ?_) #[true, true, true, false, true, true, true, false, false, false] rfl rfl (by kernel_rfl) (fun _ _ _ h => h) (Or.inl ⟨by rfl, ?_⟩) ?_ ?_
  rotate_left
  · intro w'
    go_simp
    with_reducible rfl
  rotate_left
  · simp only [Act.put, List.setIfInBounds_toArray, List.set_cons_zero, List.set_cons_succ, i64_w, i32_w]
    rfl
  refine take_ (i := 3) (N := some 15) (v := ?_) (a' := ?_) #[true, true, true, true, true, true, true, false, false, false] rfl rfl (by kernel_rfl) (fun _ _ _ h => h) (Or.inl ⟨by rfl, ?_⟩) hHeld ?_ ?_
  rotate_left
  · rintro w' ⟨s0, s1⟩
    go_simp
    with_reducible rfl
  rotate_left
  · simp only [Act.put, List.setIfInBounds_toArray, List.set_cons_zero, List.set_cons_succ, i64_w, i32_w]
    rfl
  refine take_ (i := 7) (N := some 19) (v := ?_) (a' := ?_) #[true, true, true, true, true, true, true, true, false, false] rfl rfl (by kernel_rfl) (fun _ _ _ h => h) (Or.inl ⟨by rfl, ?_⟩) hHeld ?_ ?_
  rotate_left
  · rintro w' ⟨s0, s1⟩
    go_simp
    with_reducible rfl
  rotate_left
  · simp only [Act.put, List.setIfInBounds_toArray, List.set_cons_zero, List.set_cons_succ, i64_w, i32_w]
    rfl
  refine pure_ (i := 8) (N := some 20) (v := ?_) (a' := ?_) #[true, true, true, true, true, true, true, true, true, false] rfl rfl (by kernel_rfl) (fun _ _ _ h => h) (Or.inl ⟨by rfl, ?_⟩) ?_ ?_
  rotate_left
  · intro w'
    go_simp
    with_reducible rfl
  rotate_left
  · simp only [Act.put, List.setIfInBounds_toArray, List.set_cons_zero, List.set_cons_succ, i64_w, i32_w]
    rfl
  refine pure_ (i := 9) (N := some 21) (v := ?_) (a' := ?_) #[true, true, true, true, true, true, true, true, true, true] rfl rfl (by kernel_rfl) (fun _ _ _ h => h) (Or.inl ⟨by rfl, ?_⟩) ?_ ?_
  rotate_left
  · intro w'
    go_simp
    with_reducible rfl
  rotate_left
  · simp only [Act.put, List.setIfInBounds_toArray, List.set_cons_zero, List.set_cons_succ, i64_w, i32_w]
    rfl
  refine done_ (by kernel_rfl) ?_

  go_wp2_with (first | (go_at_call 23; (with_reducible refine (key1_calls K g s A cap l k go kw 0 0 b (w.heap.size + 1) w0 _ (IsR.drew (IsR.alloc (IsR.alloc HI.out _) _)) (below_drew ((HB.out.alloc HB.out.size _).alloc (HB.out.alloc HB.out.size _).size _)) HC.out HQ0 HGq HW.out).mono ?_); rintro e W1 ⟨rfl, hI1, hB1, hK1⟩; have HL1 := Aside0.mk (keep_two hK1); have HR1 := Aside0.mk (KeepBut.blk hK1 (blk_drew (blk_alloc (blk_new w #[.int .i64 0, .int .i64 0] 29) (.cells #[.string go] 9))) (Ne.symm HG.out) (by simp)); have HI1 := Aside0.mk hI1; have HB1 := Aside0.mk hB1; have HK1 : Aside0 (KeepBut w W1 g none) := ⟨KeepBut.trans (keep_drew (keep_alloc (keep_alloc (KeepBut.refl w g none) _) _)) hK1 (.inl rfl)⟩; clear hI1 hB1 hK1) | (go_at_call 24; (with_reducible refine (name_calls K g s A cap l b nm p E2 a2 b2 w0 _ (IsR.alloc HI1.out _) (HB1.out.alloc HB1.out.size _) HC.out HN.out).mono ?_); rintro e W2 ⟨rfl, hI2, hB2, hK2⟩; have HR2 := Aside0.mk (KeepBut.blk hK2 (blk_alloc HR1.out (.cells #[.int .i64 0, .int .i64 0] 29)) (Ne.symm HG.out) (by simp)); have HL2 : Aside0 (w.heap.size + 1 + 1 ≤ W2.heap.size) := ⟨by have h1_ := HL1.out; have h2_ := hK2.1; rw [World.size_alloc] at h2_; omega⟩; have HI2 := Aside0.mk hI2; have HB2 := Aside0.mk hB2; have HK2 : Aside0 (KeepBut w W2 g none) := ⟨KeepBut.trans (keep_alloc HK1.out _) hK2 (.inl rfl)⟩; clear hI2 hB2 hK2 HI1 HB1 HK1 HR1 HL1 HQ0 hz2 hc1 hc2))
  obtain ⟨q, hq⟩ : ∃ q, q = W2.heap.size := ⟨_, rfl⟩
  have HX : Aside0 ((W2.alloc (.cells #[.int .i64 E2, .int .i64 a2] 29)).heap[q]? = some (.cells #[.int .i64 E2, .int .i64 a2] 29 (0, 0))) := ⟨by rw [hq]; exact World.alloc_heap_new W2 _⟩
  have HNq : Aside0 (q ≠ w.heap.size) := ⟨by have := HL2.out; omega⟩
  rw [← hq]
  clear hq HL2
  have hy0 : (W2.alloc (.cells #[.int .i64 E2, .int .i64 a2] 29)).cell? ⟨q, 0, none⟩ = some (.int .i64 E2) := (blk_cell HX.out 0).trans rfl
  have hy1 : (W2.alloc (.cells #[.int .i64 E2, .int .i64 a2] 29)).cell? ⟨q, 1, none⟩ = some (.int .i64 a2) := (blk_cell HX.out 1).trans rfl
  refine start_ (n := 3) (S := fun w' => w'.cell? ⟨q, 0, none⟩ = some (.int .i64 E2) ∧ w'.cell? ⟨q, 1, none⟩ = some (.int .i64 a2)) (ds := [2]) #[false, false, false] (by kernel_rfl) rfl rfl ⟨hy0, hy1⟩ (fun hHeld => ?_)
  have HI5 := Aside0.mk (IsR.drew (IsR.alloc HI2.out (.cells #[.int .i64 E2, .int .i64 a2] 29)))
  have HB5 := Aside0.mk (below_drew (HB2.out.alloc HB2.out.size (.cells #[.int .i64 E2, .int .i64 a2] 29)))
  have HK5 := Aside0.mk (keep_drew (keep_alloc HK2.out (.cells #[.int .i64 E2, .int .i64 a2] 29)))
  have HR5 := Aside0.mk (blk_drew (blk_alloc HR2.out (.cells #[.int .i64 E2, .int .i64 a2] 29)))
  clear HI2 HB2 HK2 HR2 hy0 hy1 HX 
  generalize (W2.alloc (.cells #[.int .i64 E2, .int .i64 a2] 29)).drew = W5 at HI5 HB5 HK5 HR5 hHeld ⊢
  have hr0 : W5.cell? ⟨w.heap.size, 0, none⟩ = some (.int .i64 0) := (blk_cell HR5.out 0).trans rfl; have hr1 : W5.cell? ⟨w.heap.size, 1, none⟩ = some (.int .i64 0) := (blk_cell HR5.out 1).trans rfl; have fr0 := blk_frozen HR5.out 0; have fr1 := blk_frozen HR5.out 1
  refine pure_ (i := 1) (N := some 4) (v := ?_) (a' := ?_) #[false, true, false] rfl rfl (by kernel_rfl) (fun _ _ _ h => h) (Or.inl ⟨by rfl, ?_⟩) ?_ ?_
  rotate_left
  · intro w'
    go_simp
    with_reducible rfl
  rotate_left
  · simp only [Act.put, List.setIfInBounds_toArray, List.set_cons_zero, List.set_cons_succ, i64_w, i32_w]
    rfl
  refine take_ (i := 0) (N := some 45) (v := ?_) (a' := ?_) #[true, true, false] rfl rfl (by kernel_rfl) (fun _ _ _ h => h) (Or.inl ⟨by rfl, ?_⟩) hHeld ?_ ?_
  rotate_left
  · rintro w' ⟨s0, s1⟩
    go_simp
    with_reducible rfl
  rotate_left
  · simp only [Act.put, List.setIfInBounds_toArray, List.set_cons_zero, List.set_cons_succ, i64_w, i32_w]
    rfl
  refine last_ (i := 2) (N := none) #[true, true, true] rfl rfl (by kernel_rfl) (by decide) (fun K hK => ?_)
  refine skip_ (w1 := ?_) (by rfl) rfl ?_ ?_
  rotate_left
  · go_simp
    rfl
  refine hK.out _ _ ?_
  clear hK K
  refine done_ (by kernel_rfl) ?_

  go_wp2_with fail
  obtain ⟨t1_, t2_, t3_, t4_⟩ := two_set HI5.out HB5.out HK5.out (Nat.le_refl _) H0.out HG.out HR5.out (.int .i64 E2) (.int .i64 a2)
  refine bodyPost_ret (results_list (rs := [.tmp 4, .cell 5 29]) rfl (by simp) (.tmp (.cell w.heap.size 29 #[.int .i64 E2, .int .i64 a2] (0, 0) _ rfl t1_ Tryd.underlying29 rfl (by kernel_rfl) .nil))) rfl ⟨rfl, t2_, t3_, t4_⟩
set_option maxRecDepth 100000 in
set_option maxHeartbeats 1000000 in
theorem where_none (K : Nat) (g : Nat) (s : ByteArray) (A : Option Addr) (cap : Nat) (l : List S48) (k : Int) (kw nm : ByteArray) (b p b2 i : Int) (w0 w : World) (hI : IsR w0 w g s (.slice A l.length cap) k) (hB : Below w0.heap.size w0 w) (hC : Kd.C k48 w0 A l.length l) (hT : Kd.C Kd.string w0 (some ⟨0, 0, none⟩) tab_action_kinds.length tab_action_kinds) (A1 : Option Addr) (cm : Nat) (ms : List ByteArray) (hM : Kd.C Kd.string w0 A1 ms.length ms) (hMc : ms.length ≤ cm)
    (hk : k ≠ (l.length : Int)) (hW : keyF K [go] s l k = some (kw, 0, 0, b)) (hN : nameF K s l b = some (nm, p, 0, 0, b2)) (hX : slices_Index_string_string.f K ms nm = some i) (hi : i < 0) :
    Calls Tryd.prog 15 #[.pointer (some ⟨g, 0, none⟩), .slice A1 ms.length cm] w fun e w' => e = .returned (.tuple #[.int .i64 0, .agg #[.int .i64 11, .int .i64 p]]) ∧ IsR w0 w' g s (.slice A l.length cap) b2 ∧ Below w0.heap.size w0 w' ∧ KeepBut w w' g none := by
  have c1 : decide (i < 0) = true := decide_eq_true hi
  have HN := Aside0.mk hN
  have HX := Aside0.mk hX
  have HM := Aside0.mk hM
  have HMC := Aside0.mk hMc
  clear hi hM hMc hN hX
  have q0 : (k == (l.length : Int)) = false := beq_eq_false_iff_ne.mpr hk
  have q1 : decide (k = (l.length : Int)) = false := decide_eq_false hk
  clear hk
  have HI := Aside0.mk hI
  have HB := Aside0.mk hB
  have HC := Aside0.mk hC
  have HW := Aside0.mk hW
  have hlt := IsR.lt hI
  have HG : Aside0 (g ≠ w.heap.size) := ⟨by omega⟩
  have HGq : w.heap.size + 1 ≠ g := by omega
  have H0 : Aside0 (w0.heap.size ≤ w.heap.size) := ⟨hB.size⟩
  have HQ0 : (((w.alloc (.cells #[.int .i64 0, .int .i64 0] 29)).alloc (.cells #[.string go] 9)).drew).heap[w.heap.size + 1]? = some (.cells #[.string go] 9 (0, 0)) := by
    have := World.alloc_heap_new (w.alloc (.cells #[.int .i64 0, .int .i64 0] 29)) (.cells #[.string go] 9)
    rw [World.size_alloc] at this
    exact this
  obtain ⟨_, _, hk2⟩ := kinds_at (Kd.C_below hT hB)
  have hz2 : (w.alloc (.cells #[.int .i64 0, .int .i64 0] 29)).cell? ⟨0, 2, none⟩ = some (.string go) := cell_al hk2 _
  have hc1 : (w.alloc (.cells #[.int .i64 0, .int .i64 0] 29)).cell? ⟨g, 1, none⟩ = some (.slice A l.length cap) := IsR.c1 (IsR.alloc hI _)
  have hc2 : (w.alloc (.cells #[.int .i64 0, .int .i64 0] 29)).cell? ⟨g, 2, none⟩ = some (.int .i64 k) := IsR.c2 (IsR.alloc hI _)
  clear hI hB hC hW hlt hT hk2
  go_enter Tryd.func15, Tryd.ntmps15
  go_wp2_with fail
  refine start_ (n := 10) (S := fun w' => w'.cell? ⟨g, 1, none⟩ = some (.slice A l.length cap) ∧ w'.cell? ⟨g, 2, none⟩ = some (.int .i64 k)) (ds := []) #[false, false, false, false, false, false, false, false, false, false] (by kernel_rfl) rfl rfl ⟨hc1, hc2⟩ (fun hHeld => ?_)
  refine pure_ (i := 0) (N := some 12) (v := ?_) (a' := ?_) #[true, false, false, false, false, false, false, false, false, false] rfl rfl (by kernel_rfl) (fun _ _ _ h => h) (Or.inl ⟨by rfl, ?_⟩) ?_ ?_
  rotate_left
  · intro w'
    go_simp
    with_reducible rfl
  rotate_left
  · simp only [Act.put, List.setIfInBounds_toArray, List.set_cons_zero, List.set_cons_succ, i64_w, i32_w]
    rfl
  refine pure_ (i := 1) (N := some 13) (v := ?_) (a' := ?_) #[true, true, false, false, false, false, false, false, false, false] rfl rfl (by kernel_rfl) (fun _ _ _ h => h) (Or.inl ⟨by rfl, ?_⟩) ?_ ?_
  rotate_left
  · intro w'
    go_simp
    with_reducible rfl
  rotate_left
  · simp only [Act.put, List.setIfInBounds_toArray, List.set_cons_zero, List.set_cons_succ, i64_w, i32_w]
    rfl
  refine pure_ (i := 2) (N := some 14) (v := ?_) (a' := ?_) #[true, true, true, false, false, false, false, false, false, false] rfl rfl (by kernel_rfl) (fun _ _ _ h => h) (Or.inl ⟨by rfl, ?_⟩) ?_ ?_
  rotate_left
  · intro w'
    go_simp
    with_reducible rfl
  rotate_left
  · simp only [Act.put, List.setIfInBounds_toArray, List.set_cons_zero, List.set_cons_succ, i64_w, i32_w]
    rfl
  refine pure_ (i := 4) (N := some 16) (v := ?_) (a' := ?_) #[true, true, true, false, true, false, false, false, false, false] rfl rfl (by kernel_rfl) (fun _ _ _ h => h) (Or.inl ⟨by rfl, ?_⟩) ?_ ?_
  rotate_left
  · intro w'
    go_simp
    with_reducible rfl
  rotate_left
  · simp only [Act.put, List.setIfInBounds_toArray, List.set_cons_zero, List.set_cons_succ, i64_w, i32_w]
    rfl
  refine pure_ (i := 5) (N := some 17) (v := ?_) (a' := ?_) #[true, true, true, false, true, true, false, false, false, false] rfl rfl (by kernel_rfl) (fun _ _ _ h => h) (Or.inl ⟨by rfl, ?_⟩) ?_ ?_
  rotate_left
  · intro w'
    go_simp
    with_reducible rfl
  rotate_left
  · simp only [Act.put, List.setIfInBounds_toArray, List.set_cons_zero, List.set_cons_succ, i64_w, i32_w]
    rfl
  refine pure_ (i := 6) (N := some 18) (v := ?_) (a' := ?_) #[true, true, true, false, true, true, true, false, false, false] rfl rfl (by kernel_rfl) (fun _ _ _ h => h) (Or.inl ⟨by rfl, ?_⟩) ?_ ?_
  rotate_left
  · intro w'
    go_simp
    with_reducible rfl
  rotate_left
  · simp only [Act.put, List.setIfInBounds_toArray, List.set_cons_zero, List.set_cons_succ, i64_w, i32_w]
    rfl
  refine take_ (i := 3) (N := some 15) (v := ?_) (a' := ?_) #[true, true, true, true, true, true, true, false, false, false] rfl rfl (by kernel_rfl) (fun _ _ _ h => h) (Or.inl ⟨by rfl, ?_⟩) hHeld ?_ ?_
  rotate_left
  · rintro w' ⟨s0, s1⟩
    go_simp
    with_reducible rfl
  rotate_left
  · simp only [Act.put, List.setIfInBounds_toArray, List.set_cons_zero, List.set_cons_succ, i64_w, i32_w]
    rfl
  refine take_ (i := 7) (N := some 19) (v := ?_) (a' := ?_) #[true, true, true, true, true, true, true, true, false, false] rfl rfl (by kernel_rfl) (fun _ _ _ h => h) (Or.inl ⟨by rfl, ?_⟩) hHeld ?_ ?_
  rotate_left
  · rintro w' ⟨s0, s1⟩
    go_simp
    with_reducible rfl
  rotate_left
  · simp only [Act.put, List.setIfInBounds_toArray, List.set_cons_zero, List.set_cons_succ, i64_w, i32_w]
    rfl
  refine pure_ (i := 8) (N := some 20) (v := ?_) (a' := ?_) #[true, true, true, true, true, true, true, true, true, false] rfl rfl (by kernel_rfl) (fun _ _ _ h => h) (Or.inl ⟨by rfl, ?_⟩) ?_ ?_
  rotate_left
  · intro w'
    go_simp
    with_reducible rfl
  rotate_left
  · simp only [Act.put, List.setIfInBounds_toArray, List.set_cons_zero, List.set_cons_succ, i64_w, i32_w]
    rfl
  refine pure_ (i := 9) (N := some 21) (v := ?_) (a' := ?_) #[true, true, true, true, true, true, true, true, true, true] rfl rfl (by kernel_rfl) (fun _ _ _ h => h) (Or.inl ⟨by rfl, ?_⟩) ?_ ?_
  rotate_left
  · intro w'
    go_simp
    with_reducible rfl
  rotate_left
  · simp only [Act.put, List.setIfInBounds_toArray, List.set_cons_zero, List.set_cons_succ, i64_w, i32_w]
    rfl
  refine done_ (by kernel_rfl) ?_

  go_wp2_with (first | (go_at_call 23; (with_reducible refine (key1_calls K g s A cap l k go kw 0 0 b (w.heap.size + 1) w0 _ (IsR.drew (IsR.alloc (IsR.alloc HI.out _) _)) (below_drew ((HB.out.alloc HB.out.size _).alloc (HB.out.alloc HB.out.size _).size _)) HC.out HQ0 HGq HW.out).mono ?_); rintro e W1 ⟨rfl, hI1, hB1, hK1⟩; have HL1 := Aside0.mk (keep_two hK1); have HR1 := Aside0.mk (KeepBut.blk hK1 (blk_drew (blk_alloc (blk_new w #[.int .i64 0, .int .i64 0] 29) (.cells #[.string go] 9))) (Ne.symm HG.out) (by simp)); have HI1 := Aside0.mk hI1; have HB1 := Aside0.mk hB1; have HK1 : Aside0 (KeepBut w W1 g none) := ⟨KeepBut.trans (keep_drew (keep_alloc (keep_alloc (KeepBut.refl w g none) _) _)) hK1 (.inl rfl)⟩; clear hI1 hB1 hK1) | (go_at_call 24; (with_reducible refine (name_calls K g s A cap l b nm p 0 0 b2 w0 _ (IsR.alloc HI1.out _) (HB1.out.alloc HB1.out.size _) HC.out HN.out).mono ?_); rintro e W2 ⟨rfl, hI2, hB2, hK2⟩; have HR2 := Aside0.mk (KeepBut.blk hK2 (blk_alloc HR1.out (.cells #[.int .i64 0, .int .i64 0] 29)) (Ne.symm HG.out) (by simp)); have HL2 : Aside0 (w.heap.size + 1 + 1 ≤ W2.heap.size) := ⟨by have h1_ := HL1.out; have h2_ := hK2.1; rw [World.size_alloc] at h2_; omega⟩; have HI2 := Aside0.mk hI2; have HB2 := Aside0.mk hB2; have HK2 : Aside0 (KeepBut w W2 g none) := ⟨KeepBut.trans (keep_alloc HK1.out _) hK2 (.inl rfl)⟩; clear hI2 hB2 hK2 HI1 HB1 HK1 HR1 HL1 HQ0 hz2 hc1 hc2) | (go_at_call 25; (with_reducible refine (slices_Index_string_string.calls K A1 cm ms nm i _ (Kd.C_below HM.out (HB2.out.alloc HB2.out.size _)) HMC.out HX.out).mono ?_); rintro e W3 ⟨rfl, hd⟩; have HI3 := Aside0.mk (IsR.drawn (IsR.alloc HI2.out _) hd); have HB3 := Aside0.mk (below_drawn (HB2.out.alloc HB2.out.size _) hd); have HK3 := Aside0.mk (keep_drawn (keep_alloc HK2.out _) hd); have HR3 := Aside0.mk (blk_drawn (blk_alloc HR2.out _) hd); clear hd HI2 HB2 HK2 HR2; have hr0 : W3.cell? ⟨w.heap.size, 0, none⟩ = some (.int .i64 0) := (blk_cell HR3.out 0).trans rfl; have hr1 : W3.cell? ⟨w.heap.size, 1, none⟩ = some (.int .i64 0) := (blk_cell HR3.out 1).trans rfl; have fr0 := blk_frozen HR3.out 0; have fr1 := blk_frozen HR3.out 1))
  obtain ⟨t1_, t2_, t3_, t4_⟩ := two_set HI3.out HB3.out HK3.out (Nat.le_refl _) H0.out HG.out HR3.out (.int .i64 11) (.int .i64 p)
  refine bodyPost_ret (results_list (rs := [.tmp 4, .cell 5 29]) rfl (by simp) (.tmp (.cell w.heap.size 29 #[.int .i64 11, .int .i64 p] (0, 0) _ rfl t1_ Tryd.underlying29 rfl (by kernel_rfl) .nil))) rfl ⟨rfl, t2_, t3_, t4_⟩
set_option maxRecDepth 100000 in
set_option maxHeartbeats 1000000 in
theorem where_some (K : Nat) (g : Nat) (s : ByteArray) (A : Option Addr) (cap : Nat) (l : List S48) (k : Int) (kw nm : ByteArray) (b p b2 i : Int) (w0 w : World) (hI : IsR w0 w g s (.slice A l.length cap) k) (hB : Below w0.heap.size w0 w) (hC : Kd.C k48 w0 A l.length l) (hT : Kd.C Kd.string w0 (some ⟨0, 0, none⟩) tab_action_kinds.length tab_action_kinds) (A1 : Option Addr) (cm : Nat) (ms : List ByteArray) (hM : Kd.C Kd.string w0 A1 ms.length ms) (hMc : ms.length ≤ cm)
    (hk : k ≠ (l.length : Int)) (hW : keyF K [go] s l k = some (kw, 0, 0, b)) (hN : nameF K s l b = some (nm, p, 0, 0, b2)) (hX : slices_Index_string_string.f K ms nm = some i) (hi : ¬ i < 0) :
    Calls Tryd.prog 15 #[.pointer (some ⟨g, 0, none⟩), .slice A1 ms.length cm] w fun e w' => e = .returned (.tuple #[.int .i64 i, .agg #[.int .i64 0, .int .i64 0]]) ∧ IsR w0 w' g s (.slice A l.length cap) b2 ∧ Below w0.heap.size w0 w' ∧ KeepBut w w' g none := by
  have c1 : decide (i < 0) = false := decide_eq_false hi
  have HN := Aside0.mk hN
  have HX := Aside0.mk hX
  have HM := Aside0.mk hM
  have HMC := Aside0.mk hMc
  clear hi hM hMc hN hX
  have q0 : (k == (l.length : Int)) = false := beq_eq_false_iff_ne.mpr hk
  have q1 : decide (k = (l.length : Int)) = false := decide_eq_false hk
  clear hk
  have HI := Aside0.mk hI
  have HB := Aside0.mk hB
  have HC := Aside0.mk hC
  have HW := Aside0.mk hW
  have hlt := IsR.lt hI
  have HG : Aside0 (g ≠ w.heap.size) := ⟨by omega⟩
  have HGq : w.heap.size + 1 ≠ g := by omega
  have H0 : Aside0 (w0.heap.size ≤ w.heap.size) := ⟨hB.size⟩
  have HQ0 : (((w.alloc (.cells #[.int .i64 0, .int .i64 0] 29)).alloc (.cells #[.string go] 9)).drew).heap[w.heap.size + 1]? = some (.cells #[.string go] 9 (0, 0)) := by
    have := World.alloc_heap_new (w.alloc (.cells #[.int .i64 0, .int .i64 0] 29)) (.cells #[.string go] 9)
    rw [World.size_alloc] at this
    exact this
  obtain ⟨_, _, hk2⟩ := kinds_at (Kd.C_below hT hB)
  have hz2 : (w.alloc (.cells #[.int .i64 0, .int .i64 0] 29)).cell? ⟨0, 2, none⟩ = some (.string go) := cell_al hk2 _
  have hc1 : (w.alloc (.cells #[.int .i64 0, .int .i64 0] 29)).cell? ⟨g, 1, none⟩ = some (.slice A l.length cap) := IsR.c1 (IsR.alloc hI _)
  have hc2 : (w.alloc (.cells #[.int .i64 0, .int .i64 0] 29)).cell? ⟨g, 2, none⟩ = some (.int .i64 k) := IsR.c2 (IsR.alloc hI _)
  clear hI hB hC hW hlt hT hk2
  go_enter Tryd.func15, Tryd.ntmps15
  go_wp2_with fail
  refine start_ (n := 10) (S := fun w' => w'.cell? ⟨g, 1, none⟩ = some (.slice A l.length cap) ∧ w'.cell? ⟨g, 2, none⟩ = some (.int .i64 k)) (ds := []) #[false, false, false, false, false, false, false, false, false, false] (by kernel_rfl) rfl rfl ⟨hc1, hc2⟩ (fun hHeld => ?_)
  refine pure_ (i := 0) (N := some 12) (v := ?_) (a' := ?_) #[true, false, false, false, false, false, false, false, false, false] rfl rfl (by kernel_rfl) (fun _ _ _ h => h) (Or.inl ⟨by rfl, ?_⟩) ?_ ?_
  rotate_left
  · intro w'
    go_simp
    with_reducible rfl
  rotate_left
  · simp only [Act.put, List.setIfInBounds_toArray, List.set_cons_zero, List.set_cons_succ, i64_w, i32_w]
    rfl
  refine pure_ (i := 1) (N := some 13) (v := ?_) (a' := ?_) #[true, true, false, false, false, false, false, false, false, false] rfl rfl (by kernel_rfl) (fun _ _ _ h => h) (Or.inl ⟨by rfl, ?_⟩) ?_ ?_
  rotate_left
  · intro w'
    go_simp
    with_reducible rfl
  rotate_left
  · simp only [Act.put, List.setIfInBounds_toArray, List.set_cons_zero, List.set_cons_succ, i64_w, i32_w]
    rfl
  refine pure_ (i := 2) (N := some 14) (v := ?_) (a' := ?_) #[true, true, true, false, false, false, false, false, false, false] rfl rfl (by kernel_rfl) (fun _ _ _ h => h) (Or.inl ⟨by rfl, ?_⟩) ?_ ?_
  rotate_left
  · intro w'
    go_simp
    with_reducible rfl
  rotate_left
  · simp only [Act.put, List.setIfInBounds_toArray, List.set_cons_zero, List.set_cons_succ, i64_w, i32_w]
    rfl
  refine pure_ (i := 4) (N := some 16) (v := ?_) (a' := ?_) #[true, true, true, false, true, false, false, false, false, false] rfl rfl (by kernel_rfl) (fun _ _ _ h => h) (Or.inl ⟨by rfl, ?_⟩) ?_ ?_
  rotate_left
  · intro w'
    go_simp
    with_reducible rfl
  rotate_left
  · simp only [Act.put, List.setIfInBounds_toArray, List.set_cons_zero, List.set_cons_succ, i64_w, i32_w]
    rfl
  refine pure_ (i := 5) (N := some 17) (v := ?_) (a' := ?_) #[true, true, true, false, true, true, false, false, false, false] rfl rfl (by kernel_rfl) (fun _ _ _ h => h) (Or.inl ⟨by rfl, ?_⟩) ?_ ?_
  rotate_left
  · intro w'
    go_simp
    with_reducible rfl
  rotate_left
  · simp only [Act.put, List.setIfInBounds_toArray, List.set_cons_zero, List.set_cons_succ, i64_w, i32_w]
    rfl
  refine pure_ (i := 6) (N := some 18) (v := ?_) (a' := ?_) #[true, true, true, false, true, true, true, false, false, false] rfl rfl (by kernel_rfl) (fun _ _ _ h => h) (Or.inl ⟨by rfl, ?_⟩) ?_ ?_
  rotate_left
  · intro w'
    go_simp
    with_reducible rfl
  rotate_left
  · simp only [Act.put, List.setIfInBounds_toArray, List.set_cons_zero, List.set_cons_succ, i64_w, i32_w]
    rfl
  refine take_ (i := 3) (N := some 15) (v := ?_) (a' := ?_) #[true, true, true, true, true, true, true, false, false, false] rfl rfl (by kernel_rfl) (fun _ _ _ h => h) (Or.inl ⟨by rfl, ?_⟩) hHeld ?_ ?_
  rotate_left
  · rintro w' ⟨s0, s1⟩
    go_simp
    with_reducible rfl
  rotate_left
  · simp only [Act.put, List.setIfInBounds_toArray, List.set_cons_zero, List.set_cons_succ, i64_w, i32_w]
    rfl
  refine take_ (i := 7) (N := some 19) (v := ?_) (a' := ?_) #[true, true, true, true, true, true, true, true, false, false] rfl rfl (by kernel_rfl) (fun _ _ _ h => h) (Or.inl ⟨by rfl, ?_⟩) hHeld ?_ ?_
  rotate_left
  · rintro w' ⟨s0, s1⟩
    go_simp
    with_reducible rfl
  rotate_left
  · simp only [Act.put, List.setIfInBounds_toArray, List.set_cons_zero, List.set_cons_succ, i64_w, i32_w]
    rfl
  refine pure_ (i := 8) (N := some 20) (v := ?_) (a' := ?_) #[true, true, true, true, true, true, true, true, true, false] rfl rfl (by kernel_rfl) (fun _ _ _ h => h) (Or.inl ⟨by rfl, ?_⟩) ?_ ?_
  rotate_left
  · intro w'
    go_simp
    with_reducible rfl
  rotate_left
  · simp only [Act.put, List.setIfInBounds_toArray, List.set_cons_zero, List.set_cons_succ, i64_w, i32_w]
    rfl
  refine pure_ (i := 9) (N := some 21) (v := ?_) (a' := ?_) #[true, true, true, true, true, true, true, true, true, true] rfl rfl (by kernel_rfl) (fun _ _ _ h => h) (Or.inl ⟨by rfl, ?_⟩) ?_ ?_
  rotate_left
  · intro w'
    go_simp
    with_reducible rfl
  rotate_left
  · simp only [Act.put, List.setIfInBounds_toArray, List.set_cons_zero, List.set_cons_succ, i64_w, i32_w]
    rfl
  refine done_ (by kernel_rfl) ?_

  go_wp2_with (first | (go_at_call 23; (with_reducible refine (key1_calls K g s A cap l k go kw 0 0 b (w.heap.size + 1) w0 _ (IsR.drew (IsR.alloc (IsR.alloc HI.out _) _)) (below_drew ((HB.out.alloc HB.out.size _).alloc (HB.out.alloc HB.out.size _).size _)) HC.out HQ0 HGq HW.out).mono ?_); rintro e W1 ⟨rfl, hI1, hB1, hK1⟩; have HL1 := Aside0.mk (keep_two hK1); have HR1 := Aside0.mk (KeepBut.blk hK1 (blk_drew (blk_alloc (blk_new w #[.int .i64 0, .int .i64 0] 29) (.cells #[.string go] 9))) (Ne.symm HG.out) (by simp)); have HI1 := Aside0.mk hI1; have HB1 := Aside0.mk hB1; have HK1 : Aside0 (KeepBut w W1 g none) := ⟨KeepBut.trans (keep_drew (keep_alloc (keep_alloc (KeepBut.refl w g none) _) _)) hK1 (.inl rfl)⟩; clear hI1 hB1 hK1) | (go_at_call 24; (with_reducible refine (name_calls K g s A cap l b nm p 0 0 b2 w0 _ (IsR.alloc HI1.out _) (HB1.out.alloc HB1.out.size _) HC.out HN.out).mono ?_); rintro e W2 ⟨rfl, hI2, hB2, hK2⟩; have HR2 := Aside0.mk (KeepBut.blk hK2 (blk_alloc HR1.out (.cells #[.int .i64 0, .int .i64 0] 29)) (Ne.symm HG.out) (by simp)); have HL2 : Aside0 (w.heap.size + 1 + 1 ≤ W2.heap.size) := ⟨by have h1_ := HL1.out; have h2_ := hK2.1; rw [World.size_alloc] at h2_; omega⟩; have HI2 := Aside0.mk hI2; have HB2 := Aside0.mk hB2; have HK2 : Aside0 (KeepBut w W2 g none) := ⟨KeepBut.trans (keep_alloc HK1.out _) hK2 (.inl rfl)⟩; clear hI2 hB2 hK2 HI1 HB1 HK1 HR1 HL1 HQ0 hz2 hc1 hc2) | (go_at_call 25; (with_reducible refine (slices_Index_string_string.calls K A1 cm ms nm i _ (Kd.C_below HM.out (HB2.out.alloc HB2.out.size _)) HMC.out HX.out).mono ?_); rintro e W3 ⟨rfl, hd⟩; have HI3 := Aside0.mk (IsR.drawn (IsR.alloc HI2.out _) hd); have HB3 := Aside0.mk (below_drawn (HB2.out.alloc HB2.out.size _) hd); have HK3 := Aside0.mk (keep_drawn (keep_alloc HK2.out _) hd); have HR3 := Aside0.mk (blk_drawn (blk_alloc HR2.out _) hd); clear hd HI2 HB2 HK2 HR2; have hr0 : W3.cell? ⟨w.heap.size, 0, none⟩ = some (.int .i64 0) := (blk_cell HR3.out 0).trans rfl; have hr1 : W3.cell? ⟨w.heap.size, 1, none⟩ = some (.int .i64 0) := (blk_cell HR3.out 1).trans rfl; have fr0 := blk_frozen HR3.out 0; have fr1 := blk_frozen HR3.out 1))
  obtain ⟨t1_, t2_, t3_, t4_⟩ := two_set HI3.out HB3.out HK3.out (Nat.le_refl _) H0.out HG.out HR3.out (.int .i64 0) (.int .i64 0)
  refine bodyPost_ret (results_list (rs := [.tmp 4, .cell 5 29]) rfl (by simp) (.tmp (.cell w.heap.size 29 #[.int .i64 0, .int .i64 0] (0, 0) _ rfl t1_ Tryd.underlying29 rfl (by kernel_rfl) .nil))) rfl ⟨rfl, t2_, t3_, t4_⟩
/-- Where to: the mode, what is wrong, which comes next. -/
def whereF (K : Nat) (ms : List ByteArray) (s : ByteArray) (l : List S48) (k : Int) : Option (Int × Int × Int × Int) :=
  if k = (l.length : Int) then some (-1, 0, 0, k)
  else (keyF K [go] s l k).bind fun q => if q.2.1 ≠ 0 then some (0, q.2.1, q.2.2.1, q.2.2.2)
    else (nameF K s l q.2.2.2).bind fun n => if n.2.2.1 ≠ 0 then some (0, n.2.2.1, n.2.2.2.1, n.2.2.2.2)
      else (slices_Index_string_string.f K ms n.1).bind fun i => if i < 0 then some (0, 11, n.2.1, n.2.2.2.2) else some (i, 0, 0, n.2.2.2.2)
theorem where_calls (K : Nat) (g : Nat) (s : ByteArray) (A : Option Addr) (cap : Nat) (l : List S48) (k : Int) (i E a b : Int) (w0 w : World) (hI : IsR w0 w g s (.slice A l.length cap) k) (hB : Below w0.heap.size w0 w) (hC : Kd.C k48 w0 A l.length l) (hT : Kd.C Kd.string w0 (some ⟨0, 0, none⟩) tab_action_kinds.length tab_action_kinds) (A1 : Option Addr) (cm : Nat) (ms : List ByteArray) (hM : Kd.C Kd.string w0 A1 ms.length ms) (hMc : ms.length ≤ cm) (h : whereF K ms s l k = some (i, E, a, b)) :
    Calls Tryd.prog 15 #[.pointer (some ⟨g, 0, none⟩), .slice A1 ms.length cm] w fun e w' => e = .returned (.tuple #[.int .i64 i, .agg #[.int .i64 E, .int .i64 a]]) ∧ IsR w0 w' g s (.slice A l.length cap) b ∧ Below w0.heap.size w0 w' ∧ KeepBut w w' g none := by
  unfold whereF at h
  by_cases hk : k = (l.length : Int)
  · rw [if_pos hk] at h
    simp only [Option.some.injEq, Prod.mk.injEq] at h
    obtain ⟨rfl, rfl, rfl, rfl⟩ := h
    exact where_end g s A cap l k w0 w hI hB hC hT A1 cm ms hM hMc hk
  · rw [if_neg hk] at h
    obtain ⟨⟨kw, E1, a1, b1⟩, h1, h2⟩ := Option.bind_eq_some_iff.mp h
    dsimp only at h2
    by_cases hE : E1 = 0
    · have hz := keyF_zero h1 hE
      subst hE
      subst hz
      rw [if_neg (fun e => e rfl)] at h2
      obtain ⟨⟨nm, p, E2, a2, b2⟩, h3, h4⟩ := Option.bind_eq_some_iff.mp h2
      dsimp only at h4
      by_cases hE2 : E2 = 0
      · have hz := nameF_zero h3 hE2
        subst hE2
        subst hz
        rw [if_neg (fun e => e rfl)] at h4
        obtain ⟨j, h5, h6⟩ := Option.bind_eq_some_iff.mp h4
        by_cases hj : j < 0
        · rw [if_pos hj] at h6
          simp only [Option.some.injEq, Prod.mk.injEq] at h6
          obtain ⟨rfl, rfl, rfl, rfl⟩ := h6
          exact where_none K g s A cap l k kw nm b1 p b2 j w0 w hI hB hC hT A1 cm ms hM hMc hk h1 h3 h5 hj
        · rw [if_neg hj] at h6
          simp only [Option.some.injEq, Prod.mk.injEq] at h6
          obtain ⟨rfl, rfl, rfl, rfl⟩ := h6
          exact where_some K g s A cap l k kw nm b1 p b2 j w0 w hI hB hC hT A1 cm ms hM hMc hk h1 h3 h5 hj
      · rw [if_pos hE2] at h4
        simp only [Option.some.injEq, Prod.mk.injEq] at h4
        obtain ⟨rfl, rfl, rfl, rfl⟩ := h4
        exact where_name K g s A cap l k kw nm b1 p E2 a2 b2 w0 w hI hB hC hT A1 cm ms hM hMc hk h1 h3 hE2
    · rw [if_pos hE] at h2
      simp only [Option.some.injEq, Prod.mk.injEq] at h2
      obtain ⟨rfl, rfl, rfl, rfl⟩ := h2
      exact where_bad K g s A cap l k kw E1 a1 b1 w0 w hI hB hC hT A1 cm ms hM hMc hk h1 hE
end Go.Proofs.YtkfijbmplllmlaaDoor.HandWr

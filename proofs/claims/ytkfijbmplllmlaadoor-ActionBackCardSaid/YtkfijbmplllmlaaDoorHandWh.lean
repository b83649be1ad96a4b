/- What an action does: skip, or emit a name. Conditions: what the plain functions tell. -/
import Derived.Test.YtkfijbmplllmlaaDoorHandKw
set_option linter.unusedSimpArgs false
set_option linter.unusedVariables false
namespace Go.Proofs.YtkfijbmplllmlaaDoor.HandWh
open Go.RowKit Go.Proofs.YtkfijbmplllmlaaDoorW.PrintWords Go.Proofs.YtkfijbmplllmlaaDoorW.PrintLast Go.Proofs.YtkfijbmplllmlaaDoorW.PrintMore Go.Proofs.YtkfijbmplllmlaaDoor.PA Go.Proofs.YtkfijbmplllmlaaDoor.HandRd Go.Proofs.YtkfijbmplllmlaaDoor.HandKw
attribute [local go_sem] arrI48_0 arrI48_1 arrI56_0 arrI56_1 arrI56_2
attribute [local go_sem high] eqA29
def sk : ByteArray := ⟨#[115, 107, 105, 112]⟩
def em : ByteArray := ⟨#[101, 109, 105, 116]⟩
def go : ByteArray := ⟨#[103, 111, 116, 111]⟩
theorem kinds_at {w : World} (h : Kd.C Kd.string w (some ⟨0, 0, none⟩) tab_action_kinds.length tab_action_kinds) :
    w.cell? ⟨0, 0, none⟩ = some (.string sk) ∧ w.cell? ⟨0, 1, none⟩ = some (.string em) ∧ w.cell? ⟨0, 2, none⟩ = some (.string go) := by
  have one : ∀ (j : Int), 0 ≤ j → j < 3 → w.cell? (Addr.add ⟨0, 0, none⟩ j.toNat) = some (.string (rdOf ByteArray.empty tab_action_kinds j)) := by
    intro j h0 h3
    obtain ⟨ad, hA, hc⟩ := Kd.at_string h j h0 (by simpa [tab_action_kinds] using h3)
    obtain rfl := Option.some.inj hA
    exact hc
  exact ⟨one 0 (by decide) (by decide), one 1 (by decide) (by decide), one 2 (by decide) (by decide)⟩
set_option maxRecDepth 100000 in
set_option maxHeartbeats 1000000 in
theorem what_bad (K g : Nat) (s : ByteArray) (A : Option Addr) (cap : Nat) (l : List S48) (k : Int) (kw : ByteArray) (E a b : Int) (w0 w : World) (hI : IsR w0 w g s (.slice A l.length cap) k) (hB : Below w0.heap.size w0 w) (hC : Kd.C k48 w0 A l.length l) (hT : Kd.C Kd.string w0 (some ⟨0, 0, none⟩) tab_action_kinds.length tab_action_kinds)
    (hW : keyF K [sk, em] s l k = some (kw, E, a, b)) (hE : E ≠ 0) :
    Calls Tryd.prog 14 #[.pointer (some ⟨g, 0, none⟩)] w fun e w' => e = .returned (.tuple #[.string ⟨#[]⟩, .agg #[.int .i64 E, .int .i64 a]]) ∧ IsR w0 w' g s (.slice A l.length cap) b ∧ Below w0.heap.size w0 w' ∧ KeepBut w w' g none := by
  have c1 : (E == 0) = false := beq_eq_false_iff_ne.mpr hE
  have HI := Aside0.mk hI
  have HB := Aside0.mk hB
  have HC := Aside0.mk hC
  have HW := Aside0.mk hW
  have hlt := IsR.lt hI
  have HG : Aside0 (g ≠ w.heap.size) := ⟨by omega⟩
  have HGq : w.heap.size + 1 ≠ g := by omega
  have H0 : Aside0 (w0.heap.size ≤ w.heap.size) := ⟨hB.size⟩
  have HQ0 : ((w.alloc (.cells #[.int .i64 0, .int .i64 0] 29)).alloc (.cells #[.string sk, .string em] 9)).heap[w.heap.size + 1]? = some (.cells #[.string sk, .string em] 9 (0, 0)) := by
    have := World.alloc_heap_new (w.alloc (.cells #[.int .i64 0, .int .i64 0] 29)) (.cells #[.string sk, .string em] 9)
    rwa [World.size_alloc] at this
  obtain ⟨hk0, hk1, _⟩ := kinds_at (Kd.C_below hT hB)
  have hz0 : (w.alloc (.cells #[.int .i64 0, .int .i64 0] 29)).cell? ⟨0, 0, none⟩ = some (.string sk) := cell_al hk0 _
  have hz1 : (w.alloc (.cells #[.int .i64 0, .int .i64 0] 29)).cell? ⟨0, 1, none⟩ = some (.string em) := cell_al hk1 _
  clear hI hB hC hW hlt hT hk0 hk1
  clear hE
  go_enter Tryd.func14, Tryd.ntmps14
  go_wp2_with (go_at_call 23; (with_reducible refine (key2_calls K g s A cap l k sk em kw E a b (w.heap.size + 1) w0 _ (IsR.alloc (IsR.alloc HI.out _) _) ((HB.out.alloc HB.out.size _).alloc (HB.out.alloc HB.out.size _).size _) HC.out HQ0 HGq HW.out).mono ?_); rintro e W1 ⟨rfl, hI1, hB1, hK1⟩; have hl1 : w.heap.size + 1 + 1 ≤ W1.heap.size := (by have := hK1.1; simpa using this); have HL1 := Aside0.mk hl1; have HR1 := Aside0.mk (KeepBut.blk hK1 (blk_alloc (blk_new w #[.int .i64 0, .int .i64 0] 29) (.cells #[.string sk, .string em] 9)) (Ne.symm HG.out) (by simp)); have HI1 := Aside0.mk hI1; have HB1 := Aside0.mk hB1; have HK1 : Aside0 (KeepBut w W1 g none) := ⟨KeepBut.trans (keep_alloc (keep_alloc (KeepBut.refl w g none) _) _) hK1 (.inl rfl)⟩; clear hI1 hB1 hK1 hl1)
  obtain ⟨q, hq⟩ : ∃ q, q = W1.heap.size := ⟨_, rfl⟩
  have HX : Aside0 ((W1.alloc (.cells #[.int .i64 E, .int .i64 a] 29)).heap[q]? = some (.cells #[.int .i64 E, .int .i64 a] 29 (0, 0))) := ⟨by rw [hq]; exact World.alloc_heap_new W1 _⟩
  have HNq : Aside0 (q ≠ w.heap.size) := ⟨by have := HL1.out; omega⟩
  rw [← hq]
  clear hq HL1
  have hc0 : (W1.alloc (.cells #[.int .i64 E, .int .i64 a] 29)).cell? ⟨q, 0, none⟩ = some (.int .i64 E) := (blk_cell HX.out 0).trans rfl
  have hc1 : (W1.alloc (.cells #[.int .i64 E, .int .i64 a] 29)).cell? ⟨q, 1, none⟩ = some (.int .i64 a) := (blk_cell HX.out 1).trans rfl
  refine start_ (n := 3) (S := fun w' => w'.cell? ⟨q, 0, none⟩ = some (.int .i64 E) ∧ w'.cell? ⟨q, 1, none⟩ = some (.int .i64 a)) (ds := [2]) #[false, false, false] (by kernel_rfl) rfl rfl ⟨hc0, hc1⟩ (fun hHeld => ?_)
  have HI5 := Aside0.mk (IsR.drew (IsR.alloc HI1.out (.cells #[.int .i64 E, .int .i64 a] 29)))
  have HB5 := Aside0.mk (below_drew (HB1.out.alloc HB1.out.size (.cells #[.int .i64 E, .int .i64 a] 29)))
  have HK5 := Aside0.mk (keep_drew (keep_alloc HK1.out (.cells #[.int .i64 E, .int .i64 a] 29)))
  have HR5 := Aside0.mk (blk_drew (blk_alloc HR1.out (.cells #[.int .i64 E, .int .i64 a] 29)))
  clear HI1 HB1 HK1 HR1 hc0 hc1 HX HQ0 hz0 hz1
  generalize (W1.alloc (.cells #[.int .i64 E, .int .i64 a] 29)).drew = W5 at HI5 HB5 HK5 HR5 hHeld ⊢
  have hr0 : W5.cell? ⟨w.heap.size, 0, none⟩ = some (.int .i64 0) := (blk_cell HR5.out 0).trans rfl; have hr1 : W5.cell? ⟨w.heap.size, 1, none⟩ = some (.int .i64 0) := (blk_cell HR5.out 1).trans rfl; have fr0 := blk_frozen HR5.out 0; have fr1 := blk_frozen HR5.out 1
  refine pure_ (i := 1) (N := some 2) (v := ?_) (a' := ?_) #[false, true, false] rfl rfl (by kernel_rfl) (fun _ _ _ h => h) (Or.inl ⟨by rfl, ?_⟩) ?_ ?_
  rotate_left
  · intro w'
    go_simp
    with_reducible rfl
  rotate_left
  · simp only [Act.put, List.setIfInBounds_toArray, List.set_cons_zero, List.set_cons_succ, i64_w, i32_w]
    rfl
  refine take_ (i := 0) (N := some 25) (v := ?_) (a' := ?_) #[true, true, false] rfl rfl (by kernel_rfl) (fun _ _ _ h => h) (Or.inl ⟨by rfl, ?_⟩) hHeld ?_ ?_
  rotate_left
  · rintro w' ⟨s0, s1⟩
    go_simp
    with_reducible rfl
  rotate_left
  · simp only [Act.put, List.setIfInBounds_toArray, List.set_cons_zero, List.set_cons_succ, i64_w, i32_w]
    rfl
  refine last_ (i := 2) (N := none) #[true, true, true] rfl rfl (by kernel_rfl) (by decide) (fun K hK => ?_)
  refine skip_ (w1 := ?_) (by rfl) rfl ?_ ?_
  rotate_left
  · go_simp
    rfl
  refine hK.out _ _ ?_
  clear hK K
  refine done_ (by kernel_rfl) ?_

  go_wp2_with fail
  obtain ⟨t1_, t2_, t3_, t4_⟩ := two_set HI5.out HB5.out HK5.out (Nat.le_refl _) H0.out HG.out HR5.out (.int .i64 E) (.int .i64 a)
  refine bodyPost_ret (results_list (rs := [.tmp 2, .cell 3 29]) rfl (by simp) (.tmp (.cell w.heap.size 29 #[.int .i64 E, .int .i64 a] (0, 0) _ rfl t1_ Tryd.underlying29 rfl (by kernel_rfl) .nil))) rfl ⟨rfl, t2_, t3_, t4_⟩
set_option maxRecDepth 100000 in
set_option maxHeartbeats 1000000 in
theorem what_skip (K g : Nat) (s : ByteArray) (A : Option Addr) (cap : Nat) (l : List S48) (k : Int) (kw : ByteArray) (b : Int) (w0 w : World) (hI : IsR w0 w g s (.slice A l.length cap) k) (hB : Below w0.heap.size w0 w) (hC : Kd.C k48 w0 A l.length l) (hT : Kd.C Kd.string w0 (some ⟨0, 0, none⟩) tab_action_kinds.length tab_action_kinds)
    (hW : keyF K [sk, em] s l k = some (kw, 0, 0, b)) (hs : kw.toList = ([115, 107, 105, 112] : List UInt8)) :
    Calls Tryd.prog 14 #[.pointer (some ⟨g, 0, none⟩)] w fun e w' => e = .returned (.tuple #[.string ⟨#[]⟩, .agg #[.int .i64 0, .int .i64 0]]) ∧ IsR w0 w' g s (.slice A l.length cap) b ∧ Below w0.heap.size w0 w' ∧ KeepBut w w' g none := by
  have c2 : (kw.toList == ([115, 107, 105, 112] : List UInt8)) = true := beq_iff_eq.mpr hs
  have HI := Aside0.mk hI
  have HB := Aside0.mk hB
  have HC := Aside0.mk hC
  have HW := Aside0.mk hW
  have hlt := IsR.lt hI
  have HG : Aside0 (g ≠ w.heap.size) := ⟨by omega⟩
  have HGq : w.heap.size + 1 ≠ g := by omega
  have H0 : Aside0 (w0.heap.size ≤ w.heap.size) := ⟨hB.size⟩
  have HQ0 : ((w.alloc (.cells #[.int .i64 0, .int .i64 0] 29)).alloc (.cells #[.string sk, .string em] 9)).heap[w.heap.size + 1]? = some (.cells #[.string sk, .string em] 9 (0, 0)) := by
    have := World.alloc_heap_new (w.alloc (.cells #[.int .i64 0, .int .i64 0] 29)) (.cells #[.string sk, .string em] 9)
    rwa [World.size_alloc] at this
  obtain ⟨hk0, hk1, _⟩ := kinds_at (Kd.C_below hT hB)
  have hz0 : (w.alloc (.cells #[.int .i64 0, .int .i64 0] 29)).cell? ⟨0, 0, none⟩ = some (.string sk) := cell_al hk0 _
  have hz1 : (w.alloc (.cells #[.int .i64 0, .int .i64 0] 29)).cell? ⟨0, 1, none⟩ = some (.string em) := cell_al hk1 _
  clear hI hB hC hW hlt hT hk0 hk1
  clear hs
  go_enter Tryd.func14, Tryd.ntmps14
  go_wp2_with (go_at_call 23; (with_reducible refine (key2_calls K g s A cap l k sk em kw 0 0 b (w.heap.size + 1) w0 _ (IsR.alloc (IsR.alloc HI.out _) _) ((HB.out.alloc HB.out.size _).alloc (HB.out.alloc HB.out.size _).size _) HC.out HQ0 HGq HW.out).mono ?_); rintro e W1 ⟨rfl, hI1, hB1, hK1⟩; have hl1 : w.heap.size + 1 + 1 ≤ W1.heap.size := (by have := hK1.1; simpa using this); have HL1 := Aside0.mk hl1; have HR1 := Aside0.mk (KeepBut.blk hK1 (blk_alloc (blk_new w #[.int .i64 0, .int .i64 0] 29) (.cells #[.string sk, .string em] 9)) (Ne.symm HG.out) (by simp)); have HI1 := Aside0.mk hI1; have HB1 := Aside0.mk hB1; have HK1 : Aside0 (KeepBut w W1 g none) := ⟨KeepBut.trans (keep_alloc (keep_alloc (KeepBut.refl w g none) _) _) hK1 (.inl rfl)⟩; clear hI1 hB1 hK1 hl1)
  obtain ⟨q, hq⟩ : ∃ q, q = W1.heap.size := ⟨_, rfl⟩
  have HX : Aside0 ((W1.alloc (.cells #[.int .i64 0, .int .i64 0] 29)).heap[q]? = some (.cells #[.int .i64 0, .int .i64 0] 29 (0, 0))) := ⟨by rw [hq]; exact World.alloc_heap_new W1 _⟩
  have HNq : Aside0 (q ≠ w.heap.size) := ⟨by have := HL1.out; omega⟩
  rw [← hq]
  clear hq HL1
  have hc0 : (W1.alloc (.cells #[.int .i64 0, .int .i64 0] 29)).cell? ⟨q, 0, none⟩ = some (.int .i64 0) := (blk_cell HX.out 0).trans rfl
  have hc1 : (W1.alloc (.cells #[.int .i64 0, .int .i64 0] 29)).cell? ⟨q, 1, none⟩ = some (.int .i64 0) := (blk_cell HX.out 1).trans rfl
  refine start_ (n := 3) (S := fun w' => w'.cell? ⟨q, 0, none⟩ = some (.int .i64 0) ∧ w'.cell? ⟨q, 1, none⟩ = some (.int .i64 0)) (ds := [2]) #[false, false, false] (by kernel_rfl) rfl rfl ⟨hc0, hc1⟩ (fun hHeld => ?_)
  have HI5 := Aside0.mk (IsR.drew (IsR.alloc HI1.out (.cells #[.int .i64 0, .int .i64 0] 29)))
  have HB5 := Aside0.mk (below_drew (HB1.out.alloc HB1.out.size (.cells #[.int .i64 0, .int .i64 0] 29)))
  have HK5 := Aside0.mk (keep_drew (keep_alloc HK1.out (.cells #[.int .i64 0, .int .i64 0] 29)))
  have HR5 := Aside0.mk (blk_drew (blk_alloc HR1.out (.cells #[.int .i64 0, .int .i64 0] 29)))
  clear HI1 HB1 HK1 HR1 hc0 hc1 HX HQ0 hz0 hz1
  generalize (W1.alloc (.cells #[.int .i64 0, .int .i64 0] 29)).drew = W5 at HI5 HB5 HK5 HR5 hHeld ⊢
  have hr0 : W5.cell? ⟨w.heap.size, 0, none⟩ = some (.int .i64 0) := (blk_cell HR5.out 0).trans rfl; have hr1 : W5.cell? ⟨w.heap.size, 1, none⟩ = some (.int .i64 0) := (blk_cell HR5.out 1).trans rfl; have fr0 := blk_frozen HR5.out 0; have fr1 := blk_frozen HR5.out 1
  refine pure_ (i := 1) (N := some 2) (v := ?_) (a' := ?_) #[false, true, false] rfl rfl (by kernel_rfl) (fun _ _ _ h => h) (Or.inl ⟨by rfl, ?_⟩) ?_ ?_
  rotate_left
  · intro w'
    go_simp
    with_reducible rfl
  rotate_left
  · simp only [Act.put, List.setIfInBounds_toArray, List.set_cons_zero, List.set_cons_succ, i64_w, i32_w]
    rfl
  refine take_ (i := 0) (N := some 25) (v := ?_) (a' := ?_) #[true, true, false] rfl rfl (by kernel_rfl) (fun _ _ _ h => h) (Or.inl ⟨by rfl, ?_⟩) hHeld ?_ ?_
  rotate_left
  · rintro w' ⟨s0, s1⟩
    go_simp
    with_reducible rfl
  rotate_left
  · simp only [Act.put, List.setIfInBounds_toArray, List.set_cons_zero, List.set_cons_succ, i64_w, i32_w]
    rfl
  refine last_ (i := 2) (N := none) #[true, true, true] rfl rfl (by kernel_rfl) (by decide) (fun K hK => ?_)
  refine skip_ (w1 := ?_) (by rfl) rfl ?_ ?_
  rotate_left
  · go_simp
    rfl
  refine hK.out _ _ ?_
  clear hK K
  refine done_ (by kernel_rfl) ?_

  go_wp2_with fail
  obtain ⟨t1_, t2_, t3_, t4_⟩ := two_set HI5.out HB5.out HK5.out (Nat.le_refl _) H0.out HG.out HR5.out (.int .i64 0) (.int .i64 0)
  refine bodyPost_ret (results_list (rs := [.tmp 2, .cell 3 29]) rfl (by simp) (.tmp (.cell w.heap.size 29 #[.int .i64 0, .int .i64 0] (0, 0) _ rfl t1_ Tryd.underlying29 rfl (by kernel_rfl) .nil))) rfl ⟨rfl, t2_, t3_, t4_⟩
set_option maxRecDepth 100000 in
set_option maxHeartbeats 1000000 in
theorem what_name (K g : Nat) (s : ByteArray) (A : Option Addr) (cap : Nat) (l : List S48) (k : Int) (kw : ByteArray) (b : Int) (nm : ByteArray) (p E2 a2 b2 : Int) (w0 w : World) (hI : IsR w0 w g s (.slice A l.length cap) k) (hB : Below w0.heap.size w0 w) (hC : Kd.C k48 w0 A l.length l) (hT : Kd.C Kd.string w0 (some ⟨0, 0, none⟩) tab_action_kinds.length tab_action_kinds)
    (hW : keyF K [sk, em] s l k = some (kw, 0, 0, b)) (hs : ¬ kw.toList = ([115, 107, 105, 112] : List UInt8)) (hN : nameF K s l b = some (nm, p, E2, a2, b2)) :
    Calls Tryd.prog 14 #[.pointer (some ⟨g, 0, none⟩)] w fun e w' => e = .returned (.tuple #[.string nm, .agg #[.int .i64 E2, .int .i64 a2]]) ∧ IsR w0 w' g s (.slice A l.length cap) b2 ∧ Below w0.heap.size w0 w' ∧ KeepBut w w' g none := by
  have c2 : (kw.toList == ([115, 107, 105, 112] : List UInt8)) = false := beq_eq_false_iff_ne.mpr hs
  have HN := Aside0.mk hN
  have HI := Aside0.mk hI
  have HB := Aside0.mk hB
  have HC := Aside0.mk hC
  have HW := Aside0.mk hW
  have hlt := IsR.lt hI
  have HG : Aside0 (g ≠ w.heap.size) := ⟨by omega⟩
  have HGq : w.heap.size + 1 ≠ g := by omega
  have H0 : Aside0 (w0.heap.size ≤ w.heap.size) := ⟨hB.size⟩
  have HQ0 : ((w.alloc (.cells #[.int .i64 0, .int .i64 0] 29)).alloc (.cells #[.string sk, .string em] 9)).heap[w.heap.size + 1]? = some (.cells #[.string sk, .string em] 9 (0, 0)) := by
    have := World.alloc_heap_new (w.alloc (.cells #[.int .i64 0, .int .i64 0] 29)) (.cells #[.string sk, .string em] 9)
    rwa [World.size_alloc] at this
  obtain ⟨hk0, hk1, _⟩ := kinds_at (Kd.C_below hT hB)
  have hz0 : (w.alloc (.cells #[.int .i64 0, .int .i64 0] 29)).cell? ⟨0, 0, none⟩ = some (.string sk) := cell_al hk0 _
  have hz1 : (w.alloc (.cells #[.int .i64 0, .int .i64 0] 29)).cell? ⟨0, 1, none⟩ = some (.string em) := cell_al hk1 _
  clear hI hB hC hW hlt hT hk0 hk1
  clear hs hN
  go_enter Tryd.func14, Tryd.ntmps14
  go_wp2_with (first | (go_at_call 23; (with_reducible refine (key2_calls K g s A cap l k sk em kw 0 0 b (w.heap.size + 1) w0 _ (IsR.alloc (IsR.alloc HI.out _) _) ((HB.out.alloc HB.out.size _).alloc (HB.out.alloc HB.out.size _).size _) HC.out HQ0 HGq HW.out).mono ?_); rintro e W1 ⟨rfl, hI1, hB1, hK1⟩; have hl1 : w.heap.size + 1 + 1 ≤ W1.heap.size := (by have := hK1.1; simpa using this); have HL1 := Aside0.mk hl1; have HR1 := Aside0.mk (KeepBut.blk hK1 (blk_alloc (blk_new w #[.int .i64 0, .int .i64 0] 29) (.cells #[.string sk, .string em] 9)) (Ne.symm HG.out) (by simp)); have HI1 := Aside0.mk hI1; have HB1 := Aside0.mk hB1; have HK1 : Aside0 (KeepBut w W1 g none) := ⟨KeepBut.trans (keep_alloc (keep_alloc (KeepBut.refl w g none) _) _) hK1 (.inl rfl)⟩; clear hI1 hB1 hK1 hl1) | (go_at_call 24; (with_reducible refine (name_calls K g s A cap l b nm p E2 a2 b2 w0 _ (IsR.alloc HI1.out _) (HB1.out.alloc HB1.out.size _) HC.out HN.out).mono ?_); rintro e W2 ⟨rfl, hI2, hB2, hK2⟩; obtain ⟨q, hq⟩ : ∃ q, q = W1.heap.size := ⟨_, rfl⟩; have hgq : g ≠ q := (by have := IsR.lt HI1.out; omega); have HX2 := Aside0.mk (KeepBut.blk hK2 (blk_new W1 #[.int .i64 0, .int .i64 0] 29) (by rw [← hq]; exact Ne.symm hgq) (by simp)); have HR2 := Aside0.mk (KeepBut.blk hK2 (blk_alloc HR1.out (.cells #[.int .i64 0, .int .i64 0] 29)) (Ne.symm HG.out) (by simp)); have HNq : Aside0 (q ≠ w.heap.size) := ⟨by have := HL1.out; omega⟩; have HGQ := Aside0.mk hgq; have HWq : Aside0 (w.heap.size ≤ q) := ⟨by have := HL1.out; omega⟩; rw [← hq] at HX2 ⊢; have HI2 := Aside0.mk hI2; have HB2 := Aside0.mk hB2; have HK2 : Aside0 (KeepBut w W2 g none) := ⟨KeepBut.trans (keep_alloc HK1.out _) hK2 (.inl rfl)⟩; clear hI2 hB2 hK2 hgq hq HI1 HB1 HK1 HR1 HL1 HQ0; have hx0 : W2.cell? ⟨q, 0, none⟩ = some (.int .i64 0) := (blk_cell HX2.out 0).trans rfl; have hx1 : W2.cell? ⟨q, 1, none⟩ = some (.int .i64 0) := (blk_cell HX2.out 1).trans rfl; have fx0 := blk_frozen HX2.out 0; have fx1 := blk_frozen HX2.out 1))
  obtain ⟨HX3, hI3, hB3, hK3⟩ := two_set HI2.out HB2.out HK2.out HWq.out H0.out HGQ.out HX2.out (.int .i64 E2) (.int .i64 a2)
  have HR3 := Aside0.mk (blk_far (p := ⟨q, 1, none⟩) (blk_far (p := ⟨q, 0, none⟩) HR2.out (Ne.symm HNq.out) (.int .i64 E2)) (Ne.symm HNq.out) (.int .i64 a2))
  have HI3 := Aside0.mk hI3
  have HB3 := Aside0.mk hB3
  have HK3 := Aside0.mk hK3
  have hc0 : ((W2.setCell ⟨q, 0, none⟩ (.int .i64 E2)).setCell ⟨q, 1, none⟩ (.int .i64 a2)).cell? ⟨q, 0, none⟩ = some (.int .i64 E2) := (blk_cell HX3 0).trans rfl
  have hc1 : ((W2.setCell ⟨q, 0, none⟩ (.int .i64 E2)).setCell ⟨q, 1, none⟩ (.int .i64 a2)).cell? ⟨q, 1, none⟩ = some (.int .i64 a2) := (blk_cell HX3 1).trans rfl
  clear hI3 hB3 hK3 HX3 HI2 HB2 HK2 HR2 HX2 hx0 hx1 fx0 fx1
  refine start_ (n := 4) (S := fun w' => w'.cell? ⟨q, 0, none⟩ = some (.int .i64 E2) ∧ w'.cell? ⟨q, 1, none⟩ = some (.int .i64 a2)) (ds := [3]) #[false, false, false, false] (by kernel_rfl) rfl rfl ⟨hc0, hc1⟩ (fun hHeld => ?_)
  have HI5 := Aside0.mk (IsR.drew HI3.out)
  have HB5 := Aside0.mk (below_drew HB3.out)
  have HK5 := Aside0.mk (keep_drew HK3.out)
  have HR5 := Aside0.mk (blk_drew HR3.out)
  clear HI3 HB3 HK3 HR3 hc0 hc1 hz0 hz1
  generalize ((W2.setCell ⟨q, 0, none⟩ (.int .i64 E2)).setCell ⟨q, 1, none⟩ (.int .i64 a2)).drew = W5 at HI5 HB5 HK5 HR5 hHeld ⊢
  have hr0 : W5.cell? ⟨w.heap.size, 0, none⟩ = some (.int .i64 0) := (blk_cell HR5.out 0).trans rfl; have hr1 : W5.cell? ⟨w.heap.size, 1, none⟩ = some (.int .i64 0) := (blk_cell HR5.out 1).trans rfl; have fr0 := blk_frozen HR5.out 0; have fr1 := blk_frozen HR5.out 1
  refine pure_ (i := 0) (N := some 33) (v := ?_) (a' := ?_) #[true, false, false, false] rfl rfl (by kernel_rfl) (fun _ _ _ h => h) (Or.inl ⟨by rfl, ?_⟩) ?_ ?_
  rotate_left
  · intro w'
    go_simp
    with_reducible rfl
  rotate_left
  · simp only [Act.put, List.setIfInBounds_toArray, List.set_cons_zero, List.set_cons_succ, i64_w, i32_w]
    rfl
  refine pure_ (i := 2) (N := some 2) (v := ?_) (a' := ?_) #[true, false, true, false] rfl rfl (by kernel_rfl) (fun _ _ _ h => h) (Or.inl ⟨by rfl, ?_⟩) ?_ ?_
  rotate_left
  · intro w'
    go_simp
    with_reducible rfl
  rotate_left
  · simp only [Act.put, List.setIfInBounds_toArray, List.set_cons_zero, List.set_cons_succ, i64_w, i32_w]
    rfl
  refine take_ (i := 1) (N := some 34) (v := ?_) (a' := ?_) #[true, true, true, false] rfl rfl (by kernel_rfl) (fun _ _ _ h => h) (Or.inl ⟨by rfl, ?_⟩) hHeld ?_ ?_
  rotate_left
  · rintro w' ⟨s0, s1⟩
    go_simp
    with_reducible rfl
  rotate_left
  · simp only [Act.put, List.setIfInBounds_toArray, List.set_cons_zero, List.set_cons_succ, i64_w, i32_w]
    rfl
  refine last_ (i := 3) (N := none) #[true, true, true, true] rfl rfl (by kernel_rfl) (by decide) (fun K hK => ?_)
  refine skip_ (w1 := ?_) (by rfl) rfl ?_ ?_
  rotate_left
  · go_simp
    rfl
  refine hK.out _ _ ?_
  clear hK K
  refine done_ (by kernel_rfl) ?_

  go_wp2_with fail
  obtain ⟨t1_, t2_, t3_, t4_⟩ := two_set HI5.out HB5.out HK5.out (Nat.le_refl _) H0.out HG.out HR5.out (.int .i64 E2) (.int .i64 a2)
  refine bodyPost_ret (results_list (rs := [.tmp 2, .cell 3 29]) rfl (by simp) (.tmp (.cell w.heap.size 29 #[.int .i64 E2, .int .i64 a2] (0, 0) _ rfl t1_ Tryd.underlying29 rfl (by kernel_rfl) .nil))) rfl ⟨rfl, t2_, t3_, t4_⟩
/-- What: a name, or nothing; what is wrong; which comes next. -/
def whatF (K : Nat) (s : ByteArray) (l : List S48) (k : Int) : Option (ByteArray × Int × Int × Int) :=
  (keyF K [sk, em] s l k).bind fun q => if q.2.1 ≠ 0 ∨ q.1.toList = ([115, 107, 105, 112] : List UInt8) then some (⟨#[]⟩, q.2.1, q.2.2.1, q.2.2.2) else (nameF K s l q.2.2.2).bind fun n => some (n.1, n.2.2.1, n.2.2.2.1, n.2.2.2.2)
theorem keyF_zero {K : Nat} {ks : List ByteArray} {s : ByteArray} {l : List S48} {k : Int} {kw : ByteArray} {E a b : Int} (h : keyF K ks s l k = some (kw, E, a, b)) (hE : E = 0) : a = 0 := by
  unfold keyF at h
  obtain ⟨⟨wd, a', b'⟩, h1, h2⟩ := Option.bind_eq_some_iff.mp h
  obtain ⟨r, h3, h4⟩ := Option.bind_eq_some_iff.mp h2
  simp only [Option.some.injEq, Prod.mk.injEq] at h4
  obtain ⟨rfl, rfl, rfl, rfl⟩ := h4
  cases r with
  | true => rfl
  | false => exact absurd hE (by simp)
theorem nameF_zero {K : Nat} {s : ByteArray} {l : List S48} {k : Int} {nm : ByteArray} {p E a b : Int} (h : nameF K s l k = some (nm, p, E, a, b)) (hE : E = 0) : a = 0 := by
  unfold nameF at h
  obtain ⟨⟨wd, a', b'⟩, h1, h2⟩ := Option.bind_eq_some_iff.mp h
  dsimp only at h2
  split at h2
  · simp only [Option.some.injEq, Prod.mk.injEq] at h2
    omega
  · obtain ⟨r, h3, h4⟩ := Option.bind_eq_some_iff.mp h2
    simp only [Option.some.injEq, Prod.mk.injEq] at h4
    obtain ⟨rfl, rfl, rfl, rfl, rfl⟩ := h4
    cases r with
    | true => rfl
    | false => exact absurd hE (by simp)
theorem what_calls (K g : Nat) (s : ByteArray) (A : Option Addr) (cap : Nat) (l : List S48) (k : Int) (nm : ByteArray) (E a b : Int) (w0 w : World) (hI : IsR w0 w g s (.slice A l.length cap) k) (hB : Below w0.heap.size w0 w) (hC : Kd.C k48 w0 A l.length l) (hT : Kd.C Kd.string w0 (some ⟨0, 0, none⟩) tab_action_kinds.length tab_action_kinds)
    (h : whatF K s l k = some (nm, E, a, b)) :
    Calls Tryd.prog 14 #[.pointer (some ⟨g, 0, none⟩)] w fun e w' => e = .returned (.tuple #[.string nm, .agg #[.int .i64 E, .int .i64 a]]) ∧ IsR w0 w' g s (.slice A l.length cap) b ∧ Below w0.heap.size w0 w' ∧ KeepBut w w' g none := by
  unfold whatF at h
  obtain ⟨⟨kw, E1, a1, b1⟩, h1, h2⟩ := Option.bind_eq_some_iff.mp h
  dsimp only at h2
  by_cases hE : E1 = 0
  · have hz := keyF_zero h1 hE
    subst hE
    subst hz
    by_cases hs : kw.toList = ([115, 107, 105, 112] : List UInt8)
    · rw [if_pos (.inr hs)] at h2
      simp only [Option.some.injEq, Prod.mk.injEq] at h2
      obtain ⟨rfl, rfl, rfl, rfl⟩ := h2
      exact what_skip K g s A cap l k kw b1 w0 w hI hB hC hT h1 hs
    · rw [if_neg (by simp [hs])] at h2
      obtain ⟨⟨nm', p, E2, a2, b2⟩, h3, h4⟩ := Option.bind_eq_some_iff.mp h2
      simp only [Option.some.injEq, Prod.mk.injEq] at h4
      obtain ⟨rfl, rfl, rfl, rfl⟩ := h4
      exact what_name K g s A cap l k kw b1 nm' p E2 a2 b2 w0 w hI hB hC hT h1 hs h3
  · rw [if_pos (.inl hE)] at h2
    simp only [Option.some.injEq, Prod.mk.injEq] at h2
    obtain ⟨rfl, rfl, rfl, rfl⟩ := h2
    exact what_bad K g s A cap l k kw E1 a1 b1 w0 w hI hB hC hT h1 hE

end Go.Proofs.YtkfijbmplllmlaaDoor.HandWh

-- WRITTEN BY A PROGRAM OF THIS SESSION (patchprint.py over the kit's print)
import Derived.Test.YtfknoaokoncneabDoorPFx0
import Derived.Test.YtfknoaokoncneabDoorPFx4
namespace Go.Proofs.YtfknoaokoncneabDoor.PF
open Go.RowKit Go.Proofs.YtfknoaokoncneabDoorW.PrintWords Go.Proofs.YtfknoaokoncneabDoorW.PrintLast Go.Proofs.YtfknoaokoncneabDoorW.PrintMore
attribute [local go_sem] max2_int min2_int max_two min_two max_three min_three max_four min_four   -- for this text's walks alone
set_option linter.unusedVariables false
set_option linter.unusedSimpArgs false

/-! ### spoolref06_Small: function 9 -/
def spoolref06_Small.f (k : Nat) (a0 : Int) : Option (Int) := (spoolref06_Other.f k a0).bind fun bt118 => (if bt118.2 = true then (if bt118.1 > a0 then (some bt118.1) else (some a0)) else (some a0))
theorem spoolref06_Small.mono : ∀ a0 k, LeO (spoolref06_Small.f k a0) (spoolref06_Small.f (k + 1) a0) := by
  intro a0 k
  unfold spoolref06_Small.f
  repeat' first
      | (with_reducible exact spoolref06_Other.mono _ _)
      | (with_reducible exact LeO.refl _)
      | (with_reducible exact LeO.none _)
      | (with_reducible refine LeO.ite ?_ ?_)
      | (with_reducible refine LeO.bind ?_ (fun _ => ?_))
      | exact spoolref06_Other.mono _ _
      | exact LeO.none _
      | refine LeO.ite ?_ ?_
      | refine LeO.bind ?_ (fun _ => ?_)
set_option maxHeartbeats 8000000 in
set_option maxRecDepth 100000 in
theorem spoolref06_Small.calls (k : Nat) (a0 : Int) (r : Int) (w : World) (h : spoolref06_Small.f k a0 = some r) :
    Calls Tryd.prog 9 #[.int .i64 a0] w fun e w' => e = .returned (.int .i64 r) ∧ Drawn0 w w' := by
  have H : ((spoolref06_Other.f k a0).bind fun bt118 => (if bt118.2 = true then (if bt118.1 > a0 then (some bt118.1) else (some a0)) else (some a0))) = some r := h
  clear h
  replace H := Option.bind_eq_some_iff.mp H
  obtain ⟨⟨t118, t119⟩, A20, H⟩ := H
  replace H : (if t119 = true then (if t118 > a0 then (some t118) else (some a0)) else (some a0)) = some r := H
  have A2 := Aside0.mk A20
  clear A20
  by_cases c3 : t119 = true
  · subst c3
    have H1 : (if t118 > a0 then (some t118) else (some a0)) = some r := by rw [if_pos rfl] at H; exact H
    clear H
    have H := H1
    clear H1
    by_cases c4 : t118 > a0
    · rw [if_pos c4] at H
      have c4b0 : decide (a0 < t118) = true := decide_eq_true c4
      clear c4
      obtain rfl := Option.some.inj H
      go_enter Tryd.func9, Tryd.ntmps9
      go_wp2_with (first | ((with_reducible refine gate_callee (f := 7) rfl ?_); refine goesL_ (some 7) rfl rfl Tryd.func7 (by kernel_rfl) rfl #[.int .i64 a0] rfl (by (try simp only [List.map_toArray, List.map_cons, List.map_nil]); first | done | rfl | (simp only [List.length_drop, List.length_take]; rfl)) ?_; (with_reducible refine (spoolref06_Other.calls k a0 t118 true _ A2.out).mono ?_); rintro e w' ⟨rfl, ⟨nd, rfl⟩⟩; refine ⟨_, rfl, ?_⟩))
      go_ret
      exact ⟨by first | rfl | (simp; done) | (simp [*]; done), by repeat (first | exact Drawn0.refl _ | apply Drawn0.step)⟩
    · rw [if_neg c4] at H
      have c4b0 : decide (a0 < t118) = false := decide_eq_false c4
      clear c4
      obtain rfl := Option.some.inj H
      go_enter Tryd.func9, Tryd.ntmps9
      go_wp2_with (first | ((with_reducible refine gate_callee (f := 7) rfl ?_); refine goesL_ (some 7) rfl rfl Tryd.func7 (by kernel_rfl) rfl #[.int .i64 a0] rfl (by (try simp only [List.map_toArray, List.map_cons, List.map_nil]); first | done | rfl | (simp only [List.length_drop, List.length_take]; rfl)) ?_; (with_reducible refine (spoolref06_Other.calls k a0 t118 true _ A2.out).mono ?_); rintro e w' ⟨rfl, ⟨nd, rfl⟩⟩; refine ⟨_, rfl, ?_⟩))
      go_ret
      exact ⟨by first | rfl | (simp; done) | (simp [*]; done), by repeat (first | exact Drawn0.refl _ | apply Drawn0.step)⟩
  · replace c3 := Bool.eq_false_iff.mpr c3
    subst c3
    have H1 : (some a0) = some r := by rw [if_neg (show ¬ (false = true) by decide)] at H; exact H
    clear H
    have H := H1
    clear H1
    obtain rfl := Option.some.inj H
    go_enter Tryd.func9, Tryd.ntmps9
    go_wp2_with (first | ((with_reducible refine gate_callee (f := 7) rfl ?_); refine goesL_ (some 7) rfl rfl Tryd.func7 (by kernel_rfl) rfl #[.int .i64 a0] rfl (by (try simp only [List.map_toArray, List.map_cons, List.map_nil]); first | done | rfl | (simp only [List.length_drop, List.length_take]; rfl)) ?_; (with_reducible refine (spoolref06_Other.calls k a0 t118 false _ A2.out).mono ?_); rintro e w' ⟨rfl, ⟨nd, rfl⟩⟩; refine ⟨_, rfl, ?_⟩))
    go_ret
    exact ⟨by first | rfl | (simp; done) | (simp [*]; done), by repeat (first | exact Drawn0.refl _ | apply Drawn0.step)⟩

-- NOT PRINTED: function 32 (heap_up)

-- NOT PRINTED: function 26 (heap_Push)

-- NOT PRINTED: function 27 (ranges_empty)

-- NOT PRINTED: function 33 (heap_down)

-- NOT PRINTED: function 28 (heap_Pop)

-- BY HAND: function 21 (ranges_Of)

-- NOT PRINTED: function 34 (api_Range_34)

-- NOT PRINTED: function 29 (api_Range_29)

-- BY HAND: function 22 (ranges_Union)

-- BY HAND: function 11 (fold_Set)

end Go.Proofs.YtfknoaokoncneabDoor.PF

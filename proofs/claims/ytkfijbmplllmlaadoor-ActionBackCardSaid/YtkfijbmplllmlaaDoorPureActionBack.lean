/- ActionBack, over plain functions: an action's words are read as the action, if the modes are names, all unlike; whatever is read is told by words that are read as the same. No condition beyond the statement's own. -/
import Derived.Test.YtkfijbmplllmlaaDoorPAx10
import Derived.Test.YtkfijbmplllmlaaDoorPfB
set_option linter.unusedSimpArgs false
set_option linter.unusedVariables false
namespace Go.Proofs.YtkfijbmplllmlaaDoor.Pure
open Go.RowKit Go.Proofs.YtkfijbmplllmlaaDoor.PA Go.Proofs.YtkfijbmplllmlaaDoorW.PrintWords Go.Proofs.YtkfijbmplllmlaaDoorW.PrintLast Go.Proofs.YtkfijbmplllmlaaDoor.HandParse Go.Proofs.YtkfijbmplllmlaaDoor.PfP Go.Proofs.YtkfijbmplllmlaaDoor.PfA Go.Proofs.YtkfijbmplllmlaaDoor.PfB
theorem back_j1 (ms : List ByteArray) (hms : ms.length ≤ 20) (hm : ∀ (i : Nat) (h : i < ms.length), nameB ms[i] = true ∧ idx ms ms[i] = (i : Int)) (s : ByteArray) (hs : s.size ≤ 200) (K : Nat) (hK : 3000 ≤ K) : spoollaw17_ActionBack.j1 K ms s = some true := by
  obtain ⟨k, rfl⟩ : ∃ m, K = m + 1 := ⟨K - 1, by omega⟩
  simp only [spoollaw17_ActionBack.j1]
  rw [parse_p s (by omega) ms (by omega) k (by omega), Option.bind_some, alive_f k (by omega)]
  obtain ⟨⟨nm, g, E, A⟩, hv⟩ : ∃ v, v = allV s ms := ⟨_, rfl⟩
  rw [← hv]
  simp only
  by_cases hE : E = 0
  · subst hE
    obtain ⟨h1, h2⟩ := all_right s ms nm g A hv.symm
    obtain ⟨t, e1, e2, e3⟩ := back nm g ms (by omega) hm h1 (by omega) k (by omega)
    rw [if_pos rfl, e1, Option.bind_some, parse_p t (by omega) ms (by omega) k (by omega), e3, Option.bind_some]
    simp only
    rw [if_pos trivial, if_pos (by simp), Right_f nm (by omega) g ms k (by omega), h1, Option.bind_some, if_pos rfl]
    rfl
  · rw [if_neg hE]
    rfl
theorem back_j0 (ms : List ByteArray) (hms : ms.length ≤ 20) (hm : ∀ (i : Nat) (h : i < ms.length), nameB ms[i] = true ∧ idx ms ms[i] = (i : Int)) (s : ByteArray) (hs : s.size ≤ 200) (nm : ByteArray) (hn : nm.size ≤ 60) (g : Int) (K : Nat) (hK : 3010 ≤ K) : spoollaw17_ActionBack.j0 K ms s false nm g = some true := by
  obtain ⟨k, rfl⟩ : ∃ m, K = m + 1 := ⟨K - 1, by omega⟩
  simp only [spoollaw17_ActionBack.j0]
  have h1 := back_j1 ms hms hm s hs k (by omega)
  rw [if_neg Bool.false_ne_true, rRight_f nm (by omega) g ms k (by omega), Option.bind_some]
  cases hr : rightB nm g ms.length with
  | false => rw [if_neg Bool.false_ne_true, h1]
  | true =>
    obtain ⟨t, e1, e2, e3⟩ := back nm g ms (by omega) hm hr (by omega) k (by omega)
    rw [if_pos rfl, e1, Option.bind_some, parse_p t (by omega) ms (by omega) k (by omega), e3, Option.bind_some]
    simp only
    rw [if_pos trivial, if_neg (by simp), h1]
theorem sizes : ∀ (l : List ByteArray), ∃ B, ∀ x ∈ l, x.size + 2 < B
  | [] => ⟨0, fun x h => by cases h⟩
  | y :: l => by
    obtain ⟨B, hB⟩ := sizes l
    refine ⟨B + y.size + 3, fun x h => ?_⟩
    rcases List.mem_cons.1 h with e | e
    · rw [e]; omega
    · have := hB x e; omega
theorem ActionBack : spoollaw17_ActionBack.Pure := by
  rintro ⟨nm, g⟩ ms s ⟨hn, _⟩ ⟨hz, _, hl⟩ hs
  have hlen : ms.length ≤ 8796093022208 := by omega
  obtain ⟨B, hB⟩ := sizes ms
  refine ⟨ms.length + B + 5000, ?_⟩
  unfold spoollaw17_ActionBack.f
  simp only
  have hT : ∀ K, 100 ≤ K → spoollaw17_ActionBack.j0 K ms s true nm g = some true := by
    intro K hK
    obtain ⟨k, rfl⟩ : ∃ m, K = m + 1 := ⟨K - 1, by omega⟩
    simp only [spoollaw17_ActionBack.j0]
    rw [if_pos trivial, alive_f k (by omega)]
    rfl
  by_cases h6 : (nm.size : Int) > 60
  · rw [if_pos h6]
    exact hT _ (by omega)
  · rw [if_neg h6]
    by_cases h2 : (s.size : Int) > 200
    · rw [if_pos h2]
      exact hT _ (by omega)
    · rw [if_neg h2]
      obtain ⟨b, g1, g2⟩ := Far_f ms hlen (ms.length + B + 5000) (by omega)
      rw [g1, Option.bind_some]
      cases b with
      | true =>
        rw [if_pos rfl]
        exact hT _ (by omega)
      | false =>
        have h20 := g2 rfl
        rw [if_neg Bool.false_ne_true]
        obtain ⟨b, m1, m2⟩ := Modes_l0 ms (by omega) hz B hB ms.length (ms.length + B + 5000) 0 (by omega) (by omega) (by omega)
        have m1' : spoolref17_Modes.f (ms.length + B + 5000) ms = some b := m1
        rw [m1', Option.bind_some]
        cases b with
        | false => exact hT _ (by omega)
        | true => exact back_j0 ms h20 (fun i h => m2 rfl i h (by omega)) s (by omega) nm (by omega) g _ (by omega)
end Go.Proofs.YtkfijbmplllmlaaDoor.Pure

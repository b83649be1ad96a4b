/- The document's examples hold; whether modes are too much. -/
import Derived.Test.YtkfijbmplllmlaaDoorPAx5
import Derived.Test.YtkfijbmplllmlaaDoorPfP
set_option linter.unusedSimpArgs false
set_option linter.unusedVariables false
namespace Go.Proofs.YtkfijbmplllmlaaDoor.PfA
open Go.RowKit Go.Proofs.YtkfijbmplllmlaaDoor.PA Go.Proofs.YtkfijbmplllmlaaDoorW.PrintWords Go.Proofs.YtkfijbmplllmlaaDoorW.PrintLast Go.Proofs.YtkfijbmplllmlaaDoor.HandAll Go.Proofs.YtkfijbmplllmlaaDoor.PfP
set_option maxRecDepth 100000 in
theorem alive_40 : spoollaw17_alive.f 40 = some true := by decide +kernel
theorem alive_f (K : Nat) (hK : 40 ≤ K) : spoollaw17_alive.f K = some true := by
  obtain ⟨d, rfl⟩ : ∃ d, K = 40 + d := ⟨K - 40, by omega⟩
  clear hK
  induction d with
  | zero => exact alive_40
  | succ d ih => exact spoollaw17_alive.mono _ _ ih
theorem Far_l0 (l : List ByteArray) (hl : l.length ≤ 8796093022208) (d : Nat) : ∀ (K j : Nat), l.length - j ≤ d → j ≤ l.length → d < K →
    ∃ b, spoolref17_Far.l0 K l (j : Int) = some b ∧ (b = false → l.length ≤ 20) := by
  induction d with
  | zero =>
    intro K j h1 h2 hK
    obtain ⟨k, rfl⟩ : ∃ m, K = m + 1 := ⟨K - 1, by omega⟩
    simp only [spoolref17_Far.l0]
    rw [if_neg (by omega)]
    exact ⟨_, rfl, fun h => by have := of_decide_eq_false h; omega⟩
  | succ d ih =>
    intro K j h1 h2 hK
    obtain ⟨k, rfl⟩ : ∃ m, K = m + 1 := ⟨K - 1, by omega⟩
    simp only [spoolref17_Far.l0]
    by_cases hlt : j < l.length
    · rw [if_pos (by omega), if_pos (by omega)]
      split
      · exact ⟨_, rfl, fun h => by cases h⟩
      · rw [wrap_in (by omega) (by omega)]
        exact ih k (j + 1) (by omega) (by omega) (by omega)
    · rw [if_neg (by omega)]
      exact ⟨_, rfl, fun h => by have := of_decide_eq_false h; omega⟩
theorem Far_f (l : List ByteArray) (hl : l.length ≤ 8796093022208) (K : Nat) (hK : l.length < K) : ∃ b, spoolref17_Far.f K l = some b ∧ (b = false → l.length ≤ 20) := Far_l0 l hl l.length K 0 (by omega) (by omega) hK
end Go.Proofs.YtkfijbmplllmlaaDoor.PfA

/- ScriptBack, over plain functions: what is told of items that may be told is read as these items; whatever is read may be told, and is read so again. No condition beyond the statement's own. -/
import Derived.Test.YtifcpamliidabaaDoorPSx20
import Derived.Test.YtifcpamliidabaaDoorPfB
import Derived.Test.YtifcpamliidabaaDoorPfA
set_option linter.unusedSimpArgs false
set_option linter.unusedVariables false
namespace Go.Proofs.YtifcpamliidabaaDoor.Pure
open Go.RowKit Go.Proofs.YtifcpamliidabaaDoor.PS Go.Proofs.YtifcpamliidabaaDoorW.PrintWords Go.Proofs.YtifcpamliidabaaDoorW.PrintLast Go.Proofs.YtifcpamliidabaaDoor.PlD Go.Proofs.YtifcpamliidabaaDoor.PfA Go.Proofs.YtifcpamliidabaaDoor.PfP Go.Proofs.YtifcpamliidabaaDoor.PfX Go.Proofs.YtifcpamliidabaaDoor.PfB
theorem back_j1 (s : ByteArray) (hs : s.size ≤ 400) (K : Nat) (hK : 500000 ≤ K) : spoollaw48_ScriptBack.j1 K s = some true := by
  obtain ⟨k, rfl⟩ : ∃ m, K = m + 1 := ⟨K - 1, by omega⟩
  simp only [spoollaw48_ScriptBack.j1]
  obtain ⟨m, E, A, p1, p2, p3⟩ := parse_spec s (by omega) k (by omega)
  rw [p1, Option.bind_some, alive_f k (by omega)]
  simp only
  by_cases hE : E = 0
  · obtain ⟨r1, r2, r3⟩ := p3 hE
    have hd : ∀ x ∈ m, x.f2.f2.size ≤ 65536 := fun x hx => by have := dat_mem m x hx; omega
    have hz := lin_len m r1
    rw [if_pos hE, Print_f m (by omega) r1 hd (by omega) k (by omega), Option.bind_some]
    simp only
    rw [parse_back m r1 (by omega) (by omega) k (by omega), Option.bind_some]
    simp only
    rw [if_pos trivial, if_pos trivial, Same_f m (by omega) k (by omega), Option.bind_some, if_pos rfl]
    rfl
  · obtain ⟨r1, r2, r3⟩ := p2 hE
    rw [if_neg hE, r1, if_pos (by simp), if_pos (by omega), if_pos (by omega)]
    rfl
theorem back_j0 (l : List S51) (h160 : l.length ≤ 160) (hdat : dat l ≤ 200) (s : ByteArray) (hs : s.size ≤ 400) (K : Nat) (hK : 600000 ≤ K) : spoollaw48_ScriptBack.j0 K l s false = some true := by
  obtain ⟨k, rfl⟩ : ∃ m, K = m + 1 := ⟨K - 1, by omega⟩
  simp only [spoollaw48_ScriptBack.j0]
  rw [if_neg Bool.false_ne_true]
  have h1 := back_j1 s hs k (by omega)
  cases hg : l.all rightX with
  | false =>
    have hex : ∃ x ∈ l, rightX x = false := by
      rw [List.all_eq_false] at hg
      obtain ⟨x, hx, hn⟩ := hg
      exact ⟨x, hx, by simpa using hn⟩
    rw [Print_no l (by omega) hex k (by omega), Option.bind_some]
    simp only
    rw [if_neg (by decide), h1]
  | true =>
    have hall : ∀ x ∈ l, rightX x = true := List.all_eq_true.1 hg
    have hsz : ∀ x ∈ l, x.f2.f2.size ≤ 65536 := fun x hx => by have := dat_mem l x hx; omega
    have hz := lin_len l hall
    rw [Print_f l (by omega) hall hsz (by omega) k (by omega), Option.bind_some]
    simp only
    rw [if_pos trivial, parse_back l hall (by omega) (by omega) k (by omega), Option.bind_some]
    simp only
    rw [if_pos trivial, Same_f l (by omega) k (by omega), Option.bind_some, if_pos rfl, h1]
theorem ScriptBack : spoollaw48_ScriptBack.Pure := by
  intro l s hl hs
  refine ⟨600000, ?_⟩
  unfold spoollaw48_ScriptBack.f
  obtain ⟨b, g1, g2⟩ := Far_f l (by omega) 600000 (by omega)
  have hT : ∀ K, 100 ≤ K → spoollaw48_ScriptBack.j0 K l s true = some true := by
    intro K hK
    obtain ⟨k, rfl⟩ : ∃ m, K = m + 1 := ⟨K - 1, by omega⟩
    simp only [spoollaw48_ScriptBack.j0]
    rw [if_pos trivial, alive_f k (by omega)]
    rfl
  rw [g1, Option.bind_some]
  cases b with
  | true =>
    rw [if_pos rfl]
    exact hT _ (by omega)
  | false =>
    obtain ⟨h160, hdat⟩ := g2 rfl
    rw [if_neg Bool.false_ne_true]
    by_cases h4 : (s.size : Int) > 400
    · rw [decide_eq_true h4]
      exact hT _ (by omega)
    · rw [decide_eq_false h4]
      exact back_j0 l h160 hdat s (by omega) _ (Nat.le_refl _)
end Go.Proofs.YtifcpamliidabaaDoor.Pure

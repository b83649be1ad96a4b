/- DigitParses, over plain functions. No condition beyond the statement's own. -/
import Derived.Test.YtfknoaokoncneaaDoorPDx4
import Derived.Test.YtfknoaokoncneaaDoorPfD
namespace Go.Proofs.YtfknoaokoncneaaDoor.Pure
open Go.RowKit Go.Proofs.YtfknoaokoncneaaDoor.PD Go.Proofs.YtfknoaokoncneaaDoorW.PrintWords Go.Proofs.YtfknoaokoncneaaDoorW.PrintLast Go.Proofs.YtfknoaokoncneaaDoor.PlD Go.Proofs.YtfknoaokoncneaaDoor.PfD

theorem alive_t : ∀ K, 100 ≤ K → spoollaw01_alive.f K = some true := up (g := fun k => spoollaw01_alive.f k) spoollaw01_alive.mono (a := 100) (by decide +kernel)
theorem DigitParses_K (a0 : ByteArray) (h : a0.size ≤ 140737488351232) : ∀ K, 1000 ≤ K → spoollaw01_DigitParses.f K a0 = some true := by
  intro K hK
  unfold spoollaw01_DigitParses.f
  by_cases hs : (a0.size : Int) > 300
  · rw [if_pos hs, alive_t K (by omega), Option.bind_some]
  · obtain ⟨g, hg, hg1, hg2⟩ := rHex_f a0 h K (by omega)
    rw [if_neg hs, Parse_f a0 h K (by omega), rParse_f a0 h K (by omega), Hex_f a0 h K (by omega), hg, Lead_f a0 h K (by omega), rLead_f a0 h K (by omega), alive_t K (by omega)]
    simp only [Option.bind_some, if_true]
    by_cases hb : (hexP (L a0)).2 = true
    · simp [hb, hg1 hb]
    · have hb' : (hexP (L a0)).2 = false := by simpa using hb
      simp [hb', hg2 hb']
theorem DigitParses : spoollaw01_DigitParses.Pure := fun a0 h => ⟨1000, DigitParses_K a0 h 1000 (Nat.le_refl _)⟩
end Go.Proofs.YtfknoaokoncneaaDoor.Pure

/- DigitTexts, over plain functions: a number's text is told alike by the program and by the reference. No condition beyond the statement's own. -/
import Derived.Test.YtfknoaokoncneaaDoorPureDigitParses
import Derived.Test.YtfknoaokoncneaaDoorPfT
namespace Go.Proofs.YtfknoaokoncneaaDoor.Pure
open Go.RowKit Go.Proofs.YtfknoaokoncneaaDoor.PD Go.Proofs.YtfknoaokoncneaaDoorW.PrintWords Go.Proofs.YtfknoaokoncneaaDoorW.PrintLast Go.Proofs.YtfknoaokoncneaaDoor.PlD Go.Proofs.YtfknoaokoncneaaDoor.PfD

theorem wf64 {n : Int} (h : (Lit.int .i64 n).wf = true) : -9223372036854775808 ≤ n ∧ n ≤ 9223372036854775807 := by
  simpa [Lit.wf, IntKind.min, IntKind.max, IntKind.signed, IntKind.bits] using h
theorem DigitTexts_K (n l : Int) (hn : (Lit.int .i64 n).wf = true) : ∀ K, 1000 ≤ K → spoollaw01_DigitTexts.f K n l = some true := by
  intro K hK
  have hn := wf64 hn
  obtain ⟨r1, e1, l1⟩ := Text_f n hn.1 hn.2 K (by omega)
  obtain ⟨r2, e2, l2⟩ := rSigned_f n hn.1 hn.2 K (by omega)
  obtain ⟨r3, e3, l3⟩ := HexText_f n l hn.1 hn.2 K (by omega)
  obtain ⟨r4, e4, l4⟩ := rHexText_f n l hn.1 hn.2 K (by omega)
  unfold spoollaw01_DigitTexts.f
  rw [e1, e2, e3, e4, alive_t K (by omega)]
  simp only [Option.bind_some]
  rw [if_pos (L_inj.2 (by rw [l1, l2])), if_pos (L_inj.2 (by rw [l3, l4]))]
theorem DigitTexts : spoollaw01_DigitTexts.Pure := fun a0 a1 h _ => ⟨1000, DigitTexts_K a0 a1 h 1000 (Nat.le_refl _)⟩
end Go.Proofs.YtfknoaokoncneaaDoor.Pure

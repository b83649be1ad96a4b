/- DigitBack, over plain functions: a number's digits are that number, and a decimal is its number's text. No condition beyond the statement's own. -/
import Derived.Test.YtfknoaokoncneaaDoorPDx5
import Derived.Test.YtfknoaokoncneaaDoorPureDigitTexts
namespace Go.Proofs.YtfknoaokoncneaaDoor.Pure
open Go.RowKit Go.Proofs.YtfknoaokoncneaaDoor.PD Go.Proofs.YtfknoaokoncneaaDoorW.PrintWords Go.Proofs.YtfknoaokoncneaaDoorW.PrintLast Go.Proofs.YtfknoaokoncneaaDoor.PlD Go.Proofs.YtfknoaokoncneaaDoor.PfD

theorem back_text (n : Int) (h0 : 0 ≤ n) (h1 : n ≤ 999999999) (K : Nat) (hK : 400 ≤ K) : ∃ r, digit_Text.f K n = some r ∧ digit_Parse.f K r = some (n, true) := by
  obtain ⟨r, e, l⟩ := Text_f n (by omega) (by omega) K (by omega)
  unfold textI at l
  rw [if_neg (by omega)] at l
  have hs : r.size ≤ 9 := by rw [← L_len, l]; exact textN_len 8 _ (by omega)
  refine ⟨r, e, ?_⟩
  rw [Parse_f r (by omega) K (by omega), l, parseL_text n.toNat (by omega), show ((n.toNat : Nat) : Int) = n by omega]
theorem back_hex (n : Int) (h0 : 0 ≤ n) (h1 : n < 16777216) (K : Nat) (hK : 400 ≤ K) : ∃ r, digit_HexText.f K n 1 = some r ∧ digit_Hex.f K r = some (n, true) := by
  obtain ⟨r, e, l⟩ := HexText_f n 1 (by omega) (by omega) K (by omega)
  rw [show atl 1 = 1 from rfl] at l
  have hlen := hexTL_len 16 n.toNat 1 [] 6 (by omega) (by simp)
  have hne := hexTL_ne 16 n.toNat 1 [] (by omega) (by omega)
  have hv := hexTL_val 16 n.toNat 1 [] (n.toNat : Int) (by omega) rfl
  simp only [List.length_nil, Nat.zero_add] at hlen
  have hs : r.size ≤ 6 := by rw [← L_len, l]; exact hlen
  refine ⟨r, e, ?_⟩
  rw [Hex_f r (by omega) K (by omega), l]
  unfold hexP
  rw [if_neg (by rintro (x | x); exact hne x; omega), hv, show ((n.toNat : Nat) : Int) = n by omega]
theorem tail_t (s : ByteArray) (hs : s.size ≤ 300) (K : Nat) (hK : 400 ≤ K) : ((digit_Parse.f K s).bind fun b => (if b.2 = true then ((digit_Text.f K b.1).bind fun t => (if t.toList = s.toList then ((spoollaw01_alive.f K).bind fun a => (some a)) else (some false))) else ((spoollaw01_alive.f K).bind fun a => (some a)))) = some true := by
  rw [Parse_f s (by omega) K (by omega), alive_t K (by omega)]
  simp only [Option.bind_some]
  by_cases h : (parseL (L s)).2 = true
  · obtain ⟨h1, h2, h3⟩ := parseL_back (L s) h
    obtain ⟨r, e, l⟩ := Text_f (parseL (L s)).1 (by omega) (by omega) K (by omega)
    unfold textI at l
    rw [if_neg (by omega), h3] at l
    rw [if_pos h, e, Option.bind_some, if_pos (L_inj.2 l)]
  · rw [if_neg h]
theorem j2_t (n : Int) (s : ByteArray) (hs : s.size ≤ 300) (K : Nat) (hK : 410 ≤ K) : (if n ≥ 0 then spoollaw01_DigitBack.j2 K n s (decide (n < 16777216)) else spoollaw01_DigitBack.j2 K n s false) = some true := by
  obtain ⟨k, rfl⟩ : ∃ k, K = k + 2 := ⟨K - 2, by omega⟩
  have hf : spoollaw01_DigitBack.j2 (k + 2) n s false = some true := by
    simp only [spoollaw01_DigitBack.j2]
    rw [if_neg (by simp)]
    exact tail_t s hs _ (by omega)
  by_cases h : n ≥ 0
  · rw [if_pos h]
    by_cases h2 : n < 16777216
    · rw [decide_eq_true h2]
      simp only [spoollaw01_DigitBack.j2]
      obtain ⟨r, e1, e2⟩ := back_hex n h h2 (k + 1) (by omega)
      rw [if_pos trivial, e1, Option.bind_some, e2, Option.bind_some]
      simp only [spoollaw01_DigitBack.j3]
      rw [if_pos trivial, if_neg (by simp)]
      exact tail_t s hs _ (by omega)
    · rw [decide_eq_false h2]; exact hf
  · rw [if_neg h]; exact hf
theorem DigitBack_K (n : Int) (s : ByteArray) : ∀ K, 1000 ≤ K → spoollaw01_DigitBack.f K n s = some true := by
  intro K hK
  obtain ⟨k, rfl⟩ : ∃ k, K = k + 2 := ⟨K - 2, by omega⟩
  unfold spoollaw01_DigitBack.f
  by_cases hs : (s.size : Int) > 300
  · rw [if_pos hs, alive_t _ (by omega), Option.bind_some]
  · rw [if_neg hs]
    have j1 : ∀ m, 500 ≤ m → spoollaw01_DigitBack.j1 (m + 1) n s = some true := fun m hm => by
      simp only [spoollaw01_DigitBack.j1]
      exact j2_t n s (by omega) m (by omega)
    have hf : spoollaw01_DigitBack.j0 (k + 2) n s false = some true := by
      simp only [spoollaw01_DigitBack.j0]
      rw [if_neg (by simp)]
      exact j1 k (by omega)
    by_cases h : n ≥ 0
    · rw [if_pos h]
      by_cases h2 : n ≤ 999999999
      · rw [decide_eq_true h2]
        simp only [spoollaw01_DigitBack.j0]
        obtain ⟨r, e1, e2⟩ := back_text n h h2 (k + 1) (by omega)
        rw [if_pos trivial, e1, Option.bind_some, e2, Option.bind_some]
        simp only [if_true]
        exact j1 k (by omega)
      · rw [decide_eq_false h2]; exact hf
    · rw [if_neg h]; exact hf
theorem DigitBack : spoollaw01_DigitBack.Pure := fun a0 a1 _ _ => ⟨1000, DigitBack_K a0 a1 1000 (Nat.le_refl _)⟩
end Go.Proofs.YtfknoaokoncneaaDoor.Pure

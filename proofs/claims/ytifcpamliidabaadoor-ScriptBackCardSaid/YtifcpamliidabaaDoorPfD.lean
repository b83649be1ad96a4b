/- What the functions of the digits' packages tell, over plain lists of numbers. -/
import Derived.Test.YtifcpamliidabaaDoorPSx4
import Derived.Test.YtifcpamliidabaaDoorPSx5
import Derived.Test.YtifcpamliidabaaDoorPSx6
import Derived.Test.YtifcpamliidabaaDoorPSx8
import Derived.Test.YtifcpamliidabaaDoorPSx0
import Derived.Test.YtifcpamliidabaaDoorPlD
namespace Go.Proofs.YtifcpamliidabaaDoor.PfD
open Go.RowKit Go.Proofs.YtifcpamliidabaaDoor.PS Go.Proofs.YtifcpamliidabaaDoorW.PrintWords Go.Proofs.YtifcpamliidabaaDoorW.PrintLast Go.Proofs.YtifcpamliidabaaDoor.PlD

theorem up {α : Type} {g : Nat → Option α} (hm : ∀ k, LeO (g k) (g (k + 1))) {a : Nat} {r : α} (h : g a = some r) (k : Nat) (hk : a ≤ k) : g k = some r := by
  obtain ⟨d, rfl⟩ : ∃ d, k = a + d := ⟨k - a, by omega⟩
  induction d with
  | zero => exact h
  | succ d ih => exact hm _ _ (ih (by omega))
theorem value_f (c : Int) (K : Nat) (hK : 2 ≤ K) (h0 : 0 ≤ c) (h1 : c < 256) : digit_value.f K c = some (value c) := by
  obtain ⟨k, rfl⟩ : ∃ k, K = k + 2 := ⟨K - 2, by omega⟩
  unfold digit_value.f value
  simp only [digit_value.j0, digit_value.j1]
  by_cases a : c ≥ 48 <;> by_cases b : c ≤ 57 <;> by_cases d : c ≥ 97 <;> by_cases e : c ≤ 102 <;> by_cases f : c ≥ 65 <;> by_cases g : c ≤ 70 <;> first | omega | (simp [a, b, d, e, f, g]; done) | (simp [a, b, d, e, f, g]; omega)
theorem bt_r (s : ByteArray) (i : Int) : 0 ≤ bt s i ∧ bt s i < 256 := by have := bt_range s i; omega
theorem value_dig {c : Int} (h0 : 0 ≤ c) (h1 : c < 256) : (value c < 0 ∨ value c > 9) ↔ ¬ dig c := by
  unfold value dig
  by_cases a : 48 ≤ c ∧ c ≤ 57
  · rw [if_pos a]; omega
  · rw [if_neg a]
    by_cases b : 97 ≤ c ∧ c ≤ 102
    · rw [if_pos b]; omega
    · rw [if_neg b]
      by_cases d : 65 ≤ c ∧ c ≤ 70
      · rw [if_pos d]; omega
      · rw [if_neg d]; omega
theorem value_of {c : Int} (h : dig c) : value c = c - 48 := by unfold dig at h; unfold value; rw [if_pos h]
theorem Lead_l0 (s : ByteArray) (hs : s.size ≤ 140737488351232) (d : Nat) : ∀ (K i : Nat) (n : Int), s.size - i ≤ d → i ≤ s.size → d + 3 ≤ K → 0 ≤ n → n ≤ 1000000000 →
    digit_Lead.l0 K s n (s.size : Int) (i : Int) = some ((leadL ((L s).drop i) n).1, ((i + (leadL ((L s).drop i) n).2 : Nat) : Int)) := by
  induction d with
  | zero =>
    intro K i n hd hi hK h0 h1
    obtain ⟨k, rfl⟩ : ∃ k, K = k + 1 := ⟨K - 1, by omega⟩
    have : i = s.size := by omega
    subst this
    simp only [digit_Lead.l0]
    rw [if_neg (by omega), List.drop_of_length_le (by rw [L_len]; omega)]
    simp [leadL]
  | succ d ih =>
    intro K i n hd hi hK h0 h1
    obtain ⟨k, rfl⟩ : ∃ k, K = k + 1 := ⟨K - 1, by omega⟩
    simp only [digit_Lead.l0]
    by_cases hlt : i < s.size
    · have hb := bt_r s (i : Int)
      rw [if_pos (by omega), if_pos (by omega), if_pos (by omega), value_f _ _ (by omega) hb.1 hb.2, Option.bind_some, L_drop s i hlt]
      unfold leadL
      have hv := value_dig hb.1 hb.2
      by_cases hc : dig (bt s (i : Int))
      · rw [if_neg (fun e => hv.1 (.inl e) hc), if_neg (fun e => hv.1 (.inr e) hc), if_pos hc, value_of hc]
        unfold dig at hc
        rw [wrap_in (n := 10 * n) (by omega) (by omega), wrap_in (n := 10 * n + (bt s (i : Int) - 48)) (by omega) (by omega), wrap_in (n := (i : Int) + 1) (by omega) (by omega)]
        have hm : mn (10 * n + (bt s (i : Int) - 48)) 1000000000 = min (10 * n + (bt s (i : Int) - 48)) 1000000000 := by unfold mn; split <;> omega
        rw [hm]
        have := ih k (i + 1) (min (10 * n + (bt s (i : Int) - 48)) 1000000000) (by omega) (by omega) (by omega) (by omega) (by omega)
        rw [show (((i + 1 : Nat) : Nat) : Int) = (i : Int) + 1 by omega] at this
        rw [this]
        congr 2
        omega
      · rcases hv.2 hc with e | e
        · rw [if_pos e, if_neg hc]; simp
        · rw [if_neg (by omega), if_pos e, if_neg hc]; simp
    · rw [if_neg (by omega), List.drop_of_length_le (by rw [L_len]; omega)]
      have : i = s.size := by omega
      subst this
      simp [leadL]
theorem Lead_f (s : ByteArray) (hs : s.size ≤ 140737488351232) (K : Nat) (hK : s.size + 3 ≤ K) : digit_Lead.f K s = some ((leadL (L s) 0).1, ((leadL (L s) 0).2 : Int)) := by
  unfold digit_Lead.f
  have := Lead_l0 s hs s.size K 0 0 (by omega) (by omega) hK (by omega) (by omega)
  simpa using this
theorem Parse_f (s : ByteArray) (hs : s.size ≤ 140737488351232) (K : Nat) (hK : s.size + 3 ≤ K) : digit_Parse.f K s = some (parseL (L s)) := by
  unfold digit_Parse.f parseL
  rw [Lead_f s hs K hK, Option.bind_some]
  simp only
  have hlen := L_len s
  have hg := L_get s 0
  by_cases h1 : s.toList = ([] : List UInt8)
  · rw [if_pos h1, if_pos (.inl (L_nil.1 h1))]
  · have h1' : L s ≠ [] := fun e => h1 (L_nil.2 e)
    rw [if_neg h1]
    by_cases h2 : (((leadL (L s) 0).2 : Nat) : Int) < (s.size : Int)
    · rw [if_pos h2, if_pos (.inr (.inl (by omega)))]
    · rw [if_neg h2]
      by_cases h3 : (leadL (L s) 0).1 > 999999999
      · rw [if_pos h3, if_pos (.inr (.inr (.inl h3)))]
      · rw [if_neg h3]
        by_cases h4 : (s.size : Int) > 1
        · rw [if_pos h4, if_pos (by omega)]
          by_cases h5 : bt s 0 = 48
          · rw [if_pos h5, if_pos (.inr (.inr (.inr ⟨by omega, by rw [hg]; exact h5⟩)))]
          · rw [if_neg h5, if_neg]
            rintro (e | e | e | e)
            · exact h1' e
            · omega
            · exact h3 e
            · exact h5 (by rw [← e.2, hg]; rfl)
        · rw [if_neg h4, if_neg]
          rintro (e | e | e | e)
          · exact h1' e
          · omega
          · exact h3 e
          · omega
/-! ### digits of 16 -/
theorem Hex_l0 (s : ByteArray) (hs : s.size ≤ 6) (d : Nat) : ∀ (K i : Nat) (n : Int), s.size - i ≤ d → i ≤ s.size → d + 3 ≤ K → 0 ≤ n → n < 16 ^ i →
    digit_Hex.l0 K s n (s.size : Int) (i : Int) = some (match hexL ((L s).drop i) n with | none => (0, false) | some v => (v, true)) := by
  induction d with
  | zero =>
    intro K i n hd hi hK h0 h1
    obtain ⟨k, rfl⟩ : ∃ k, K = k + 1 := ⟨K - 1, by omega⟩
    simp only [digit_Hex.l0]
    rw [if_neg (by omega), List.drop_of_length_le (by rw [L_len]; omega)]
    simp [hexL]
  | succ d ih =>
    intro K i n hd hi hK h0 h1
    obtain ⟨k, rfl⟩ : ∃ k, K = k + 1 := ⟨K - 1, by omega⟩
    simp only [digit_Hex.l0]
    by_cases hlt : i < s.size
    · have hb := bt_r s (i : Int)
      rw [if_pos (by omega), if_pos (by omega), if_pos (by omega), value_f _ _ (by omega) hb.1 hb.2, Option.bind_some, L_drop s i hlt]
      unfold hexL
      by_cases hc : value (bt s (i : Int)) < 0
      · rw [if_pos hc, if_pos hc]
      · rw [if_neg hc, if_neg hc]
        have hv := value_le (bt s (i : Int))
        have hp : (16 : Int) ^ i ≤ 16 ^ 5 := by
          have : ∀ j : Fin 6, (16 : Int) ^ j.val ≤ 16 ^ 5 := by decide
          exact this ⟨i, by omega⟩
        have hp2 : (16 : Int) ^ (i + 1) = 16 * 16 ^ i := by rw [Int.pow_succ, Int.mul_comm]
        rw [wrap_in (n := 16 * n) (by omega) (by omega), wrap_in (n := 16 * n + value (bt s (i : Int))) (by omega) (by omega), wrap_in (n := (i : Int) + 1) (by omega) (by omega)]
        have := ih k (i + 1) (16 * n + value (bt s (i : Int))) (by omega) (by omega) (by omega) (by omega) (by omega)
        rw [show (((i + 1 : Nat) : Nat) : Int) = (i : Int) + 1 by omega] at this
        exact this
    · rw [if_neg (by omega), List.drop_of_length_le (by rw [L_len]; omega)]
      simp [hexL]
def hexP (l : List Int) : Int × Bool := if l = [] ∨ l.length > 6 then (0, false) else match hexL l 0 with | none => (0, false) | some v => (v, true)
theorem Hex_f (s : ByteArray) (hs : s.size ≤ 140737488351232) (K : Nat) (hK : 12 ≤ K) : digit_Hex.f K s = some (hexP (L s)) := by
  obtain ⟨k, rfl⟩ : ∃ k, K = k + 1 := ⟨K - 1, by omega⟩
  unfold digit_Hex.f hexP
  simp only [digit_Hex.j0]
  have hlen := L_len s
  by_cases h1 : s.toList = ([] : List UInt8)
  · rw [if_pos h1, if_pos trivial, if_pos (.inl (L_nil.1 h1))]
  · have h1' : L s ≠ [] := fun e => h1 (L_nil.2 e)
    rw [if_neg h1]
    by_cases h2 : (s.size : Int) > 6
    · rw [decide_eq_true h2, if_pos rfl, if_pos (.inr (by omega))]
    · rw [decide_eq_false h2, if_neg (by simp), if_neg (by rintro (e | e); exact h1' e; omega)]
      have := Hex_l0 s (by omega) s.size k 0 0 (by omega) (by omega) (by omega) (by omega) (by simp)
      simpa using this
end Go.Proofs.YtifcpamliidabaaDoor.PfD

import Derived.Test.YtifcpamliidabaaDoorPSx4
import Derived.Test.YtifcpamliidabaaDoorPSx5
import Derived.Test.YtifcpamliidabaaDoorPSx6
import Derived.Test.YtifcpamliidabaaDoorPSx8
import Derived.Test.YtifcpamliidabaaDoorPSx14
import Derived.Test.YtifcpamliidabaaDoorPlD
import Derived.Test.YtifcpamliidabaaDoorPSx13
import Derived.Test.YtifcpamliidabaaDoorPSx12
import Derived.Test.YtifcpamliidabaaDoorPSx15
import Derived.Test.YtifcpamliidabaaDoorHandParse
/- What the functions of the digits' packages tell, over plain lists of numbers. -/
namespace Go.Proofs.YtifcpamliidabaaDoor.PfD
open Go.RowKit Go.Proofs.YtifcpamliidabaaDoor.PS Go.Proofs.YtifcpamliidabaaDoorW.PrintWords Go.Proofs.YtifcpamliidabaaDoorW.PrintLast Go.Proofs.YtifcpamliidabaaDoor.PlD

theorem up {α : Type} {g : Nat → Option α} (hm : ∀ k, LeO (g k) (g (k + 1))) {a : Nat} {r : α} (h : g a = some r) (k : Nat) (hk : a ≤ k) : g k = some r := by
  obtain ⟨d, rfl⟩ : ∃ d, k = a + d := ⟨k - a, by omega⟩
  induction d with
  | zero => exact h
  | succ d ih => exact hm _ _ (ih (by omega))
theorem value_f (c : Int) (K : Nat) (hK : 2 ≤ K) (h0 : 0 ≤ c) (h1 : c < 256) : digit_value.f K c = some (value c) := by
  obtain ⟨k, rfl⟩ : ∃ k, K = k + 2 := ⟨K - 2, by omega⟩
  unfold digit_value.f value
  simp only [digit_value.j0, digit_value.j1]
  by_cases a : c ≥ 48 <;> by_cases b : c ≤ 57 <;> by_cases d : c ≥ 97 <;> by_cases e : c ≤ 102 <;> by_cases f : c ≥ 65 <;> by_cases g : c ≤ 70 <;> first | omega | (simp [a, b, d, e, f, g]; done) | (simp [a, b, d, e, f, g]; omega)
theorem one_f (c : Int) (K : Nat) (hK : 23 ≤ K) (h0 : 0 ≤ c) (h1 : c < 256) : spoolref01_one.f K c = some (value c) := by
  refine up (g := fun k => spoolref01_one.f k c) (spoolref01_one.mono c) (a := 23) ?_ K hK
  have key : ∀ n : Fin 256, spoolref01_one.f 23 ((n.val : Nat) : Int) = some (value ((n.val : Nat) : Int)) := by decide +kernel
  have := key ⟨c.toNat, by omega⟩
  rwa [show ((c.toNat : Nat) : Int) = c by omega] at this
theorem bt_r (s : ByteArray) (i : Int) : 0 ≤ bt s i ∧ bt s i < 256 := by have := bt_range s i; omega
theorem value_dig {c : Int} (h0 : 0 ≤ c) (h1 : c < 256) : (value c < 0 ∨ value c > 9) ↔ ¬ dig c := by
  unfold value dig
  by_cases a : 48 ≤ c ∧ c ≤ 57
  · rw [if_pos a]; omega
  · rw [if_neg a]
    by_cases b : 97 ≤ c ∧ c ≤ 102
    · rw [if_pos b]; omega
    · rw [if_neg b]
      by_cases d : 65 ≤ c ∧ c ≤ 70
      · rw [if_pos d]; omega
      · rw [if_neg d]; omega
theorem value_of {c : Int} (h : dig c) : value c = c - 48 := by unfold dig at h; unfold value; rw [if_pos h]
theorem Lead_l0 (s : ByteArray) (hs : s.size ≤ 140737488351232) (d : Nat) : ∀ (K i : Nat) (n : Int), s.size - i ≤ d → i ≤ s.size → d + 3 ≤ K → 0 ≤ n → n ≤ 1000000000 →
    digit_Lead.l0 K s n (s.size : Int) (i : Int) = some ((leadL ((L s).drop i) n).1, ((i + (leadL ((L s).drop i) n).2 : Nat) : Int)) := by
  induction d with
  | zero =>
    intro K i n hd hi hK h0 h1
    obtain ⟨k, rfl⟩ : ∃ k, K = k + 1 := ⟨K - 1, by omega⟩
    have : i = s.size := by omega
    subst this
    simp only [digit_Lead.l0]
    rw [if_neg (by omega), List.drop_of_length_le (by rw [L_len]; omega)]
    simp [leadL]
  | succ d ih =>
    intro K i n hd hi hK h0 h1
    obtain ⟨k, rfl⟩ : ∃ k, K = k + 1 := ⟨K - 1, by omega⟩
    simp only [digit_Lead.l0]
    by_cases hlt : i < s.size
    · have hb := bt_r s (i : Int)
      rw [if_pos (by omega), if_pos (by omega), if_pos (by omega), value_f _ _ (by omega) hb.1 hb.2, Option.bind_some, L_drop s i hlt]
      unfold leadL
      have hv := value_dig hb.1 hb.2
      by_cases hc : dig (bt s (i : Int))
      · rw [if_neg (fun e => hv.1 (.inl e) hc), if_neg (fun e => hv.1 (.inr e) hc), if_pos hc, value_of hc]
        unfold dig at hc
        rw [wrap_in (n := 10 * n) (by omega) (by omega), wrap_in (n := 10 * n + (bt s (i : Int) - 48)) (by omega) (by omega), wrap_in (n := (i : Int) + 1) (by omega) (by omega)]
        have hm : mn (10 * n + (bt s (i : Int) - 48)) 1000000000 = min (10 * n + (bt s (i : Int) - 48)) 1000000000 := by unfold mn; split <;> omega
        rw [hm]
        have := ih k (i + 1) (min (10 * n + (bt s (i : Int) - 48)) 1000000000) (by omega) (by omega) (by omega) (by omega) (by omega)
        rw [show (((i + 1 : Nat) : Nat) : Int) = (i : Int) + 1 by omega] at this
        rw [this]
        congr 2
        omega
      · rcases hv.2 hc with e | e
        · rw [if_pos e, if_neg hc]; simp
        · rw [if_neg (by omega), if_pos e, if_neg hc]; simp
    · rw [if_neg (by omega), List.drop_of_length_le (by rw [L_len]; omega)]
      have : i = s.size := by omega
      subst this
      simp [leadL]
theorem Lead_f (s : ByteArray) (hs : s.size ≤ 140737488351232) (K : Nat) (hK : s.size + 3 ≤ K) : digit_Lead.f K s = some ((leadL (L s) 0).1, ((leadL (L s) 0).2 : Int)) := by
  unfold digit_Lead.f
  have := Lead_l0 s hs s.size K 0 0 (by omega) (by omega) hK (by omega) (by omega)
  simpa using this
theorem rLead_l0 (s : ByteArray) (hs : s.size ≤ 140737488351232) (d : Nat) : ∀ (K i : Nat) (n : Int), s.size - i ≤ d → i ≤ s.size → 2 * d + 30 ≤ K → 0 ≤ n → n ≤ 1000000000 →
    spoolref01_Lead.l0 K s n (i : Int) = some ((leadL ((L s).drop i) n).1, ((i + (leadL ((L s).drop i) n).2 : Nat) : Int)) := by
  induction d with
  | zero =>
    intro K i n hd hi hK h0 h1
    obtain ⟨k, rfl⟩ : ∃ k, K = k + 2 := ⟨K - 2, by omega⟩
    have : i = s.size := by omega
    subst this
    simp only [spoolref01_Lead.l0, spoolref01_Lead.j1]
    rw [if_neg (by omega), if_neg (by simp), List.drop_of_length_le (by rw [L_len]; omega)]
    simp [leadL]
  | succ d ih =>
    intro K i n hd hi hK h0 h1
    obtain ⟨k, rfl⟩ : ∃ k, K = k + 2 := ⟨K - 2, by omega⟩
    simp only [spoolref01_Lead.l0]
    by_cases hlt : i < s.size
    · have hb := bt_r s (i : Int)
      rw [if_pos (by omega), if_pos (by omega), L_drop s i hlt]
      unfold leadL
      have hj : (if bt s (i : Int) ≥ 48 then spoolref01_Lead.j1 (k + 1) s n (i : Int) (decide (bt s (i : Int) ≤ 57)) else spoolref01_Lead.j1 (k + 1) s n (i : Int) false) = spoolref01_Lead.j1 (k + 1) s n (i : Int) (decide (dig (bt s (i : Int)))) := by
        by_cases a : bt s (i : Int) ≥ 48
        · rw [if_pos a]; congr 1; apply decide_eq_decide.mpr; unfold dig; omega
        · rw [if_neg a]; congr 1; symm; rw [decide_eq_false_iff_not]; unfold dig; omega
      rw [hj]
      simp only [spoolref01_Lead.j1]
      by_cases hc : dig (bt s (i : Int))
      · rw [decide_eq_true hc, if_pos rfl, if_pos (by omega), if_pos (by omega), one_f _ _ (by omega) hb.1 hb.2, Option.bind_some, if_pos hc, value_of hc]
        unfold dig at hc
        rw [wrap_in (n := 10 * n) (by omega) (by omega), wrap_in (n := 10 * n + (bt s (i : Int) - 48)) (by omega) (by omega), wrap_in (n := (i : Int) + 1) (by omega) (by omega)]
        have := ih k (i + 1) (min (10 * n + (bt s (i : Int) - 48)) 1000000000) (by omega) (by omega) (by omega) (by omega) (by omega)
        rw [show (((i + 1 : Nat) : Nat) : Int) = (i : Int) + 1 by omega] at this
        have e2 : i + 1 + (leadL ((L s).drop (i + 1)) (min (10 * n + (bt s (i : Int) - 48)) 1000000000)).2 = i + ((leadL ((L s).drop (i + 1)) (min (10 * n + (bt s (i : Int) - 48)) 1000000000)).2 + 1) := by omega
        rw [e2] at this
        by_cases hm : 10 * n + (bt s (i : Int) - 48) > 1000000000
        · rw [if_pos hm]
          rw [show min (10 * n + (bt s (i : Int) - 48)) 1000000000 = (1000000000 : Int) by omega] at this ⊢
          exact this
        · rw [if_neg hm]
          rw [show min (10 * n + (bt s (i : Int) - 48)) 1000000000 = 10 * n + (bt s (i : Int) - 48) by omega] at this ⊢
          exact this
      · rw [decide_eq_false hc, if_neg (by simp), if_neg hc]; simp
    · simp only [spoolref01_Lead.j1]
      rw [if_neg (by omega), if_neg (by simp), List.drop_of_length_le (by rw [L_len]; omega)]
      have : i = s.size := by omega
      subst this
      simp [leadL]
theorem rLead_f (s : ByteArray) (hs : s.size ≤ 140737488351232) (K : Nat) (hK : 2 * s.size + 30 ≤ K) : spoolref01_Lead.f K s = some ((leadL (L s) 0).1, ((leadL (L s) 0).2 : Int)) := by
  unfold spoolref01_Lead.f
  have := rLead_l0 s hs s.size K 0 0 (by omega) (by omega) hK (by omega) (by omega)
  simpa using this
theorem Parse_f (s : ByteArray) (hs : s.size ≤ 140737488351232) (K : Nat) (hK : s.size + 3 ≤ K) : digit_Parse.f K s = some (parseL (L s)) := by
  unfold digit_Parse.f parseL
  rw [Lead_f s hs K hK, Option.bind_some]
  simp only
  have hlen := L_len s
  have hg := L_get s 0
  by_cases h1 : s.toList = ([] : List UInt8)
  · rw [if_pos h1, if_pos (.inl (L_nil.1 h1))]
  · have h1' : L s ≠ [] := fun e => h1 (L_nil.2 e)
    rw [if_neg h1]
    by_cases h2 : (((leadL (L s) 0).2 : Nat) : Int) < (s.size : Int)
    · rw [if_pos h2, if_pos (.inr (.inl (by omega)))]
    · rw [if_neg h2]
      by_cases h3 : (leadL (L s) 0).1 > 999999999
      · rw [if_pos h3, if_pos (.inr (.inr (.inl h3)))]
      · rw [if_neg h3]
        by_cases h4 : (s.size : Int) > 1
        · rw [if_pos h4, if_pos (by omega)]
          by_cases h5 : bt s 0 = 48
          · rw [if_pos h5, if_pos (.inr (.inr (.inr ⟨by omega, by rw [hg]; exact h5⟩)))]
          · rw [if_neg h5, if_neg]
            rintro (e | e | e | e)
            · exact h1' e
            · omega
            · exact h3 e
            · exact h5 (by rw [← e.2, hg]; rfl)
        · rw [if_neg h4, if_neg]
          rintro (e | e | e | e)
          · exact h1' e
          · omega
          · exact h3 e
          · omega
/-! ### numbers' texts -/
def ten : ByteArray := ⟨#[48, 49, 50, 51, 52, 53, 54, 55, 56, 57]⟩
theorem ten_at : ∀ n : Fin 10, L (ten.extract n.val (n.val + 1)) = [48 + ((n.val : Nat) : Int)] := by decide +kernel
theorem rText_f (m : Nat) : ∀ (n K : Nat), n < 10 ^ (m + 1) → m < 100 → m + 2 ≤ K → (n : Int) ≤ 9223372036854775807 → ∃ r, spoolref01_Text.f K (n : Int) = some r ∧ L r = textN n := by
  induction m with
  | zero =>
    intro n K hn _ hK hb
    obtain ⟨k, rfl⟩ : ∃ k, K = k + 1 := ⟨K - 1, by omega⟩
    have hn : n < 10 := by simpa using hn
    simp only [spoolref01_Text.f]
    rw [if_pos (by omega), if_pos (by omega), wrap_in (n := (n : Int) + 1) (by omega) (by omega), if_pos (by omega), if_pos (by omega), textN_lt hn]
    refine ⟨_, rfl, ?_⟩
    have := ten_at ⟨n, hn⟩
    rw [← this]
    rfl
  | succ m ih =>
    intro n K hn hm hK hb
    obtain ⟨k, rfl⟩ : ∃ k, K = k + 1 := ⟨K - 1, by omega⟩
    by_cases h10 : n < 10
    · simp only [spoolref01_Text.f]
      rw [if_pos (by omega), if_pos (by omega), wrap_in (n := (n : Int) + 1) (by omega) (by omega), if_pos (by omega), if_pos (by omega), textN_lt h10]
      refine ⟨_, rfl, ?_⟩
      have := ten_at ⟨n, h10⟩
      rw [← this]
      rfl
    · have hdiv : n / 10 < 10 ^ (m + 1) := by rw [Nat.div_lt_iff_lt_mul (by omega)]; rw [Nat.pow_succ] at hn; exact hn
      obtain ⟨r1, e1, l1⟩ := ih (n / 10) k hdiv (by omega) (by omega) (by omega)
      have hp : n % 10 < 10 ^ (m + 1) := Nat.lt_of_lt_of_le (Nat.mod_lt n (by omega)) (by rw [Nat.pow_succ]; have := Nat.one_le_pow m 10 (by omega); omega)
      obtain ⟨r2, e2, l2⟩ := ih (n % 10) k hp (by omega) (by omega) (by omega)
      simp only [spoolref01_Text.f]
      rw [if_neg (by omega), show Int.tdiv (n : Int) 10 = ((n / 10 : Nat) : Int) from rfl, show Int.tmod (n : Int) 10 = ((n % 10 : Nat) : Int) from rfl, wrap_in (n := ((n / 10 : Nat) : Int)) (by omega) (by omega), e1, e2]
      simp only [Option.bind_some]
      have s1 : r1.size ≤ m + 1 := by rw [← L_len, l1]; exact textN_len m _ hdiv
      have s2 : r2.size ≤ m + 1 := by rw [← L_len, l2]; exact textN_len m _ hp
      rw [if_pos (by omega)]
      refine ⟨_, rfl, ?_⟩
      rw [L_append, l1, l2, textN_ge (n := n) (by omega), textN_lt (n := n % 10) (by omega)]
theorem rParse_f (s : ByteArray) (hs : s.size ≤ 140737488351232) (K : Nat) (hK : 2 * s.size + 30 ≤ K) : spoolref01_Parse.f K s = some (parseL (L s)) := by
  unfold spoolref01_Parse.f
  rw [rLead_f s hs K hK, Option.bind_some, parseL_iff]
  simp only
  have hlen := L_len s
  have hbd := leadL_bound (L s) 0 (by omega) (by omega)
  by_cases h1 : (s.size : Int) = 0
  · rw [if_pos h1, if_pos (.inl (List.eq_nil_of_length_eq_zero (by omega)))]
  · have h1' : L s ≠ [] := fun e => by rw [e] at hlen; simp at hlen; omega
    rw [if_neg h1]
    by_cases h2 : (((leadL (L s) 0).2 : Nat) : Int) = (s.size : Int)
    · rw [if_pos h2]
      by_cases h3 : (leadL (L s) 0).1 > 999999999
      · rw [if_pos h3, if_pos (.inr (.inr (.inl h3)))]
      · rw [if_neg h3]
        obtain ⟨r, e, l⟩ := rText_f 9 (leadL (L s) 0).1.toNat K (by omega) (by omega) (by omega) (by omega)
        rw [show (((leadL (L s) 0).1.toNat : Nat) : Int) = (leadL (L s) 0).1 by omega] at e
        rw [e, Option.bind_some]
        by_cases h4 : r.toList = s.toList
        · rw [if_pos h4, if_neg]
          have h4 := L_inj.1 h4
          rintro (e | e | e | e)
          · exact h1' e
          · omega
          · exact h3 e
          · exact e (by rw [← l]; exact h4)
        · have hn : textN (leadL (L s) 0).1.toNat ≠ L s := fun e => h4 (L_inj.2 (by rw [l]; exact e))
          rw [if_neg h4, if_pos (.inr (.inr (.inr hn)))]
    · rw [if_neg h2, if_pos (.inr (.inl (by omega)))]
/-! ### digits of 16 -/
theorem Hex_l0 (s : ByteArray) (hs : s.size ≤ 6) (d : Nat) : ∀ (K i : Nat) (n : Int), s.size - i ≤ d → i ≤ s.size → d + 3 ≤ K → 0 ≤ n → n < 16 ^ i →
    digit_Hex.l0 K s n (s.size : Int) (i : Int) = some (match hexL ((L s).drop i) n with | none => (0, false) | some v => (v, true)) := by
  induction d with
  | zero =>
    intro K i n hd hi hK h0 h1
    obtain ⟨k, rfl⟩ : ∃ k, K = k + 1 := ⟨K - 1, by omega⟩
    simp only [digit_Hex.l0]
    rw [if_neg (by omega), List.drop_of_length_le (by rw [L_len]; omega)]
    simp [hexL]
  | succ d ih =>
    intro K i n hd hi hK h0 h1
    obtain ⟨k, rfl⟩ : ∃ k, K = k + 1 := ⟨K - 1, by omega⟩
    simp only [digit_Hex.l0]
    by_cases hlt : i < s.size
    · have hb := bt_r s (i : Int)
      rw [if_pos (by omega), if_pos (by omega), if_pos (by omega), value_f _ _ (by omega) hb.1 hb.2, Option.bind_some, L_drop s i hlt]
      unfold hexL
      by_cases hc : value (bt s (i : Int)) < 0
      · rw [if_pos hc, if_pos hc]
      · rw [if_neg hc, if_neg hc]
        have hv := value_le (bt s (i : Int))
        have hp : (16 : Int) ^ i ≤ 16 ^ 5 := by
          have : ∀ j : Fin 6, (16 : Int) ^ j.val ≤ 16 ^ 5 := by decide
          exact this ⟨i, by omega⟩
        have hp2 : (16 : Int) ^ (i + 1) = 16 * 16 ^ i := by rw [Int.pow_succ, Int.mul_comm]
        rw [wrap_in (n := 16 * n) (by omega) (by omega), wrap_in (n := 16 * n + value (bt s (i : Int))) (by omega) (by omega), wrap_in (n := (i : Int) + 1) (by omega) (by omega)]
        have := ih k (i + 1) (16 * n + value (bt s (i : Int))) (by omega) (by omega) (by omega) (by omega) (by omega)
        rw [show (((i + 1 : Nat) : Nat) : Int) = (i : Int) + 1 by omega] at this
        exact this
    · rw [if_neg (by omega), List.drop_of_length_le (by rw [L_len]; omega)]
      simp [hexL]
def hexP (l : List Int) : Int × Bool := if l = [] ∨ l.length > 6 then (0, false) else match hexL l 0 with | none => (0, false) | some v => (v, true)
theorem Hex_f (s : ByteArray) (hs : s.size ≤ 140737488351232) (K : Nat) (hK : 12 ≤ K) : digit_Hex.f K s = some (hexP (L s)) := by
  obtain ⟨k, rfl⟩ : ∃ k, K = k + 1 := ⟨K - 1, by omega⟩
  unfold digit_Hex.f hexP
  simp only [digit_Hex.j0]
  have hlen := L_len s
  by_cases h1 : s.toList = ([] : List UInt8)
  · rw [if_pos h1, if_pos trivial, if_pos (.inl (L_nil.1 h1))]
  · have h1' : L s ≠ [] := fun e => h1 (L_nil.2 e)
    rw [if_neg h1]
    by_cases h2 : (s.size : Int) > 6
    · rw [decide_eq_true h2, if_pos rfl, if_pos (.inr (by omega))]
    · rw [decide_eq_false h2, if_neg (by simp), if_neg (by rintro (e | e); exact h1' e; omega)]
      have := Hex_l0 s (by omega) s.size k 0 0 (by omega) (by omega) (by omega) (by omega) (by simp)
      simpa using this
end Go.Proofs.YtifcpamliidabaaDoor.PfD

/- What reading data tells, by a plain function. -/
set_option linter.unusedSimpArgs false
set_option linter.unusedVariables false
namespace Go.Proofs.YtifcpamliidabaaDoor.PfU
open Go.RowKit Go.Proofs.YtifcpamliidabaaDoor.PS Go.Proofs.YtifcpamliidabaaDoorW.PrintWords Go.Proofs.YtifcpamliidabaaDoorW.PrintLast Go.Proofs.YtifcpamliidabaaDoor.PlD Go.Proofs.YtifcpamliidabaaDoor.PfD
theorem rhex_f (c : Int) (K : Nat) (hK : 3 ≤ K) (h0 : 0 ≤ c) (h1 : c < 256) : spoolref48_hex.f K c = some (value c) := by
  refine up (g := fun k => spoolref48_hex.f k c) (spoolref48_hex.mono c) (a := 3) ?_ K hK
  have key : ∀ n : Fin 256, spoolref48_hex.f 3 ((n.val : Nat) : Int) = some (value ((n.val : Nat) : Int)) := by decide +kernel
  have := key ⟨c.toNat, by omega⟩
  rwa [show ((c.toNat : Nat) : Int) = c by omega] at this
/-- What stands for a byte that begins with a backslash, and how many bytes that are; 0: nothing. -/
def esc (s : ByteArray) (i : Nat) : Int × Nat :=
  if i + 1 < s.size ∧ (bt s ((i + 1 : Nat) : Int) = 34 ∨ bt s ((i + 1 : Nat) : Int) = 92) then (bt s ((i + 1 : Nat) : Int), 2)
  else if i + 3 < s.size ∧ bt s ((i + 1 : Nat) : Int) = 120 ∧ 0 ≤ value (bt s ((i + 2 : Nat) : Int)) ∧ 0 ≤ value (bt s ((i + 3 : Nat) : Int)) then (16 * value (bt s ((i + 2 : Nat) : Int)) + value (bt s ((i + 3 : Nat) : Int)), 4)
  else (0, 0)
theorem bt_sub (s : ByteArray) (a b k : Nat) (h : a + k < b) (hb : b ≤ s.size) : bt (s.extract a b) (k : Int) = bt s ((a + k : Nat) : Int) := by
  have h1 : k < (s.extract a b).size := by simp; omega
  unfold bt
  rw [dif_pos (by simpa using h1), dif_pos (by rw [Int.toNat_natCast]; omega)]
  simp only [Int.toNat_natCast, ByteArray.getElem_extract]
theorem L_two (s : ByteArray) (h : s.size = 2) : L s = [bt s 0, bt s 1] := by
  have h0 := L_drop s 0 (by omega)
  have h1 := L_drop s 1 (by omega)
  rw [List.drop_zero] at h0
  rw [h0, show (0 : Nat) + 1 = 1 from rfl, h1, List.drop_of_length_le (by rw [L_len]; omega)]
  rfl
set_option maxHeartbeats 2000000 in
theorem escaped_f (s : ByteArray) (hs : s.size ≤ 140737488351232) (i : Nat) (hi : i < s.size) (K : Nat) (hK : 20 ≤ K) : script_escaped.f K (s.extract i s.size) = some ((esc s i).1, ((esc s i).2 : Int)) := by
  obtain ⟨k, rfl⟩ : ∃ m, K = m + 2 := ⟨K - 2, by omega⟩
  have hz : (s.extract i s.size).size = s.size - i := by simp
  have b1 : i + 1 < s.size → bt (s.extract i s.size) 1 = bt s ((i + 1 : Nat) : Int) := fun h => bt_sub s i s.size 1 h (Nat.le_refl _)
  unfold script_escaped.f esc
  simp only [script_escaped.j0, script_escaped.j1]
  have j1 : ∀ b : Bool, i + 3 < s.size → b = (bt s ((i + 1 : Nat) : Int) == 120) → (if b = true then (if 2 ≤ 4 then (if 4 ≤ ((s.extract i s.size).size : Int) then ((digit_Hex.f k ((s.extract i s.size).extract 2 4)).bind fun bt110 => (if bt110.2 = true then (some ((bt110.1) % 256, 4)) else (some (0, 0)))) else (none)) else (none)) else (some (0, 0))) = (if bt s ((i + 1 : Nat) : Int) = 120 ∧ 0 ≤ value (bt s ((i + 2 : Nat) : Int)) ∧ 0 ≤ value (bt s ((i + 3 : Nat) : Int)) then some (16 * value (bt s ((i + 2 : Nat) : Int)) + value (bt s ((i + 3 : Nat) : Int)), (4 : Int)) else some (0, 0)) := by
    intro b h3 hb
    by_cases hc : bt s ((i + 1 : Nat) : Int) = 120
    · have hb' : b = true := by rw [hb, hc]; rfl
      rw [hb', if_pos rfl, if_pos (by decide), if_pos (by rw [hz]; omega), Hex_f _ (by simp; omega) _ (by omega), Option.bind_some]
      have e : (s.extract i s.size).extract 2 4 = s.extract (i + 2) (i + 4) := by
        rw [ByteArray.extract_extract]
        congr 1
        omega
      have hsz : (s.extract (i + 2) (i + 4)).size = 2 := by simp; omega
      have e0 : bt (s.extract (i + 2) (i + 4)) 0 = bt s ((i + 2 : Nat) : Int) := bt_sub s (i + 2) (i + 4) 0 (by omega) (by omega)
      have e1 : bt (s.extract (i + 2) (i + 4)) 1 = bt s ((i + 3 : Nat) : Int) := bt_sub s (i + 2) (i + 4) 1 (by omega) (by omega)
      rw [e, L_two _ hsz, e0, e1]
      have v2 := value_le (bt s ((i + 2 : Nat) : Int))
      have v3 := value_le (bt s ((i + 3 : Nat) : Int))
      have hP : hexP [bt s ((i + 2 : Nat) : Int), bt s ((i + 3 : Nat) : Int)] = if 0 ≤ value (bt s ((i + 2 : Nat) : Int)) ∧ 0 ≤ value (bt s ((i + 3 : Nat) : Int)) then (16 * value (bt s ((i + 2 : Nat) : Int)) + value (bt s ((i + 3 : Nat) : Int)), true) else (0, false) := by
        unfold hexP
        rw [if_neg (show ¬ ([bt s ((i + 2 : Nat) : Int), bt s ((i + 3 : Nat) : Int)] = [] ∨ [bt s ((i + 2 : Nat) : Int), bt s ((i + 3 : Nat) : Int)].length > 6) by simp)]
        simp only [hexL]
        by_cases a : value (bt s ((i + 2 : Nat) : Int)) < 0
        · rw [if_pos a, if_neg (show ¬ (0 ≤ value (bt s ((i + 2 : Nat) : Int)) ∧ 0 ≤ value (bt s ((i + 3 : Nat) : Int))) by omega)]
        · rw [if_neg a]
          by_cases b : value (bt s ((i + 3 : Nat) : Int)) < 0
          · rw [if_pos b, if_neg (show ¬ (0 ≤ value (bt s ((i + 2 : Nat) : Int)) ∧ 0 ≤ value (bt s ((i + 3 : Nat) : Int))) by omega)]
          · rw [if_neg b, if_pos (show (0 ≤ value (bt s ((i + 2 : Nat) : Int)) ∧ 0 ≤ value (bt s ((i + 3 : Nat) : Int))) by omega)]
            simp
      rw [hP]
      by_cases hh : 0 ≤ value (bt s ((i + 2 : Nat) : Int)) ∧ 0 ≤ value (bt s ((i + 3 : Nat) : Int))
      · rw [if_pos hh, if_pos (show bt s ((i + 1 : Nat) : Int) = 120 ∧ 0 ≤ value (bt s ((i + 2 : Nat) : Int)) ∧ 0 ≤ value (bt s ((i + 3 : Nat) : Int)) from ⟨hc, hh⟩)]
        simp only [if_true]
        rw [Int.emod_eq_of_lt (by omega) (by omega)]
      · rw [if_neg hh, if_neg (show ¬ (bt s ((i + 1 : Nat) : Int) = 120 ∧ 0 ≤ value (bt s ((i + 2 : Nat) : Int)) ∧ 0 ≤ value (bt s ((i + 3 : Nat) : Int))) from fun h => hh h.2)]
        simp
    · have hb' : b = false := by rw [hb]; exact beq_eq_false_iff_ne.mpr hc
      rw [hb', if_neg (by simp), if_neg (fun h => hc h.1)]
  have z1 : i + 1 < s.size → ((s.extract i s.size).size : Int) ≥ 2 := fun h => by rw [hz]; omega
  have z2 : i + 1 < s.size → (1 : Int) < ((s.extract i s.size).size : Int) := fun h => by rw [hz]; omega
  have n1 : ¬ i + 1 < s.size → ¬ ((s.extract i s.size).size : Int) ≥ 2 := fun h => by rw [hz]; omega
  have z4 : i + 3 < s.size → ((s.extract i s.size).size : Int) ≥ 4 := fun h => by rw [hz]; omega
  have n4 : ¬ i + 3 < s.size → ¬ ((s.extract i s.size).size : Int) ≥ 4 := fun h => by rw [hz]; omega
  by_cases h1 : i + 1 < s.size
  · rw [if_pos (z1 h1), if_pos (z2 h1), b1 h1]
    by_cases c34 : bt s ((i + 1 : Nat) : Int) = 34
    · rw [if_pos c34, if_pos (show (i + 1 < s.size ∧ (bt s ((i + 1 : Nat) : Int) = 34 ∨ bt s ((i + 1 : Nat) : Int) = 92)) from ⟨h1, .inl c34⟩)]
      first | (rw [if_pos trivial, if_pos (z2 h1)]; rfl) | (rw [if_pos rfl, if_pos (z2 h1)]; rfl)
    · rw [if_neg c34]
      by_cases c92 : bt s ((i + 1 : Nat) : Int) = 92
      · rw [show (bt s ((i + 1 : Nat) : Int) == 92) = true from beq_iff_eq.mpr c92, if_pos (rfl : true = true), if_pos (z2 h1), if_pos (show (i + 1 < s.size ∧ (bt s ((i + 1 : Nat) : Int) = 34 ∨ bt s ((i + 1 : Nat) : Int) = 92)) from ⟨h1, .inr c92⟩)]
        rfl
      · have hno : ¬ (i + 1 < s.size ∧ (bt s ((i + 1 : Nat) : Int) = 34 ∨ bt s ((i + 1 : Nat) : Int) = 92)) := fun h => by
          rcases h.2 with h | h
          · exact c34 h
          · exact c92 h
        rw [show (bt s ((i + 1 : Nat) : Int) == 92) = false from beq_eq_false_iff_ne.mpr c92, if_neg Bool.false_ne_true, if_neg hno]
        by_cases h3 : i + 3 < s.size
        · rw [if_pos (z4 h3), if_pos (z2 h1), j1 _ h3 rfl]
          by_cases hh : bt s ((i + 1 : Nat) : Int) = 120 ∧ 0 ≤ value (bt s ((i + 2 : Nat) : Int)) ∧ 0 ≤ value (bt s ((i + 3 : Nat) : Int))
          · rw [if_pos hh, if_pos (show i + 3 < s.size ∧ bt s ((i + 1 : Nat) : Int) = 120 ∧ 0 ≤ value (bt s ((i + 2 : Nat) : Int)) ∧ 0 ≤ value (bt s ((i + 3 : Nat) : Int)) from ⟨h3, hh⟩)]; rfl
          · rw [if_neg hh, if_neg (show ¬ (i + 3 < s.size ∧ bt s ((i + 1 : Nat) : Int) = 120 ∧ 0 ≤ value (bt s ((i + 2 : Nat) : Int)) ∧ 0 ≤ value (bt s ((i + 3 : Nat) : Int))) from fun h => hh h.2)]; rfl
        · rw [if_neg (n4 h3), if_neg Bool.false_ne_true, if_neg (show ¬ (i + 3 < s.size ∧ bt s ((i + 1 : Nat) : Int) = 120 ∧ 0 ≤ value (bt s ((i + 2 : Nat) : Int)) ∧ 0 ≤ value (bt s ((i + 3 : Nat) : Int))) from fun h => h3 h.1)]
          rfl
  · rw [if_neg (n1 h1), if_neg (show ¬ (i + 1 < s.size ∧ (bt s ((i + 1 : Nat) : Int) = 34 ∨ bt s ((i + 1 : Nat) : Int) = 92)) from fun h => h1 h.1), if_neg (show ¬ (i + 3 < s.size ∧ bt s ((i + 1 : Nat) : Int) = 120 ∧ 0 ≤ value (bt s ((i + 2 : Nat) : Int)) ∧ 0 ≤ value (bt s ((i + 3 : Nat) : Int))) from fun h => h1 (by omega))]
    first | rfl | (rw [if_neg Bool.false_ne_true, if_neg (n4 (fun h => h1 (by omega))), if_neg Bool.false_ne_true]; rfl)
/-- Data, by so many steps: the bytes, the byte behind them, where it is wrong, or -1. -/
def unqN (s : ByteArray) : Nat → List Int → Nat → List Int × Int × Int
  | 0, _, _ => ([], 0, (s.size : Int))
  | d + 1, acc, i =>
    if i < s.size then
      if bt s (i : Int) = 34 then (acc, (i : Int) + 1, -1)
      else if bt s (i : Int) = 92 then (if (esc s i).2 = 0 then ([], 0, (i : Int)) else unqN s d (acc ++ [(esc s i).1]) (i + (esc s i).2))
      else if bt s (i : Int) < 32 ∨ bt s (i : Int) > 126 then ([], 0, (i : Int))
      else unqN s d (acc ++ [bt s (i : Int)]) (i + 1)
    else ([], 0, (s.size : Int))
def unqF (s : ByteArray) (i : Nat) : List Int × Int × Int := if s.size ≤ i ∨ bt s (i : Int) ≠ 34 then ([], 0, (i : Int)) else unqN s s.size [] (i + 1)
/-- As the program tells it. -/
def asP (r : List Int × Int × Int) : ByteArray × Int × Int × Int := if r.2.2 < 0 then (strOfNums r.1, r.2.1, 0, 0) else (⟨#[]⟩, 0, 3, r.2.2)
def asR (r : List Int × Int × Int) : ByteArray × Int × Int := if r.2.2 < 0 then (strOfNums r.1, r.2.1, -1) else (⟨#[]⟩, 0, r.2.2)
theorem esc_le (s : ByteArray) (i : Nat) : (esc s i).2 = 0 ∨ (1 ≤ (esc s i).2 ∧ i + (esc s i).2 ≤ s.size) := by
  unfold esc
  split
  · right; simp; omega
  · split
    · right; simp; omega
    · left; rfl
theorem bad_P (j : Int) (h : 0 ≤ j) : asP ([], 0, j) = (⟨#[]⟩, 0, 3, j) := by unfold asP; rw [if_neg (by simp; omega)]
theorem bad_R (j : Int) (h : 0 ≤ j) : asR ([], 0, j) = (⟨#[]⟩, 0, j) := by unfold asR; rw [if_neg (by simp; omega)]
set_option maxHeartbeats 2000000 in
theorem Unquote_l0 (s : ByteArray) (hs : s.size ≤ 140737488351232) (d : Nat) : ∀ (K i : Nat) (acc : List Int), s.size - i ≤ d → i ≤ s.size → acc.length ≤ i → 2 * d + 30 ≤ K →
    script_Unquote.l0 K s acc (i : Int) = some (asP (unqN s d acc i)) := by
  induction d with
  | zero =>
    intro K i acc hd hi ha hK
    obtain ⟨k, rfl⟩ : ∃ m, K = m + 1 := ⟨K - 1, by omega⟩
    simp only [script_Unquote.l0, unqN]
    rw [if_neg (by omega), bad_P _ (by omega)]
    rfl
  | succ d ih =>
    intro K i acc hd hi ha hK
    obtain ⟨k, rfl⟩ : ∃ m, K = m + 2 := ⟨K - 2, by omega⟩
    simp only [script_Unquote.l0, unqN, script_Unquote.j2]
    by_cases hlt : i < s.size
    · rw [if_pos (by omega), if_pos (by omega), if_pos hlt]
      by_cases h34 : bt s (i : Int) = 34
      · rw [if_pos h34, if_pos h34, wrap_in (by omega) (by omega)]
        rfl
      · rw [if_neg h34, if_neg h34]
        by_cases h92 : bt s (i : Int) = 92
        · rw [if_pos h92, if_pos h92, if_pos (by omega), Int.toNat_natCast, escaped_f s hs i hlt _ (by omega), Option.bind_some]
          simp only
          by_cases he : (esc s i).2 = 0
          · rw [if_pos (by omega), if_pos he, bad_P _ (by omega)]
            rfl
          · rcases esc_le s i with h | ⟨g1, g2⟩
            · exact absurd h he
            · rw [if_neg (by omega), if_neg he, if_pos (by omega), wrap_in (by omega) (by omega)]
              exact ih (k + 1) (i + (esc s i).2) _ (by omega) g2 (by simp; omega) (by omega)
        · rw [if_neg h92, if_neg h92]
          by_cases h32 : bt s (i : Int) < 32
          · rw [if_pos h32]
            simp only [if_true]
            rw [if_pos (show bt s (i : Int) < 32 ∨ bt s (i : Int) > 126 from .inl h32), bad_P _ (by omega)]
            rfl
          · rw [if_neg h32]
            by_cases h126 : bt s (i : Int) > 126
            · rw [decide_eq_true h126]
              simp only [if_true]
              rw [if_pos (show bt s (i : Int) < 32 ∨ bt s (i : Int) > 126 from .inr h126), bad_P _ (by omega)]
              rfl
            · rw [decide_eq_false h126, if_neg Bool.false_ne_true, if_neg (show ¬ (1 : Int) = 0 by decide), if_pos (show acc.length < 140737488355328 by omega), if_neg (show ¬ (bt s (i : Int) < 32 ∨ bt s (i : Int) > 126) by omega), wrap_in (by omega) (by omega)]
              exact ih k (i + 1) _ (by omega) (by omega) (by simp; omega) (by omega)
    · rw [if_neg (by omega), if_neg hlt, bad_P _ (by omega)]
      rfl
theorem Unquote_f (s : ByteArray) (hs : s.size ≤ 140737488351232) (i : Nat) (hi : i ≤ 140737488351232) (K : Nat) (hK : 2 * s.size + 40 ≤ K) : script_Unquote.f K s (i : Int) = some (asP (unqF s i)) := by
  obtain ⟨k, rfl⟩ : ∃ m, K = m + 1 := ⟨K - 1, by omega⟩
  unfold script_Unquote.f unqF
  simp only [script_Unquote.j0]
  rw [if_neg (by omega)]
  by_cases hlt : s.size ≤ i
  · rw [if_pos (by omega)]
    simp only [if_true]
    rw [if_pos (show s.size ≤ i ∨ bt s (i : Int) ≠ 34 from .inl hlt), bad_P _ (by omega)]
    rfl
  · rw [if_neg (by omega), if_pos (by omega), if_pos (by omega)]
    by_cases h34 : bt s (i : Int) = 34
    · rw [show (bt s (i : Int) != 34) = false from bne_eq_false_iff_eq.mpr h34, if_neg (by simp), if_neg (by omega), wrap_in (by omega) (by omega)]
      exact Unquote_l0 s hs s.size k (i + 1) [] (by omega) (by omega) (by simp) (by omega)
    · rw [show (bt s (i : Int) != 34) = true from bne_iff_ne.mpr h34]
      simp only [if_true]
      rw [if_pos (show s.size ≤ i ∨ bt s (i : Int) ≠ 34 from .inr h34), bad_P _ (by omega)]
      rfl
theorem r5t (s : ByteArray) (acc : List Int) (i m : Nat) : spoolref48_Unquote.j5 (m + 1) s acc (i : Int) true = some (asR ([], 0, (i : Int))) := by
  simp only [spoolref48_Unquote.j5]
  rw [if_pos trivial, bad_R _ (by omega)]
theorem r5f (s : ByteArray) (hs : s.size ≤ 140737488351232) (acc : List Int) (i m : Nat) (hm : 3 ≤ m) (h3 : i + 3 < s.size) (ha : acc.length ≤ i) (a : 0 ≤ value (bt s ((i + 2 : Nat) : Int))) (b : 0 ≤ value (bt s ((i + 3 : Nat) : Int))) :
    spoolref48_Unquote.j5 (m + 1) s acc (i : Int) false = spoolref48_Unquote.l0 m s (acc ++ [16 * value (bt s ((i + 2 : Nat) : Int)) + value (bt s ((i + 3 : Nat) : Int))]) ((i + 4 : Nat) : Int) := by
  have r2 := bt_r s ((i + 2 : Nat) : Int)
  have r3 := bt_r s ((i + 3 : Nat) : Int)
  have v2 := value_le (bt s ((i + 2 : Nat) : Int))
  have v3 := value_le (bt s ((i + 3 : Nat) : Int))
  have w2 : wrap64 ((i : Int) + 2) = ((i + 2 : Nat) : Int) := by rw [wrap_in (by omega) (by omega)]; omega
  have w3 : wrap64 ((i : Int) + 3) = ((i + 3 : Nat) : Int) := by rw [wrap_in (by omega) (by omega)]; omega
  have w4 : wrap64 ((i : Int) + 4) = ((i + 4 : Nat) : Int) := by rw [wrap_in (by omega) (by omega)]; omega
  have e2 := rhex_f _ m hm r2.1 r2.2
  have e3 := rhex_f _ m hm r3.1 r3.2
  generalize hx2 : value (bt s ((i + 2 : Nat) : Int)) = x2 at *
  generalize hx3 : value (bt s ((i + 3 : Nat) : Int)) = x3 at *
  simp only [spoolref48_Unquote.j5]
  rw [if_neg Bool.false_ne_true, w2, w3, w4, if_pos (by omega), if_pos (by omega), e2, Option.bind_some, if_pos (by omega), if_pos (by omega), e3, Option.bind_some, if_pos (by omega)]
  rw [wrap_in (n := 16 * x2) (by omega) (by omega), wrap_in (n := 16 * x2 + x3) (by omega) (by omega), Int.emod_eq_of_lt (by omega) (by omega)]
theorem r4t (s : ByteArray) (hs : s.size ≤ 140737488351232) (acc : List Int) (i m : Nat) (h1 : i + 1 < s.size) (ha : acc.length ≤ i) :
    spoolref48_Unquote.j4 (m + 1) s acc (i : Int) true = spoolref48_Unquote.l0 m s (acc ++ [bt s ((i + 1 : Nat) : Int)]) ((i + 2 : Nat) : Int) := by
  have w1 : wrap64 ((i : Int) + 1) = ((i + 1 : Nat) : Int) := by rw [wrap_in (by omega) (by omega)]; omega
  have w2 : wrap64 ((i : Int) + 2) = ((i + 2 : Nat) : Int) := by rw [wrap_in (by omega) (by omega)]; omega
  simp only [spoolref48_Unquote.j4]
  rw [if_pos trivial, w1, w2, if_pos (by omega), if_pos (by omega), if_pos (by omega)]
theorem r4f (s : ByteArray) (hs : s.size ≤ 140737488351232) (acc : List Int) (i m : Nat) (hm : 5 ≤ m) (ha : acc.length ≤ i) (hi : i < s.size) (hh : ¬ (i + 1 < s.size ∧ (bt s ((i + 1 : Nat) : Int) = 34 ∨ bt s ((i + 1 : Nat) : Int) = 92))) :
    spoolref48_Unquote.j4 (m + 2) s acc (i : Int) false = if (esc s i).2 = 0 then some (asR ([], 0, (i : Int))) else spoolref48_Unquote.l0 m s (acc ++ [(esc s i).1]) ((i + (esc s i).2 : Nat) : Int) := by
  have r2 := bt_r s ((i + 2 : Nat) : Int)
  have r3 := bt_r s ((i + 3 : Nat) : Int)
  have w1 : wrap64 ((i : Int) + 1) = ((i + 1 : Nat) : Int) := by rw [wrap_in (by omega) (by omega)]; omega
  have w2 : wrap64 ((i : Int) + 2) = ((i + 2 : Nat) : Int) := by rw [wrap_in (by omega) (by omega)]; omega
  have w3 : wrap64 ((i : Int) + 3) = ((i + 3 : Nat) : Int) := by rw [wrap_in (by omega) (by omega)]; omega
  have e2 := rhex_f _ (m + 1) (by omega) r2.1 r2.2
  have e3 := rhex_f _ (m + 1) (by omega) r3.1 r3.2
  have t5 := r5t s acc i m
  have f5 := r5f s hs acc i m (by omega)
  have eno : ¬ (i + 3 < s.size ∧ bt s ((i + 1 : Nat) : Int) = 120 ∧ 0 ≤ value (bt s ((i + 2 : Nat) : Int)) ∧ 0 ≤ value (bt s ((i + 3 : Nat) : Int))) → esc s i = (0, 0) := by
    intro h; unfold esc; rw [if_neg hh, if_neg h]
  have eye : (i + 3 < s.size ∧ bt s ((i + 1 : Nat) : Int) = 120 ∧ 0 ≤ value (bt s ((i + 2 : Nat) : Int)) ∧ 0 ≤ value (bt s ((i + 3 : Nat) : Int))) → esc s i = (16 * value (bt s ((i + 2 : Nat) : Int)) + value (bt s ((i + 3 : Nat) : Int)), 4) := by
    intro h; unfold esc; rw [if_neg hh, if_pos h]
  generalize hx2 : value (bt s ((i + 2 : Nat) : Int)) = x2 at *
  generalize hx3 : value (bt s ((i + 3 : Nat) : Int)) = x3 at *
  generalize hes : esc s i = es at *
  simp only [spoolref48_Unquote.j4]
  rw [if_neg Bool.false_ne_true, w1, w2, w3]
  by_cases h3 : i + 3 < s.size
  · rw [if_neg (by omega), if_pos (by omega), if_pos (by omega)]
    by_cases hx : bt s ((i + 1 : Nat) : Int) = 120
    · rw [if_pos hx, if_pos (by omega), if_pos (by omega), e2, Option.bind_some]
      by_cases a : x2 < 0
      · rw [if_pos a, t5, eno (fun h => by omega), if_pos rfl]
      · rw [if_neg a, if_pos (by omega), if_pos (by omega), e3, Option.bind_some]
        by_cases b : x3 < 0
        · rw [decide_eq_true b, t5, eno (fun h => by omega), if_pos rfl]
        · rw [decide_eq_false b, f5 h3 ha (by omega) (by omega), eye ⟨h3, hx, by omega, by omega⟩]
          exact (if_neg (by decide : ¬ (4 : Nat) = 0)).symm
    · rw [if_neg hx, t5, eno (fun h => hx h.2.1), if_pos rfl]
  · rw [if_pos (by omega), t5, eno (fun h => h3 h.1), if_pos rfl]
/-- Behind a backslash. -/
theorem r34 (s : ByteArray) (hs : s.size ≤ 140737488351232) (acc : List Int) (i m : Nat) (hm : 5 ≤ m) (ha : acc.length ≤ i) (hi : i < s.size) (h92 : bt s (i : Int) = 92) (R : ByteArray × Int × Int)
    (h0 : (esc s i).2 = 0 → R = asR ([], 0, (i : Int))) (h1 : ∀ m2, m ≤ m2 → (esc s i).2 ≠ 0 → spoolref48_Unquote.l0 m2 s (acc ++ [(esc s i).1]) ((i + (esc s i).2 : Nat) : Int) = some R) :
    spoolref48_Unquote.j3 (m + 3) s acc (i : Int) false = some R := by
  have w1 : wrap64 ((i : Int) + 1) = ((i + 1 : Nat) : Int) := by rw [wrap_in (by omega) (by omega)]; omega
  have f4 := r4f s hs acc i m hm ha hi
  have t4 := r4t s hs acc i (m + 1)
  simp only [spoolref48_Unquote.j3]
  rw [if_neg Bool.false_ne_true, if_pos (by omega), if_pos (by omega), if_pos h92, w1]
  have go : ¬ (i + 1 < s.size ∧ (bt s ((i + 1 : Nat) : Int) = 34 ∨ bt s ((i + 1 : Nat) : Int) = 92)) → spoolref48_Unquote.j4 (m + 2) s acc (i : Int) false = some R := by
    intro hh
    rw [f4 hh]
    by_cases he : (esc s i).2 = 0
    · rw [if_pos he, h0 he]
    · rw [if_neg he, h1 m (Nat.le_refl _) he]
  have go2 : (i + 1 < s.size ∧ (bt s ((i + 1 : Nat) : Int) = 34 ∨ bt s ((i + 1 : Nat) : Int) = 92)) → spoolref48_Unquote.j4 (m + 2) s acc (i : Int) true = some R := by
    intro hh
    have he : esc s i = (bt s ((i + 1 : Nat) : Int), 2) := by unfold esc; rw [if_pos hh]
    have h := h1 (m + 1) (by omega) (by rw [he]; exact (by decide : (2 : Nat) ≠ 0))
    rw [he] at h
    rw [t4 hh.1 ha]
    exact h
  by_cases h1 : i + 1 < s.size
  · rw [if_pos (by omega), if_pos (by omega)]
    by_cases a34 : bt s ((i + 1 : Nat) : Int) = 34
    · rw [if_pos a34, go2 ⟨h1, .inl a34⟩]
    · rw [if_neg a34]
      by_cases a92 : bt s ((i + 1 : Nat) : Int) = 92
      · rw [show (bt s ((i + 1 : Nat) : Int) == 92) = true from beq_iff_eq.mpr a92, go2 ⟨h1, .inr a92⟩]
      · rw [show (bt s ((i + 1 : Nat) : Int) == 92) = false from beq_eq_false_iff_ne.mpr a92]
        refine go (fun h => ?_)
        rcases h.2 with h | h
        · exact a34 h
        · exact a92 h
  · rw [if_neg (by omega)]
    exact go (fun h => h1 h.1)
theorem rUnquote_l0 (s : ByteArray) (hs : s.size ≤ 140737488351232) (d : Nat) : ∀ (K i : Nat) (acc : List Int), s.size - i ≤ d → i ≤ s.size → acc.length ≤ i → 5 * d + 30 ≤ K →
    spoolref48_Unquote.l0 K s acc (i : Int) = some (asR (unqN s d acc i)) := by
  induction d with
  | zero =>
    intro K i acc hd hi ha hK
    obtain ⟨k, rfl⟩ : ∃ m, K = m + 2 := ⟨K - 2, by omega⟩
    simp only [spoolref48_Unquote.l0, unqN, spoolref48_Unquote.j2]
    rw [if_neg (by omega), if_neg Bool.false_ne_true, if_pos (by omega), bad_R _ (by omega)]
  | succ d ih =>
    intro K i acc hd hi ha hK
    obtain ⟨k, rfl⟩ : ∃ m, K = m + 5 := ⟨K - 5, by omega⟩
    simp only [spoolref48_Unquote.l0, unqN, spoolref48_Unquote.j2]
    by_cases hlt : i < s.size
    · rw [if_pos (show (i : Int) < (s.size : Int) by omega), if_pos (show (0 : Int) ≤ (i : Int) by omega), if_pos hlt]
      by_cases h34 : bt s (i : Int) = 34
      · rw [show (bt s (i : Int) != 34) = false from bne_eq_false_iff_eq.mpr h34, if_neg Bool.false_ne_true, if_neg (by omega), if_pos h34, wrap_in (by omega) (by omega)]
        rfl
      · rw [show (bt s (i : Int) != 34) = true from bne_iff_ne.mpr h34]
        simp only [if_true]
        rw [if_neg h34, if_pos (show (0 : Int) ≤ (i : Int) by omega)]
        try rw [if_pos (show (i : Int) < (s.size : Int) by omega)]
        have j3t : spoolref48_Unquote.j3 (k + 3) s acc (i : Int) true = some (asR ([], 0, (i : Int))) := by
          simp only [spoolref48_Unquote.j3]
          rw [if_pos trivial, bad_R _ (by omega)]
        by_cases h32 : bt s (i : Int) < 32
        · rw [if_pos h32, if_neg (show ¬ bt s (i : Int) = 92 by omega), if_pos (show bt s (i : Int) < 32 ∨ bt s (i : Int) > 126 from .inl h32), j3t]
        · rw [if_neg h32]
          by_cases h126 : bt s (i : Int) > 126
          · rw [decide_eq_true h126, if_neg (show ¬ bt s (i : Int) = 92 by omega), if_pos (show bt s (i : Int) < 32 ∨ bt s (i : Int) > 126 from .inr h126), j3t]
          · rw [decide_eq_false h126]
            by_cases h92 : bt s (i : Int) = 92
            · rw [if_pos h92]
              refine r34 s hs acc i k (by omega) ha hlt h92 _ (fun he => by rw [if_pos he]) (fun m2 hm2 he => ?_)
              rw [if_neg he]
              rcases esc_le s i with h | ⟨g1, g2⟩
              · exact absurd h he
              · exact ih m2 (i + (esc s i).2) _ (by omega) g2 (by simp; omega) (by omega)
            · rw [if_neg h92, if_neg (show ¬ (bt s (i : Int) < 32 ∨ bt s (i : Int) > 126) by omega)]
              simp only [spoolref48_Unquote.j3]
              rw [if_neg Bool.false_ne_true, if_pos (by omega), if_pos (by omega), if_neg h92, if_pos (show acc.length < 140737488355328 by omega), wrap_in (by omega) (by omega)]
              exact ih (k + 2) (i + 1) _ (by omega) (by omega) (by simp; omega) (by omega)
    · rw [if_neg (show ¬ (i : Int) < (s.size : Int) by omega), if_neg Bool.false_ne_true, if_pos (by omega), if_neg hlt, bad_R _ (by omega)]
theorem rUnquote_f (s : ByteArray) (hs : s.size ≤ 140737488351232) (i : Nat) (hi : i ≤ 140737488351232) (K : Nat) (hK : 5 * s.size + 40 ≤ K) : spoolref48_Unquote.f K s (i : Int) = some (asR (unqF s i)) := by
  obtain ⟨k, rfl⟩ : ∃ m, K = m + 1 := ⟨K - 1, by omega⟩
  unfold spoolref48_Unquote.f unqF
  simp only [spoolref48_Unquote.j0]
  by_cases hlt : s.size ≤ i
  · rw [if_pos (by omega)]
    simp only [if_true]
    rw [if_pos (show s.size ≤ i ∨ bt s (i : Int) ≠ 34 from .inl hlt), bad_R _ (by omega)]
  · rw [if_neg (by omega), if_pos (by omega), if_pos (by omega)]
    by_cases h34 : bt s (i : Int) = 34
    · rw [show (bt s (i : Int) != 34) = false from bne_eq_false_iff_eq.mpr h34, if_neg (by simp), if_neg (by omega), wrap_in (by omega) (by omega)]
      exact rUnquote_l0 s hs s.size k (i + 1) [] (by omega) (by omega) (by simp) (by omega)
    · rw [show (bt s (i : Int) != 34) = true from bne_iff_ne.mpr h34]
      simp only [if_true]
      rw [if_pos (show s.size ≤ i ∨ bt s (i : Int) ≠ 34 from .inr h34), bad_R _ (by omega)]
end Go.Proofs.YtifcpamliidabaaDoor.PfU

/- What the functions on words tell, by the plain words of a line. -/
set_option linter.unusedSimpArgs false
set_option linter.unusedVariables false
namespace Go.Proofs.YtifcpamliidabaaDoor.PfW
open Go.RowKit Go.Proofs.YtifcpamliidabaaDoor.PS Go.Proofs.YtifcpamliidabaaDoorW.PrintWords Go.Proofs.YtifcpamliidabaaDoorW.PrintLast Go.Proofs.YtifcpamliidabaaDoor.Pl
theorem wrap_in {i : Int} (h0 : -9223372036854775808 ≤ i) (h1 : i ≤ 9223372036854775807) : wrap64 i = i := by
  unfold wrap64
  omega
theorem blank_f (c : Int) : words_Blank.f c = some (bl c) := by
  unfold words_Blank.f bl
  split <;> simp_all
theorem nb_f (c : Int) : words_Next_1.f c = some (nb c) := by
  unfold words_Next_1.f
  rw [blank_f]
  rfl
theorem span_bl (s : ByteArray) (hs : s.size ≤ 140737488351232) (d : Nat) : ∀ (k i : Nat), s.size - i ≤ d → i ≤ s.size → d < k → words_span_words_Blank.l0 k s (i : Int) = some (run bl s i : Int) := by
  induction d with
  | zero =>
    intro k i hd hi hk
    obtain ⟨k, rfl⟩ : ∃ m, k = m + 1 := ⟨k - 1, by omega⟩
    simp only [words_span_words_Blank.l0]
    rw [if_neg (by omega), run_end (by omega)]
  | succ d ih =>
    intro k i hd hi hk
    obtain ⟨k, rfl⟩ : ∃ m, k = m + 1 := ⟨k - 1, by omega⟩
    simp only [words_span_words_Blank.l0]
    by_cases hlt : i < s.size
    · rw [if_pos (by omega), if_pos (by omega), blank_f]
      simp only [Option.bind_some]
      cases hp : bl (bt s (i : Int)) with
      | true => rw [if_pos rfl, wrap_in (by omega) (by omega), run_next hlt hp]; exact ih k (i + 1) (by omega) (by omega) (by omega)
      | false => rw [if_neg (by simp), run_here hlt hp]
    · rw [if_neg (by omega), run_end (by omega)]
theorem span_nb (s : ByteArray) (hs : s.size ≤ 140737488351232) (d : Nat) : ∀ (k i : Nat), s.size - i ≤ d → i ≤ s.size → d < k → words_span_words_Next_1.l0 k s (i : Int) = some (run nb s i : Int) := by
  induction d with
  | zero =>
    intro k i hd hi hk
    obtain ⟨k, rfl⟩ : ∃ m, k = m + 1 := ⟨k - 1, by omega⟩
    simp only [words_span_words_Next_1.l0]
    rw [if_neg (by omega), run_end (by omega)]
  | succ d ih =>
    intro k i hd hi hk
    obtain ⟨k, rfl⟩ : ∃ m, k = m + 1 := ⟨k - 1, by omega⟩
    simp only [words_span_words_Next_1.l0]
    by_cases hlt : i < s.size
    · rw [if_pos (by omega), if_pos (by omega), nb_f]
      simp only [Option.bind_some]
      cases hp : nb (bt s (i : Int)) with
      | true => rw [if_pos rfl, wrap_in (by omega) (by omega), run_next hlt hp]; exact ih k (i + 1) (by omega) (by omega) (by omega)
      | false => rw [if_neg (by simp), run_here hlt hp]
    · rw [if_neg (by omega), run_end (by omega)]

theorem span_bl_f (s : ByteArray) (hs : s.size ≤ 140737488351232) (k : Nat) (hk : s.size < k) : words_span_words_Blank.f k s = some (run bl s 0 : Int) :=
  span_bl s hs s.size k 0 (by omega) (by omega) hk
theorem span_nb_f (s : ByteArray) (hs : s.size ≤ 140737488351232) (k : Nat) (hk : s.size < k) : words_span_words_Next_1.f k s = some (run nb s 0 : Int) :=
  span_nb s hs s.size k 0 (by omega) (by omega) hk
/-- The next word from a byte on, in a text that isn't too long. -/
theorem next_f (s : ByteArray) (hs : s.size ≤ 140737488351232) (i : Nat) (hi : i ≤ s.size) (k : Nat) (hk : s.size < k) (j : Int) (hj : mn (mx j 0) (s.size : Int) = (i : Int)) : words_Next.f k s j = some ((fromW s i : Int), (toW s i : Int)) := by
  have h1 := fromW_le s i hi
  have h2 := fromW_ge s i
  have h3 := toW_ge s i
  have h4 := toW_le s i hi
  unfold words_Next.f
  rw [hj, if_pos (by omega), if_pos (by omega), Int.toNat_natCast]
  have r1 := run_from bl s i hi _ 0 rfl (by omega)
  have r1' : i + run bl (s.extract i s.size) 0 = fromW s i := r1
  rw [span_bl_f _ (by rw [size_from]; omega) k (by rw [size_from]; omega), Option.bind_some]
  rw [show wrap64 ((i : Int) + (run bl (s.extract i s.size) 0 : Int)) = (fromW s i : Int) by rw [wrap_in (by omega) (by omega)]; omega, if_pos (by omega), if_pos (by omega), Int.toNat_natCast]
  have r2 := run_from nb s (fromW s i) h1 _ 0 rfl (by omega)
  have r2' : fromW s i + run nb (s.extract (fromW s i) s.size) 0 = toW s i := r2
  rw [span_nb_f _ (by rw [size_from]; omega) k (by rw [size_from]; omega), Option.bind_some]
  rw [show wrap64 ((fromW s i : Int) + (run nb (s.extract (fromW s i) s.size) 0 : Int)) = (toW s i : Int) by rw [wrap_in (by omega) (by omega)]; omega]

/-! ### the reference's -/
theorem rblank_f (c : Int) : spoolref48_Blank.f c = some (bl c) := by
  unfold spoolref48_Blank.f bl
  split <;> simp_all
theorem rNext_l1 (s : ByteArray) (hs : s.size ≤ 140737488351232) (a : Int) (d : Nat) : ∀ (k i : Nat), s.size - i ≤ d → i ≤ s.size → d < k → spoolref48_Next.l1 k s a (i : Int) = some (a, (run nb s i : Int)) := by
  induction d with
  | zero =>
    intro k i hd hi hk
    obtain ⟨k, rfl⟩ : ∃ m, k = m + 1 := ⟨k - 1, by omega⟩
    simp only [spoolref48_Next.l1]
    rw [if_neg (by omega), run_end (by omega)]
  | succ d ih =>
    intro k i hd hi hk
    obtain ⟨k, rfl⟩ : ∃ m, k = m + 1 := ⟨k - 1, by omega⟩
    simp only [spoolref48_Next.l1]
    by_cases hlt : i < s.size
    · rw [if_pos (by omega), if_pos (by omega), rblank_f]
      simp only [Option.bind_some]
      cases hp : bl (bt s (i : Int)) with
      | true => rw [if_pos rfl, run_here hlt (nb_not hp)]
      | false => rw [if_neg (by simp), wrap_in (by omega) (by omega), run_next hlt (nb_of hp)]; exact ih k (i + 1) (by omega) (by omega) (by omega)
    · rw [if_neg (by omega), run_end (by omega)]
theorem rNext_l0 (s : ByteArray) (hs : s.size ≤ 140737488351232) (d : Nat) : ∀ (k i : Nat), s.size - i ≤ d → i ≤ s.size → d + s.size + 3 ≤ k → spoolref48_Next.l0 k s (i : Int) = some ((fromW s i : Int), (toW s i : Int)) := by
  have go : ∀ (k i : Nat), i ≤ s.size → s.size + 2 ≤ k → run bl s i = i → spoolref48_Next.j1 k s (i : Int) = some ((fromW s i : Int), (toW s i : Int)) := by
    intro k i hi hk hr
    obtain ⟨k, rfl⟩ : ∃ m, k = m + 1 := ⟨k - 1, by omega⟩
    simp only [spoolref48_Next.j1]
    rw [rNext_l1 s hs i s.size k i (by omega) hi (by omega)]
    unfold toW fromW
    rw [hr]
  induction d with
  | zero =>
    intro k i hd hi hk
    obtain ⟨k, rfl⟩ : ∃ m, k = m + 1 := ⟨k - 1, by omega⟩
    simp only [spoolref48_Next.l0]
    rw [if_neg (by omega)]
    exact go k i hi (by omega) (run_end (by omega))
  | succ d ih =>
    intro k i hd hi hk
    obtain ⟨k, rfl⟩ : ∃ m, k = m + 1 := ⟨k - 1, by omega⟩
    simp only [spoolref48_Next.l0]
    by_cases hlt : i < s.size
    · rw [if_pos (by omega), if_pos (by omega), rblank_f]
      simp only [Option.bind_some]
      cases hp : bl (bt s (i : Int)) with
      | true =>
        rw [if_pos rfl, wrap_in (by omega) (by omega)]
        have := ih k (i + 1) (by omega) (by omega) (by omega)
        have e : run bl s i = run bl s (i + 1) := run_next hlt hp
        unfold toW fromW at this ⊢
        rw [e]
        exact this
      | false => rw [if_neg (by simp)]; exact go k i hi (by omega) (run_here hlt hp)
    · rw [if_neg (by omega)]
      exact go k i hi (by omega) (run_end (by omega))
theorem rNext_f (s : ByteArray) (hs : s.size ≤ 140737488351232) (i : Nat) (hi : i ≤ s.size) (k : Nat) (hk : 2 * s.size + 3 ≤ k) : spoolref48_Next.f k s (i : Int) = some ((fromW s i : Int), (toW s i : Int)) :=
  rNext_l0 s hs s.size k i (by omega) hi (by omega)
end Go.Proofs.YtifcpamliidabaaDoor.PfW

/- What reading a number, an operation and a line tells: the program and the reference at one. -/
set_option linter.unusedSimpArgs false
set_option linter.unusedVariables false
namespace Go.Proofs.YtifcpamliidabaaDoor.PfO
open Go.RowKit Go.Proofs.YtifcpamliidabaaDoor.PS Go.Proofs.YtifcpamliidabaaDoorW.PrintWords Go.Proofs.YtifcpamliidabaaDoorW.PrintLast Go.Proofs.YtifcpamliidabaaDoor.PlD Go.Proofs.YtifcpamliidabaaDoor.PfD Go.Proofs.YtifcpamliidabaaDoor.PfU Go.Proofs.YtifcpamliidabaaDoor.Pl Go.Proofs.YtifcpamliidabaaDoor.PfW Go.Proofs.YtifcpamliidabaaDoor.HandKind Go.Proofs.YtifcpamliidabaaDoor.HandRd Go.Proofs.YtifcpamliidabaaDoor.HandOpM Go.Proofs.YtifcpamliidabaaDoor.HandItem Go.Proofs.YtifcpamliidabaaDoor.HandParse
theorem str_eq {s t : ByteArray} : s.toList = t.toList ↔ s = t := by
  rw [ByteArray.toList_eq, ByteArray.toList_eq]
  constructor
  · intro h
    have h2 : s.data = t.data := Array.toList_inj.1 h
    cases s; cases t; simp_all
  · intro h; rw [h]
/-! ### kinds -/
theorem Kind_l0 (w : ByteArray) (l : List ByteArray) (hl : l.length ≤ 100) (d : Nat) : ∀ (K j : Nat), l.length - j ≤ d → j ≤ l.length → d < K → spoolref48_Kind.l0 K w l (j : Int) = some ((findL (l.drop j) (j + 1) w : Nat) : Int) := by
  induction d with
  | zero =>
    intro K j hd hj hK
    obtain ⟨k, rfl⟩ : ∃ m, K = m + 1 := ⟨K - 1, by omega⟩
    simp only [spoolref48_Kind.l0]
    rw [if_neg (by omega), List.drop_of_length_le (by omega)]
    rfl
  | succ d ih =>
    intro K j hd hj hK
    obtain ⟨k, rfl⟩ : ∃ m, K = m + 1 := ⟨K - 1, by omega⟩
    simp only [spoolref48_Kind.l0]
    by_cases hlt : j < l.length
    · rw [if_pos (by omega), if_pos (by omega), drop_at l j hlt]
      have e : rdOf ByteArray.empty l (j : Int) = at_ l j := by unfold rdOf at_; simp
      rw [e]
      unfold findL
      by_cases hx : (at_ l j).toList = w.toList
      · rw [if_pos hx, if_pos ⟨by omega, str_eq.1 hx⟩, PlD.wrap_in (by omega) (by omega)]
        rfl
      · rw [if_neg hx, if_neg (fun h => hx (str_eq.2 h.2)), PlD.wrap_in (by omega) (by omega)]
        exact ih k (j + 1) (by omega) (by omega) (by omega)
    · rw [if_neg (by omega), List.drop_of_length_le (by omega)]
      rfl
theorem Kind_f (w : ByteArray) (K : Nat) (hK : 12 ≤ K) : spoolref48_Kind.f K w = some (kindF w) := by
  unfold spoolref48_Kind.f
  have := Kind_l0 w (tab_script_names.drop 1) (by decide) 9 K 0 (by decide) (by omega) (by omega)
  rw [List.drop_zero] at this
  exact this
theorem Numbered_f (k : Int) : spoolref48_Numbered.f k = script_numbered.f k := by
  unfold spoolref48_Numbered.f script_numbered.f
  split; rfl; split; rfl; split; rfl
  split
  · rename_i h; rw [h]; rfl
  · rename_i h; rw [beq_eq_false_iff_ne.mpr h]
/-! ### words -/
theorem word_f (s : ByteArray) (hs : s.size ≤ 140737488351232) (i : Nat) (hi : i ≤ s.size) (K : Nat) (hK : 2 * s.size + 3 ≤ K) : wordF K s (i : Int) = some (s.extract (fromW s i) (toW s i), (fromW s i : Int), (toW s i : Int)) := by
  unfold wordF
  rw [next_f s hs i hi K (by omega) (i : Int) (by unfold mn mx; repeat' split <;> omega), Option.bind_some]
  have := toW_le s i hi
  have := toW_ge s i
  simp only
  rw [if_pos (by omega), Int.toNat_natCast, Int.toNat_natCast]
theorem word_nil (s : ByteArray) (a b : Nat) (h : a ≤ b) (hb : b ≤ s.size) : (s.extract a b).toList = ([] : List UInt8) ↔ a = b := by
  rw [L_nil]
  constructor
  · intro e
    have := L_len (s.extract a b)
    rw [e] at this
    simp at this
    omega
  · intro e
    refine List.eq_nil_of_length_eq_zero ?_
    rw [L_len]
    simp
    omega
/-- What is wrong first. -/
def merge (e ea E A : Int) : Int × Int := if e = 0 then (if E = 0 then (e, ea) else (E, A)) else (e, ea)
theorem merge_wrong {e ea E A : Int} (h : E ≠ 0) : wrongF e ea E A = merge e ea E A := by unfold wrongF merge; rw [if_neg h]
theorem merge_none (e ea A : Int) : merge e ea 0 A = (e, ea) := by unfold merge; split <;> simp
theorem num_eq (s : ByteArray) (hs : s.size ≤ 140737488351232) (i : Nat) (hi : i ≤ s.size) (K K2 : Nat) (hK : 5 * s.size + 60 ≤ K) (hK2 : 5 * s.size + 60 ≤ K2) (e ea : Int) :
    ∃ (n n' to' E A : Int) (t : Nat), spoolref48_Number.f K s (i : Int) = some (n', to', E, A) ∧ numberF K2 s (i : Int) e ea = some (n, (t : Int), merge e ea E A) ∧ t ≤ s.size ∧ (E = 0 → n = n' ∧ (t : Int) = to') ∧ 0 ≤ A ∧ A ≤ (s.size : Int) := by
  have h1 := toW_le s i hi
  have h2 := toW_ge s i
  unfold spoolref48_Number.f numberF
  rw [rNext_f s hs i hi K (by omega), word_f s hs i hi K2 (by omega)]
  simp only [Option.bind_some]
  have hsz : (s.extract (fromW s i) (toW s i)).size ≤ s.size := by simp; omega
  rw [Parse_f _ (by omega) K2 (by omega)]
  simp only [Option.bind_some]
  by_cases hab : fromW s i = toW s i
  · rw [if_pos (by omega), if_pos ((word_nil s _ _ h2 h1).2 hab)]
    exact ⟨_, _, _, _, _, _, rfl, by rw [merge_wrong (by decide)], h1, fun h => absurd h (by decide), by omega, by omega⟩
  · rw [if_neg (by omega), if_neg (fun h => hab ((word_nil s _ _ h2 h1).1 h)), if_pos (by omega), if_pos (by omega), if_pos (by omega), Int.toNat_natCast, Int.toNat_natCast, rParse_f _ (by omega) K (by omega), Option.bind_some]
    cases hp : (parseL (L (s.extract (fromW s i) (toW s i)))).2 with
    | true =>
      rw [if_pos rfl, if_neg (by simp)]
      exact ⟨_, _, _, _, _, _, rfl, by rw [merge_none], h1, fun _ => ⟨rfl, rfl⟩, by omega, by omega⟩
    | false =>
      rw [if_neg (by simp), if_pos rfl]
      exact ⟨_, _, _, _, _, _, rfl, by rw [merge_wrong (by decide)], h1, fun h => absurd h (by decide), by omega, by omega⟩
theorem unqN_to (s : ByteArray) (d : Nat) : ∀ (acc : List Int) (i : Nat), ((unqN s d acc i).2.2 < 0 → ∃ t : Nat, (unqN s d acc i).2.1 = (t : Int) ∧ t ≤ s.size) ∧ (unqN s d acc i).2.2 ≤ (s.size : Int) := by
  induction d with
  | zero => intro acc i; exact ⟨fun h => by simp [unqN] at h; omega, by simp [unqN]⟩
  | succ d ih =>
    intro acc i
    unfold unqN
    split
    · split
      · exact ⟨fun _ => ⟨i + 1, by simp, by omega⟩, by simp⟩
      · split
        · split
          · exact ⟨fun h => by simp at h; omega, by simp; omega⟩
          · exact ih _ _
        · split
          · exact ⟨fun h => by simp at h; omega, by simp; omega⟩
          · exact ih _ _
    · exact ⟨fun h => by simp at h; omega, by simp⟩
theorem unqF_to (s : ByteArray) (i : Nat) (hi : i ≤ s.size) : ((unqF s i).2.2 < 0 → ∃ t : Nat, (unqF s i).2.1 = (t : Int) ∧ t ≤ s.size) ∧ (unqF s i).2.2 ≤ (s.size : Int) := by
  unfold unqF
  split
  · exact ⟨fun h => by simp at h; omega, by simp; omega⟩
  · exact unqN_to s _ _ _
theorem op_eq (s : ByteArray) (hs : s.size ≤ 140737488351232) (i : Nat) (hi : i ≤ s.size) (K K2 : Nat) (hK : 5 * s.size + 60 ≤ K) (hK2 : 5 * s.size + 60 ≤ K2) (e ea : Int) :
    ∃ (k n k' n' to' E A : Int) (d d' : ByteArray) (t : Nat), spoolref48_Op.f K s (i : Int) = some (k', n', d', to', E, A) ∧ opF K2 s (i : Int) e ea = some (k, n, d, (t : Int), merge e ea E A) ∧ t ≤ s.size ∧ (E = 0 → k = k' ∧ n = n' ∧ d = d' ∧ (t : Int) = to') ∧ 0 ≤ A ∧ A ≤ (s.size : Int) := by
  have h1 := toW_le s i hi
  have h2 := toW_ge s i
  unfold spoolref48_Op.f opF
  rw [rNext_f s hs i hi K (by omega), word_f s hs i hi K2 (by omega)]
  simp only [Option.bind_some]
  rw [if_pos (by omega), if_pos (by omega), if_pos (by omega), Int.toNat_natCast, Int.toNat_natCast, Kind_f _ K (by omega), Option.bind_some]
  by_cases k0 : kindF (s.extract (fromW s i) (toW s i)) = 0
  · rw [if_pos k0, if_pos k0]
    exact ⟨_, _, _, _, _, _, _, _, _, _, rfl, by rw [merge_wrong (by decide)], h1, fun h => absurd h (by decide), by omega, by omega⟩
  · rw [if_neg k0, if_neg k0]
    by_cases k1 : kindF (s.extract (fromW s i) (toW s i)) = 1
    · rw [if_pos k1, if_pos k1]
      have g1 := fromW_le s (toW s i) h1
      have hu := unqF_to s (fromW s (toW s i)) g1
      unfold dataF
      rw [rNext_f s hs _ h1 K (by omega), next_f s hs _ h1 K2 (by omega) _ (by unfold mn mx; repeat' split <;> omega)]
      simp only [Option.bind_some]
      rw [rUnquote_f s hs _ (by omega) K (by omega), Unquote_f s hs _ (by omega) K2 (by omega)]
      simp only [Option.bind_some]
      by_cases hb : (unqF s (fromW s (toW s i))).2.2 < 0
      · obtain ⟨t, ht, ht2⟩ := hu.1 hb
        have eP : asP (unqF s (fromW s (toW s i))) = (strOfNums (unqF s (fromW s (toW s i))).1, (t : Int), 0, 0) := by unfold asP; rw [if_pos hb, ht]
        have eR : asR (unqF s (fromW s (toW s i))) = (strOfNums (unqF s (fromW s (toW s i))).1, (t : Int), -1) := by unfold asR; rw [if_pos hb, ht]
        rw [eP, eR]
        simp only
        rw [if_neg (by omega), if_pos trivial]
        exact ⟨_, _, _, _, _, _, _, _, _, _, rfl, by rw [merge_none], ht2, fun _ => ⟨rfl, rfl, rfl, rfl⟩, by omega, by omega⟩
      · have eP : asP (unqF s (fromW s (toW s i))) = (⟨#[]⟩, 0, 3, (unqF s (fromW s (toW s i))).2.2) := by unfold asP; rw [if_neg hb]
        have eR : asR (unqF s (fromW s (toW s i))) = (⟨#[]⟩, 0, (unqF s (fromW s (toW s i))).2.2) := by unfold asR; rw [if_neg hb]
        rw [eP, eR]
        simp only
        rw [if_pos (by omega), if_neg (by decide)]
        exact ⟨_, _, _, _, _, _, _, _, _, _, rfl, by rw [merge_wrong (by decide)], h1, fun h => absurd h (by decide), by omega, hu.2⟩
    · rw [if_neg k1, if_neg k1, Numbered_f]
      have hn : ∃ b, script_numbered.f (kindF (s.extract (fromW s i) (toW s i))) = some b := by
        unfold script_numbered.f
        repeat' split
        all_goals exact ⟨_, rfl⟩
      obtain ⟨b, hb⟩ := hn
      rw [hb]
      simp only [Option.bind_some]
      cases b with
      | true =>
        rw [if_pos rfl, if_pos rfl]
        obtain ⟨n, n', to', E, A, t, q1, q2, q3, q4, q5, q6⟩ := num_eq s hs (toW s i) h1 K K2 hK hK2 e ea
        rw [q1, q2]
        simp only [Option.bind_some]
        by_cases hE : E = 0
        · rw [if_pos hE]
          obtain ⟨r1, r2⟩ := q4 hE
          exact ⟨_, _, _, _, _, _, _, _, _, _, rfl, by rw [hE, merge_none, merge_none], q3, fun _ => ⟨rfl, r1, rfl, r2⟩, by omega, by omega⟩
        · rw [if_neg hE]
          exact ⟨_, _, _, _, _, _, _, _, _, _, rfl, rfl, q3, fun h => absurd h hE, q5, q6⟩
      | false =>
        rw [if_neg (by simp), if_neg (by simp)]
        exact ⟨_, _, _, _, _, _, _, _, _, _, rfl, by rw [merge_none], h1, fun _ => ⟨rfl, rfl, rfl, rfl⟩, by omega, by omega⟩
end Go.Proofs.YtifcpamliidabaaDoor.PfO

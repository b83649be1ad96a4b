/- What telling data tells: the program and the reference at one; and data are read back. -/
import Derived.Test.YtifcpamliidabaaDoorPfU
import Derived.Test.YtifcpamliidabaaDoorPfT
import Derived.Test.YtifcpamliidabaaDoorPSx21
import Derived.Test.YtifcpamliidabaaDoorHandQuote
set_option linter.unusedSimpArgs false
set_option linter.unusedVariables false
namespace Go.Proofs.YtifcpamliidabaaDoor.PfQ
open Go.RowKit Go.Proofs.YtifcpamliidabaaDoor.PS Go.Proofs.YtifcpamliidabaaDoorW.PrintWords Go.Proofs.YtifcpamliidabaaDoorW.PrintLast Go.Proofs.YtifcpamliidabaaDoor.PlD Go.Proofs.YtifcpamliidabaaDoor.PfD Go.Proofs.YtifcpamliidabaaDoor.PfU Go.Proofs.YtifcpamliidabaaDoor.HandQuote
def sixteen : ByteArray := ⟨#[48, 49, 50, 51, 52, 53, 54, 55, 56, 57, 97, 98, 99, 100, 101, 102]⟩
theorem sixteen_at : ∀ n : Fin 16, L (sixteen.extract n.val (n.val + 1)) = [hexd ((n.val : Nat) : Int)] := by decide +kernel
theorem L_one (s : ByteArray) (i : Nat) (h : i < s.size) : L (s.extract i (i + 1)) = [bt s (i : Int)] := by
  have hz : (s.extract i (i + 1)).size = 1 := by simp; omega
  have h0 := L_drop (s.extract i (i + 1)) 0 (by omega)
  rw [List.drop_zero] at h0
  rw [h0, List.drop_of_length_le (by rw [L_len]; omega)]
  have e := bt_sub s i (i + 1) 0 (by omega) (by omega)
  rw [e, Nat.add_zero]
theorem quoteB_esc {c : Int} (h : c = 34 ∨ c = 92) : quoteB c = [92, c] := by unfold quoteB; rw [if_pos h]
theorem quoteB_hex {c : Int} (h : c < 32 ∨ 126 < c) : quoteB c = [92, 120, hexd (c / 16), hexd (c % 16)] := by unfold quoteB; rw [if_neg (by omega), if_pos h]
theorem quoteB_one {c : Int} (h1 : ¬ (c = 34 ∨ c = 92)) (h2 : ¬ (c < 32 ∨ 126 < c)) : quoteB c = [c] := by unfold quoteB; rw [if_neg h1, if_neg h2]
set_option maxHeartbeats 1000000 in
theorem rQuote_l0 (s : ByteArray) (hs : s.size ≤ 10000000) (d : Nat) : ∀ (K i : Nat) (acc : ByteArray), s.size - i ≤ d → i ≤ s.size → acc.size ≤ 4 * i + 1 → 2 * d + 2 ≤ K →
    ∃ r, spoolref48_Quote.l0 K s sixteen acc (i : Int) = some r ∧ L r = L acc ++ ((L s).drop i).flatMap quoteB ++ [34] := by
  induction d with
  | zero =>
    intro K i acc hd hi ha hK
    obtain ⟨k, rfl⟩ : ∃ m, K = m + 1 := ⟨K - 1, by omega⟩
    simp only [spoolref48_Quote.l0]
    rw [if_neg (by omega), if_pos (by omega), List.drop_of_length_le (by rw [L_len]; omega)]
    exact ⟨_, rfl, by rw [L_append]; simp; rfl⟩
  | succ d ih =>
    intro K i acc hd hi ha hK
    obtain ⟨k, rfl⟩ : ∃ m, K = m + 2 := ⟨K - 2, by omega⟩
    simp only [spoolref48_Quote.l0]
    by_cases hlt : i < s.size
    · have hb := bt_r s (i : Int)
      have w1 : wrap64 ((i : Int) + 1) = ((i + 1 : Nat) : Int) := by rw [PlD.wrap_in (by omega) (by omega)]; omega
      have l1 := L_one s i hlt
      have z1 : (s.extract i (i + 1)).size = 1 := by rw [← L_len, l1]; rfl
      rw [if_pos (by omega), if_pos (by omega), L_drop s i hlt, List.flatMap_cons]
      by_cases hq : bt s (i : Int) = 34 ∨ bt s (i : Int) = 92
      · have hj : (if bt s (i : Int) = 34 then spoolref48_Quote.j1 (k + 1) s sixteen acc (i : Int) (bt s (i : Int)) true else spoolref48_Quote.j1 (k + 1) s sixteen acc (i : Int) (bt s (i : Int)) (bt s (i : Int) == 92)) = spoolref48_Quote.j1 (k + 1) s sixteen acc (i : Int) (bt s (i : Int)) true := by
          by_cases h : bt s (i : Int) = 34
          · rw [if_pos h]
          · rw [if_neg h, beq_iff_eq.mpr (hq.resolve_left h)]
        rw [hj]
        simp only [spoolref48_Quote.j1]
        have z2 : (acc ++ (⟨#[92]⟩ : ByteArray)).size = acc.size + 1 := by rw [ByteArray.size_append]; rfl
        rw [if_pos trivial, w1, Int.toNat_natCast, Int.toNat_natCast, z1, z2, if_pos (by omega), if_pos (by omega), if_pos (by omega), if_pos (by omega), if_pos (by omega)]
        obtain ⟨r, h1, h2⟩ := ih k (i + 1) (acc ++ (⟨#[92]⟩ : ByteArray) ++ s.extract i (i + 1)) (by omega) (by omega) (by rw [ByteArray.size_append, z1, z2]; omega) (by omega)
        refine ⟨r, h1, ?_⟩
        rw [h2, L_append, L_append, l1, quoteB_esc hq]
        simp [L]
      · have hj : (if bt s (i : Int) = 34 then spoolref48_Quote.j1 (k + 1) s sixteen acc (i : Int) (bt s (i : Int)) true else spoolref48_Quote.j1 (k + 1) s sixteen acc (i : Int) (bt s (i : Int)) (bt s (i : Int) == 92)) = spoolref48_Quote.j1 (k + 1) s sixteen acc (i : Int) (bt s (i : Int)) false := by
          rw [if_neg (fun h => hq (.inl h)), beq_eq_false_iff_ne.mpr (fun h => hq (.inr h))]
        rw [hj]
        simp only [spoolref48_Quote.j1]
        rw [if_neg Bool.false_ne_true]
        obtain ⟨c, hc⟩ : ∃ c : Nat, bt s (i : Int) = (c : Int) := ⟨(bt s (i : Int)).toNat, by omega⟩
        rw [hc] at hb l1 hq ⊢
        by_cases hx : (c : Int) < 32 ∨ 126 < (c : Int)
        · have t1 : Int.tdiv (c : Int) 16 % 256 = ((c / 16 : Nat) : Int) := by
            rw [show Int.tdiv (c : Int) 16 = ((c / 16 : Nat) : Int) from rfl]; omega
          have t2 : Int.tmod (c : Int) 16 = ((c % 16 : Nat) : Int) := rfl
          have t3 : (((c / 16 : Nat) : Int) + 1) % 256 = ((c / 16 + 1 : Nat) : Int) := by omega
          have t4 : (((c % 16 : Nat) : Int) + 1) % 256 = ((c % 16 + 1 : Nat) : Int) := by omega
          have y1 := sixteen_at ⟨c / 16, by omega⟩
          have y2 := sixteen_at ⟨c % 16, by omega⟩
          simp only at y1 y2
          have v1 : (sixteen.extract (c / 16) (c / 16 + 1)).size = 1 := by rw [← L_len, y1]; rfl
          have v2 : (sixteen.extract (c % 16) (c % 16 + 1)).size = 1 := by rw [← L_len, y2]; rfl
          have v3 : (acc ++ (⟨#[92, 120]⟩ : ByteArray)).size = acc.size + 2 := by rw [ByteArray.size_append]; rfl
          have v4 : (acc ++ (⟨#[92, 120]⟩ : ByteArray) ++ sixteen.extract (c / 16) (c / 16 + 1)).size = acc.size + 3 := by rw [ByteArray.size_append, v3, v1]
          have vs : sixteen.size = 16 := rfl
          rw [t1, t2, t3, t4, w1]
          simp only [Int.toNat_natCast]
          rw [v1, v2, v3, v4, vs]
          have hgo : ∃ r, spoolref48_Quote.l0 k s sixteen (acc ++ (⟨#[92, 120]⟩ : ByteArray) ++ sixteen.extract (c / 16) (c / 16 + 1) ++ sixteen.extract (c % 16) (c % 16 + 1)) ((i + 1 : Nat) : Int) = some r ∧ L r = L acc ++ (quoteB (c : Int) ++ ((L s).drop (i + 1)).flatMap quoteB) ++ [34] := by
            obtain ⟨r, h1, h2⟩ := ih k (i + 1) (acc ++ (⟨#[92, 120]⟩ : ByteArray) ++ sixteen.extract (c / 16) (c / 16 + 1) ++ sixteen.extract (c % 16) (c % 16 + 1)) (by omega) (by omega) (by rw [ByteArray.size_append, v4, v2]; omega) (by omega)
            refine ⟨r, h1, ?_⟩
            rw [h2, L_append, L_append, L_append, y1, y2, quoteB_hex hx]
            simp [L]
          by_cases h32 : (c : Int) ≥ 32
          · rw [if_pos h32, if_neg (by omega), if_pos (by omega), if_pos (by omega), if_pos (by omega), if_pos (by omega), if_pos (by omega), if_pos (by omega), if_pos (by omega), if_pos (by omega), if_pos (by omega)]
            exact hgo
          · rw [if_neg h32, if_pos (by omega), if_pos (by omega), if_pos (by omega), if_pos (by omega), if_pos (by omega), if_pos (by omega), if_pos (by omega), if_pos (by omega), if_pos (by omega)]
            exact hgo
        · rw [w1, Int.toNat_natCast, Int.toNat_natCast, z1, if_pos (by omega), if_pos (by omega), if_pos (by omega), if_pos (by omega), if_pos (by omega), if_pos (by omega)]
          obtain ⟨r, h1, h2⟩ := ih k (i + 1) (acc ++ s.extract i (i + 1)) (by omega) (by omega) (by rw [ByteArray.size_append, z1]; omega) (by omega)
          refine ⟨r, h1, ?_⟩
          rw [h2, L_append, l1, quoteB_one hq hx]
          simp
    · rw [if_neg (by omega), if_pos (by omega), List.drop_of_length_le (by rw [L_len]; omega)]
      exact ⟨_, rfl, by rw [L_append]; simp; rfl⟩
/-- A text's data. -/
def quoteN (s : ByteArray) : List Int := 34 :: ((L s).flatMap quoteB ++ [34])
theorem rQuote_f (s : ByteArray) (hs : s.size ≤ 10000000) (K : Nat) (hK : 2 * s.size + 2 ≤ K) : ∃ r, spoolref48_Quote.f K s = some r ∧ L r = quoteN s := by
  unfold spoolref48_Quote.f
  obtain ⟨r, h1, h2⟩ := rQuote_l0 s hs s.size K 0 (⟨#[34]⟩ : ByteArray) (by omega) (by omega) (by decide) hK
  exact ⟨r, h1, by rw [h2, List.drop_zero]; rfl⟩
theorem hexd_range (d : Int) (h0 : 0 ≤ d) (h1 : d < 16) : 48 ≤ hexd d ∧ hexd d ≤ 102 := by unfold hexd; split <;> omega
theorem quoteB_range (c : Int) (h0 : 0 ≤ c) (h1 : c < 256) : ∀ x ∈ quoteB c, 32 ≤ x ∧ x ≤ 126 := by
  have a := hexd_range (c / 16) (by omega) (by omega)
  have b := hexd_range (c % 16) (by omega) (by omega)
  unfold quoteB
  intro x hx
  split at hx
  · simp at hx; omega
  · split at hx
    · simp at hx; omega
    · simp at hx; omega
theorem quoteN_range (s : ByteArray) : ∀ x ∈ quoteN s, 32 ≤ x ∧ x ≤ 126 := by
  intro x hx
  unfold quoteN at hx
  simp only [List.mem_cons, List.mem_append, List.mem_flatMap, List.not_mem_nil, or_false] at hx
  rcases hx with h | ⟨c, hc, h⟩ | h
  · omega
  · have := L_byte s c hc
    exact quoteB_range c this.1 this.2 x h
  · omega
theorem Quote_f (s : ByteArray) (hs : s.size ≤ 10000000) : ∃ r, script_Quote.f s = some r ∧ L r = quoteN s := by
  unfold script_Quote.f
  rw [if_pos hs]
  refine ⟨_, rfl, ?_⟩
  have e : quoteL s = quoteN s := rfl
  rw [e]
  exact L_nums _ (fun x hx => by have := quoteN_range s x hx; omega)
end Go.Proofs.YtifcpamliidabaaDoor.PfQ

/- What reading data tells, by a plain function. -/
import Derived.Test.YtifcpamliidabaaDoorPfD
import Derived.Test.YtifcpamliidabaaDoorPSx0
set_option linter.unusedSimpArgs false
set_option linter.unusedVariables false
namespace Go.Proofs.YtifcpamliidabaaDoor.PfU
open Go.RowKit Go.Proofs.YtifcpamliidabaaDoor.PS Go.Proofs.YtifcpamliidabaaDoorW.PrintWords Go.Proofs.YtifcpamliidabaaDoorW.PrintLast Go.Proofs.YtifcpamliidabaaDoor.PlD Go.Proofs.YtifcpamliidabaaDoor.PfD
/-- What stands for a byte that begins with a backslash, and how many bytes that are; 0: nothing. -/
def esc (s : ByteArray) (i : Nat) : Int × Nat :=
  if i + 1 < s.size ∧ (bt s ((i + 1 : Nat) : Int) = 34 ∨ bt s ((i + 1 : Nat) : Int) = 92) then (bt s ((i + 1 : Nat) : Int), 2)
  else if i + 3 < s.size ∧ bt s ((i + 1 : Nat) : Int) = 120 ∧ 0 ≤ value (bt s ((i + 2 : Nat) : Int)) ∧ 0 ≤ value (bt s ((i + 3 : Nat) : Int)) then (16 * value (bt s ((i + 2 : Nat) : Int)) + value (bt s ((i + 3 : Nat) : Int)), 4)
  else (0, 0)
theorem bt_sub (s : ByteArray) (a b k : Nat) (h : a + k < b) (hb : b ≤ s.size) : bt (s.extract a b) (k : Int) = bt s ((a + k : Nat) : Int) := by
  have h1 : k < (s.extract a b).size := by simp; omega
  unfold bt
  rw [dif_pos (by simpa using h1), dif_pos (by rw [Int.toNat_natCast]; omega)]
  simp only [Int.toNat_natCast, ByteArray.getElem_extract]
theorem L_two (s : ByteArray) (h : s.size = 2) : L s = [bt s 0, bt s 1] := by
  have h0 := L_drop s 0 (by omega)
  have h1 := L_drop s 1 (by omega)
  rw [List.drop_zero] at h0
  rw [h0, show (0 : Nat) + 1 = 1 from rfl, h1, List.drop_of_length_le (by rw [L_len]; omega)]
  rfl
set_option maxHeartbeats 2000000 in
theorem escaped_f (s : ByteArray) (hs : s.size ≤ 140737488351232) (i : Nat) (hi : i < s.size) (K : Nat) (hK : 20 ≤ K) : script_escaped.f K (s.extract i s.size) = some ((esc s i).1, ((esc s i).2 : Int)) := by
  obtain ⟨k, rfl⟩ : ∃ m, K = m + 2 := ⟨K - 2, by omega⟩
  have hz : (s.extract i s.size).size = s.size - i := by simp
  have b1 : i + 1 < s.size → bt (s.extract i s.size) 1 = bt s ((i + 1 : Nat) : Int) := fun h => bt_sub s i s.size 1 h (Nat.le_refl _)
  unfold script_escaped.f esc
  simp only [script_escaped.j0, script_escaped.j1]
  have j1 : ∀ b : Bool, i + 3 < s.size → b = (bt s ((i + 1 : Nat) : Int) == 120) → (if b = true then (if 2 ≤ 4 then (if 4 ≤ ((s.extract i s.size).size : Int) then ((digit_Hex.f k ((s.extract i s.size).extract 2 4)).bind fun bt110 => (if bt110.2 = true then (some ((bt110.1) % 256, 4)) else (some (0, 0)))) else (none)) else (none)) else (some (0, 0))) = (if bt s ((i + 1 : Nat) : Int) = 120 ∧ 0 ≤ value (bt s ((i + 2 : Nat) : Int)) ∧ 0 ≤ value (bt s ((i + 3 : Nat) : Int)) then some (16 * value (bt s ((i + 2 : Nat) : Int)) + value (bt s ((i + 3 : Nat) : Int)), (4 : Int)) else some (0, 0)) := by
    intro b h3 hb
    by_cases hc : bt s ((i + 1 : Nat) : Int) = 120
    · have hb' : b = true := by rw [hb, hc]; rfl
      rw [hb', if_pos rfl, if_pos (by decide), if_pos (by rw [hz]; omega), Hex_f _ (by simp; omega) _ (by omega), Option.bind_some]
      have e : (s.extract i s.size).extract 2 4 = s.extract (i + 2) (i + 4) := by
        rw [ByteArray.extract_extract]
        congr 1
        omega
      have hsz : (s.extract (i + 2) (i + 4)).size = 2 := by simp; omega
      have e0 : bt (s.extract (i + 2) (i + 4)) 0 = bt s ((i + 2 : Nat) : Int) := bt_sub s (i + 2) (i + 4) 0 (by omega) (by omega)
      have e1 : bt (s.extract (i + 2) (i + 4)) 1 = bt s ((i + 3 : Nat) : Int) := bt_sub s (i + 2) (i + 4) 1 (by omega) (by omega)
      rw [e, L_two _ hsz, e0, e1]
      have v2 := value_le (bt s ((i + 2 : Nat) : Int))
      have v3 := value_le (bt s ((i + 3 : Nat) : Int))
      have hP : hexP [bt s ((i + 2 : Nat) : Int), bt s ((i + 3 : Nat) : Int)] = if 0 ≤ value (bt s ((i + 2 : Nat) : Int)) ∧ 0 ≤ value (bt s ((i + 3 : Nat) : Int)) then (16 * value (bt s ((i + 2 : Nat) : Int)) + value (bt s ((i + 3 : Nat) : Int)), true) else (0, false) := by
        unfold hexP
        rw [if_neg (show ¬ ([bt s ((i + 2 : Nat) : Int), bt s ((i + 3 : Nat) : Int)] = [] ∨ [bt s ((i + 2 : Nat) : Int), bt s ((i + 3 : Nat) : Int)].length > 6) by simp)]
        simp only [hexL]
        by_cases a : value (bt s ((i + 2 : Nat) : Int)) < 0
        · rw [if_pos a, if_neg (show ¬ (0 ≤ value (bt s ((i + 2 : Nat) : Int)) ∧ 0 ≤ value (bt s ((i + 3 : Nat) : Int))) by omega)]
        · rw [if_neg a]
          by_cases b : value (bt s ((i + 3 : Nat) : Int)) < 0
          · rw [if_pos b, if_neg (show ¬ (0 ≤ value (bt s ((i + 2 : Nat) : Int)) ∧ 0 ≤ value (bt s ((i + 3 : Nat) : Int))) by omega)]
          · rw [if_neg b, if_pos (show (0 ≤ value (bt s ((i + 2 : Nat) : Int)) ∧ 0 ≤ value (bt s ((i + 3 : Nat) : Int))) by omega)]
            simp
      rw [hP]
      by_cases hh : 0 ≤ value (bt s ((i + 2 : Nat) : Int)) ∧ 0 ≤ value (bt s ((i + 3 : Nat) : Int))
      · rw [if_pos hh, if_pos (show bt s ((i + 1 : Nat) : Int) = 120 ∧ 0 ≤ value (bt s ((i + 2 : Nat) : Int)) ∧ 0 ≤ value (bt s ((i + 3 : Nat) : Int)) from ⟨hc, hh⟩)]
        simp only [if_true]
        rw [Int.emod_eq_of_lt (by omega) (by omega)]
      · rw [if_neg hh, if_neg (show ¬ (bt s ((i + 1 : Nat) : Int) = 120 ∧ 0 ≤ value (bt s ((i + 2 : Nat) : Int)) ∧ 0 ≤ value (bt s ((i + 3 : Nat) : Int))) from fun h => hh h.2)]
        simp
    · have hb' : b = false := by rw [hb]; exact beq_eq_false_iff_ne.mpr hc
      rw [hb', if_neg (by simp), if_neg (fun h => hc h.1)]
  have z1 : i + 1 < s.size → ((s.extract i s.size).size : Int) ≥ 2 := fun h => by rw [hz]; omega
  have z2 : i + 1 < s.size → (1 : Int) < ((s.extract i s.size).size : Int) := fun h => by rw [hz]; omega
  have n1 : ¬ i + 1 < s.size → ¬ ((s.extract i s.size).size : Int) ≥ 2 := fun h => by rw [hz]; omega
  have z4 : i + 3 < s.size → ((s.extract i s.size).size : Int) ≥ 4 := fun h => by rw [hz]; omega
  have n4 : ¬ i + 3 < s.size → ¬ ((s.extract i s.size).size : Int) ≥ 4 := fun h => by rw [hz]; omega
  by_cases h1 : i + 1 < s.size
  · rw [if_pos (z1 h1), if_pos (z2 h1), b1 h1]
    by_cases c34 : bt s ((i + 1 : Nat) : Int) = 34
    · rw [if_pos c34, if_pos (show (i + 1 < s.size ∧ (bt s ((i + 1 : Nat) : Int) = 34 ∨ bt s ((i + 1 : Nat) : Int) = 92)) from ⟨h1, .inl c34⟩)]
      first | (rw [if_pos trivial, if_pos (z2 h1)]; rfl) | (rw [if_pos rfl, if_pos (z2 h1)]; rfl)
    · rw [if_neg c34]
      by_cases c92 : bt s ((i + 1 : Nat) : Int) = 92
      · rw [show (bt s ((i + 1 : Nat) : Int) == 92) = true from beq_iff_eq.mpr c92, if_pos (rfl : true = true), if_pos (z2 h1), if_pos (show (i + 1 < s.size ∧ (bt s ((i + 1 : Nat) : Int) = 34 ∨ bt s ((i + 1 : Nat) : Int) = 92)) from ⟨h1, .inr c92⟩)]
        rfl
      · have hno : ¬ (i + 1 < s.size ∧ (bt s ((i + 1 : Nat) : Int) = 34 ∨ bt s ((i + 1 : Nat) : Int) = 92)) := fun h => by
          rcases h.2 with h | h
          · exact c34 h
          · exact c92 h
        rw [show (bt s ((i + 1 : Nat) : Int) == 92) = false from beq_eq_false_iff_ne.mpr c92, if_neg Bool.false_ne_true, if_neg hno]
        by_cases h3 : i + 3 < s.size
        · rw [if_pos (z4 h3), if_pos (z2 h1), j1 _ h3 rfl]
          by_cases hh : bt s ((i + 1 : Nat) : Int) = 120 ∧ 0 ≤ value (bt s ((i + 2 : Nat) : Int)) ∧ 0 ≤ value (bt s ((i + 3 : Nat) : Int))
          · rw [if_pos hh, if_pos (show i + 3 < s.size ∧ bt s ((i + 1 : Nat) : Int) = 120 ∧ 0 ≤ value (bt s ((i + 2 : Nat) : Int)) ∧ 0 ≤ value (bt s ((i + 3 : Nat) : Int)) from ⟨h3, hh⟩)]; rfl
          · rw [if_neg hh, if_neg (show ¬ (i + 3 < s.size ∧ bt s ((i + 1 : Nat) : Int) = 120 ∧ 0 ≤ value (bt s ((i + 2 : Nat) : Int)) ∧ 0 ≤ value (bt s ((i + 3 : Nat) : Int))) from fun h => hh h.2)]; rfl
        · rw [if_neg (n4 h3), if_neg Bool.false_ne_true, if_neg (show ¬ (i + 3 < s.size ∧ bt s ((i + 1 : Nat) : Int) = 120 ∧ 0 ≤ value (bt s ((i + 2 : Nat) : Int)) ∧ 0 ≤ value (bt s ((i + 3 : Nat) : Int))) from fun h => h3 h.1)]
          rfl
  · rw [if_neg (n1 h1), if_neg (show ¬ (i + 1 < s.size ∧ (bt s ((i + 1 : Nat) : Int) = 34 ∨ bt s ((i + 1 : Nat) : Int) = 92)) from fun h => h1 h.1), if_neg (show ¬ (i + 3 < s.size ∧ bt s ((i + 1 : Nat) : Int) = 120 ∧ 0 ≤ value (bt s ((i + 2 : Nat) : Int)) ∧ 0 ≤ value (bt s ((i + 3 : Nat) : Int))) from fun h => h1 (by omega))]
    first | rfl | (rw [if_neg Bool.false_ne_true, if_neg (n4 (fun h => h1 (by omega))), if_neg Bool.false_ne_true]; rfl)
/-- Data, by so many steps: the bytes, the byte behind them, where it is wrong, or -1. -/
def unqN (s : ByteArray) : Nat → List Int → Nat → List Int × Int × Int
  | 0, _, _ => ([], 0, (s.size : Int))
  | d + 1, acc, i =>
    if i < s.size then
      if bt s (i : Int) = 34 then (acc, (i : Int) + 1, -1)
      else if bt s (i : Int) = 92 then (if (esc s i).2 = 0 then ([], 0, (i : Int)) else unqN s d (acc ++ [(esc s i).1]) (i + (esc s i).2))
      else if bt s (i : Int) < 32 ∨ bt s (i : Int) > 126 then ([], 0, (i : Int))
      else unqN s d (acc ++ [bt s (i : Int)]) (i + 1)
    else ([], 0, (s.size : Int))
def unqF (s : ByteArray) (i : Nat) : List Int × Int × Int := if s.size ≤ i ∨ bt s (i : Int) ≠ 34 then ([], 0, (i : Int)) else unqN s s.size [] (i + 1)
/-- As the program tells it. -/
def asP (r : List Int × Int × Int) : ByteArray × Int × Int × Int := if r.2.2 < 0 then (strOfNums r.1, r.2.1, 0, 0) else (⟨#[]⟩, 0, 3, r.2.2)
theorem esc_le (s : ByteArray) (i : Nat) : (esc s i).2 = 0 ∨ (1 ≤ (esc s i).2 ∧ i + (esc s i).2 ≤ s.size) := by
  unfold esc
  split
  · right; simp; omega
  · split
    · right; simp; omega
    · left; rfl
theorem bad_P (j : Int) (h : 0 ≤ j) : asP ([], 0, j) = (⟨#[]⟩, 0, 3, j) := by unfold asP; rw [if_neg (by simp; omega)]
set_option maxHeartbeats 2000000 in
theorem Unquote_l0 (s : ByteArray) (hs : s.size ≤ 140737488351232) (d : Nat) : ∀ (K i : Nat) (acc : List Int), s.size - i ≤ d → i ≤ s.size → acc.length ≤ i → 2 * d + 30 ≤ K →
    script_Unquote.l0 K s acc (i : Int) = some (asP (unqN s d acc i)) := by
  induction d with
  | zero =>
    intro K i acc hd hi ha hK
    obtain ⟨k, rfl⟩ : ∃ m, K = m + 1 := ⟨K - 1, by omega⟩
    simp only [script_Unquote.l0, unqN]
    rw [if_neg (by omega), bad_P _ (by omega)]
    rfl
  | succ d ih =>
    intro K i acc hd hi ha hK
    obtain ⟨k, rfl⟩ : ∃ m, K = m + 2 := ⟨K - 2, by omega⟩
    simp only [script_Unquote.l0, unqN, script_Unquote.j2]
    by_cases hlt : i < s.size
    · rw [if_pos (by omega), if_pos (by omega), if_pos hlt]
      by_cases h34 : bt s (i : Int) = 34
      · rw [if_pos h34, if_pos h34, wrap_in (by omega) (by omega)]
        rfl
      · rw [if_neg h34, if_neg h34]
        by_cases h92 : bt s (i : Int) = 92
        · rw [if_pos h92, if_pos h92, if_pos (by omega), Int.toNat_natCast, escaped_f s hs i hlt _ (by omega), Option.bind_some]
          simp only
          by_cases he : (esc s i).2 = 0
          · rw [if_pos (by omega), if_pos he, bad_P _ (by omega)]
            rfl
          · rcases esc_le s i with h | ⟨g1, g2⟩
            · exact absurd h he
            · rw [if_neg (by omega), if_neg he, if_pos (by omega), wrap_in (by omega) (by omega)]
              exact ih (k + 1) (i + (esc s i).2) _ (by omega) g2 (by simp; omega) (by omega)
        · rw [if_neg h92, if_neg h92]
          by_cases h32 : bt s (i : Int) < 32
          · rw [if_pos h32]
            simp only [if_true]
            rw [if_pos (show bt s (i : Int) < 32 ∨ bt s (i : Int) > 126 from .inl h32), bad_P _ (by omega)]
            rfl
          · rw [if_neg h32]
            by_cases h126 : bt s (i : Int) > 126
            · rw [decide_eq_true h126]
              simp only [if_true]
              rw [if_pos (show bt s (i : Int) < 32 ∨ bt s (i : Int) > 126 from .inr h126), bad_P _ (by omega)]
              rfl
            · rw [decide_eq_false h126, if_neg Bool.false_ne_true, if_neg (show ¬ (1 : Int) = 0 by decide), if_pos (show acc.length < 140737488355328 by omega), if_neg (show ¬ (bt s (i : Int) < 32 ∨ bt s (i : Int) > 126) by omega), wrap_in (by omega) (by omega)]
              exact ih k (i + 1) _ (by omega) (by omega) (by simp; omega) (by omega)
    · rw [if_neg (by omega), if_neg hlt, bad_P _ (by omega)]
      rfl
theorem Unquote_f (s : ByteArray) (hs : s.size ≤ 140737488351232) (i : Nat) (hi : i ≤ 140737488351232) (K : Nat) (hK : 2 * s.size + 40 ≤ K) : script_Unquote.f K s (i : Int) = some (asP (unqF s i)) := by
  obtain ⟨k, rfl⟩ : ∃ m, K = m + 1 := ⟨K - 1, by omega⟩
  unfold script_Unquote.f unqF
  simp only [script_Unquote.j0]
  rw [if_neg (by omega)]
  by_cases hlt : s.size ≤ i
  · rw [if_pos (by omega)]
    simp only [if_true]
    rw [if_pos (show s.size ≤ i ∨ bt s (i : Int) ≠ 34 from .inl hlt), bad_P _ (by omega)]
    rfl
  · rw [if_neg (by omega), if_pos (by omega), if_pos (by omega)]
    by_cases h34 : bt s (i : Int) = 34
    · rw [show (bt s (i : Int) != 34) = false from bne_eq_false_iff_eq.mpr h34, if_neg (by simp), if_neg (by omega), wrap_in (by omega) (by omega)]
      exact Unquote_l0 s hs s.size k (i + 1) [] (by omega) (by omega) (by simp) (by omega)
    · rw [show (bt s (i : Int) != 34) = true from bne_iff_ne.mpr h34]
      simp only [if_true]
      rw [if_pos (show s.size ≤ i ∨ bt s (i : Int) ≠ 34 from .inr h34), bad_P _ (by omega)]
      rfl
end Go.Proofs.YtifcpamliidabaaDoor.PfU

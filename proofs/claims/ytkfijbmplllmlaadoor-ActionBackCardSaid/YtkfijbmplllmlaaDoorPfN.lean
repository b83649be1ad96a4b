/- Names and words: the program and the reference at one (as at the words' own statements). -/
import Derived.Test.YtkfijbmplllmlaaDoorPAx6
import Derived.Test.YtkfijbmplllmlaaDoorHandAll
set_option linter.unusedSimpArgs false
set_option linter.unusedVariables false
namespace Go.Proofs.YtkfijbmplllmlaaDoor.PfN
open Go.RowKit Go.Proofs.YtkfijbmplllmlaaDoor.PA Go.Proofs.YtkfijbmplllmlaaDoorW.PrintWords Go.Proofs.YtkfijbmplllmlaaDoorW.PrintLast Go.Proofs.YtkfijbmplllmlaaDoorW.PrintMore Go.Proofs.YtkfijbmplllmlaaDoor.Pl Go.Proofs.YtkfijbmplllmlaaDoor.HandAll
theorem beq_dec (a b : Int) : (a == b) = decide (a = b) := by rw [Bool.eq_iff_iff]; simp
def letterB (c : Int) : Bool := decide (97 ≤ c ∧ c ≤ 122 ∨ 65 ≤ c ∧ c ≤ 90 ∨ c = 95)
def partB (c : Int) : Bool := decide (97 ≤ c ∧ c ≤ 122 ∨ 65 ≤ c ∧ c ≤ 90 ∨ c = 95 ∨ 48 ≤ c ∧ c ≤ 57)
theorem letter_f (c : Int) : words_letter.f c = some (letterB c) := by
  unfold words_letter.f letterB
  repeat' split
  all_goals (congr 1; try simp only [beq_dec])
  all_goals first | (symm; rw [decide_eq_true_iff]; omega) | (apply decide_eq_decide.mpr; omega)
theorem part_f (c : Int) : words_part.f c = some (partB c) := by
  unfold words_part.f
  rw [letter_f]
  simp only [Option.bind_some]
  unfold partB letterB
  by_cases h : 97 ≤ c ∧ c ≤ 122 ∨ 65 ≤ c ∧ c ≤ 90 ∨ c = 95
  · rw [decide_eq_true h, if_pos rfl]; congr 1; symm; rw [decide_eq_true_iff]; omega
  · rw [decide_eq_false h, if_neg (by simp)]
    by_cases h2 : c ≥ 48
    · rw [if_pos h2]; congr 1; apply decide_eq_decide.mpr; omega
    · rw [if_neg h2]; congr 1; symm; rw [decide_eq_false_iff_not]; omega
theorem span_part (s : ByteArray) (hs : s.size ≤ 140737488351232) (d : Nat) : ∀ (k i : Nat), s.size - i ≤ d → i ≤ s.size → d < k → words_span_words_part.l0 k s (i : Int) = some (run partB s i : Int) := by
  induction d with
  | zero =>
    intro k i hd hi hk
    obtain ⟨k, rfl⟩ : ∃ m, k = m + 1 := ⟨k - 1, by omega⟩
    simp only [words_span_words_part.l0]
    rw [if_neg (by omega), run_end (by omega)]
  | succ d ih =>
    intro k i hd hi hk
    obtain ⟨k, rfl⟩ : ∃ m, k = m + 1 := ⟨k - 1, by omega⟩
    simp only [words_span_words_part.l0]
    by_cases hlt : i < s.size
    · rw [if_pos (by omega), if_pos (by omega), part_f]
      simp only [Option.bind_some]
      cases hp : partB (bt s (i : Int)) with
      | true => rw [if_pos rfl, wrap_in (by omega) (by omega), run_next hlt hp]; exact ih k (i + 1) (by omega) (by omega) (by omega)
      | false => rw [if_neg (by simp), run_here hlt hp]
    · rw [if_neg (by omega), run_end (by omega)]
/-- How many bytes of a name a text begins with. -/
def lead (s : ByteArray) : Nat := if 0 < s.size ∧ letterB (bt s 0) = true then run partB s 0 else 0
theorem empty_iff (s : ByteArray) : s.toList = ([] : List UInt8) ↔ s.size = 0 := by
  have e : s.toList.length = s.size := by rw [ByteArray.toList_eq]; exact Array.length_toList
  constructor
  · intro h
    rw [← e, h]
    rfl
  · intro h
    exact List.eq_nil_of_length_eq_zero (by rw [e, h])
theorem lead_f (s : ByteArray) (hs : s.size ≤ 140737488351232) (k : Nat) (hk : s.size < k) : words_Lead.f k s = some (lead s : Int) := by
  unfold words_Lead.f lead
  by_cases h : s.toList = ([] : List UInt8)
  · have h0 := (empty_iff s).1 h
    rw [if_pos h, if_neg (by omega)]; rfl
  · have h0 : 0 < s.size := Nat.pos_of_ne_zero (fun e => h ((empty_iff s).2 e))
    rw [if_neg h, if_pos (by omega), letter_f]
    simp only [Option.bind_some]
    cases hl : letterB (bt s 0) with
    | true =>
      rw [if_pos rfl, if_pos ⟨h0, rfl⟩]
      unfold words_span_words_part.f
      rw [show (0 : Int) = ((0 : Nat) : Int) from rfl, span_part s hs s.size k 0 (by omega) (by omega) hk]
      rfl
    | false => rw [if_neg (by simp), if_neg (by simp)]; rfl
theorem name_f (s : ByteArray) (hs : s.size ≤ 140737488351232) (k : Nat) (hk : s.size < k) : words_Name.f k s = some (decide (0 < s.size ∧ s.size ≤ 32 ∧ lead s = s.size)) := by
  unfold words_Name.f
  by_cases h : s.toList = ([] : List UInt8)
  · have h0 := (empty_iff s).1 h
    rw [if_pos h, decide_eq_false (by omega)]
  · have h0 : 0 < s.size := Nat.pos_of_ne_zero (fun e => h ((empty_iff s).2 e))
    rw [if_neg h]
    by_cases h2 : s.size ≤ 32
    · rw [if_pos (by omega), lead_f s hs k hk]
      simp only [Option.bind_some, beq_dec]
      congr 1; apply decide_eq_decide.mpr; omega
    · rw [if_neg (by omega), decide_eq_false (by omega)]
def kindN (c : Int) : Int := if letterB c = true then 1 else if 48 ≤ c ∧ c ≤ 57 then 2 else 0
theorem kind_f (c : Int) (k : Nat) (hk : 0 < k) : spoolref04_kind.f k c = some (kindN c) := by
  obtain ⟨k, rfl⟩ : ∃ m, k = m + 1 := ⟨k - 1, by omega⟩
  unfold spoolref04_kind.f kindN letterB
  simp only [spoolref04_kind.j0, beq_iff_eq, if_true, decide_eq_true_eq]
  repeat' split
  all_goals (first | rfl | (exfalso; omega))
theorem ref_lead_on (s : ByteArray) (hs : s.size ≤ 140737488351232) (d : Nat) : ∀ (k i : Nat), s.size - i ≤ d → 0 < i → i ≤ s.size → d + 1 < k → spoolref04_Lead.l0 k s (i : Int) = some (run partB s i : Int) := by
  induction d with
  | zero =>
    intro k i hd h0 hi hk
    obtain ⟨k, rfl⟩ : ∃ m, k = m + 1 := ⟨k - 1, by omega⟩
    simp only [spoolref04_Lead.l0]
    rw [if_neg (by omega), run_end (by omega)]
  | succ d ih =>
    intro k i hd h0 hi hk
    obtain ⟨k, rfl⟩ : ∃ m, k = m + 1 := ⟨k - 1, by omega⟩
    simp only [spoolref04_Lead.l0]
    by_cases hlt : i < s.size
    · rw [if_pos (by omega), if_pos (by omega), kind_f _ k (by omega)]
      simp only [Option.bind_some]
      cases hp : partB (bt s (i : Int)) with
      | true =>
        have h1 : kindN (bt s (i : Int)) > 0 := by
          unfold kindN letterB; unfold partB at hp; rw [decide_eq_true_iff] at hp
          simp only [decide_eq_true_iff]
          repeat' split
          all_goals omega
        rw [if_pos h1, if_pos (by omega), wrap_in (by omega) (by omega), run_next hlt hp]; exact ih k (i + 1) (by omega) (by omega) (by omega) (by omega)
      | false =>
        have h1 : ¬ kindN (bt s (i : Int)) > 0 := by
          unfold kindN letterB; unfold partB at hp; rw [decide_eq_false_iff_not] at hp
          simp only [decide_eq_true_iff]
          repeat' split
          all_goals omega
        rw [if_neg h1, run_here hlt hp]
    · rw [if_neg (by omega), run_end (by omega)]
theorem ref_lead_f (s : ByteArray) (hs : s.size ≤ 140737488351232) (k : Nat) (hk : s.size + 2 < k) : spoolref04_Lead.f k s = some (lead s : Int) := by
  obtain ⟨k, rfl⟩ : ∃ m, k = m + 1 := ⟨k - 1, by omega⟩
  unfold spoolref04_Lead.f lead
  simp only [spoolref04_Lead.l0]
  by_cases h0 : 0 < s.size
  · rw [if_pos (by omega), if_pos (by omega), kind_f _ k (by omega)]
    simp only [Option.bind_some]
    cases hl : letterB (bt s 0) with
    | true =>
      have h1 : kindN (bt s 0) = 1 := by unfold kindN; rw [if_pos hl]
      have hp : partB (bt s 0) = true := by unfold partB; unfold letterB at hl; rw [decide_eq_true_iff] at hl ⊢; omega
      rw [h1, if_pos (by omega), if_neg (by omega), if_pos rfl, if_pos ⟨h0, rfl⟩, wrap_in (by omega) (by omega)]
      have h2 := ref_lead_on s hs s.size k 1 (by omega) (by omega) (by omega) (by omega)
      have h3 : run partB s 0 = run partB s (0 + 1) := run_next h0 hp
      rw [h3]
      exact h2
    | false =>
      rw [if_neg (show ¬ (0 < s.size ∧ false = true) by simp)]
      by_cases h1 : kindN (bt s 0) > 0
      · rw [if_pos h1, if_neg (by omega), if_neg (by unfold kindN; rw [if_neg (by simp [hl])]; split <;> omega)]; rfl
      · rw [if_neg h1]; rfl
  · rw [if_neg (by omega), if_neg (by omega)]; rfl
theorem ref_name_f (s : ByteArray) (hs : s.size ≤ 140737488351232) (k : Nat) (hk : s.size + 2 < k) : spoolref04_Name.f k s = some (decide (0 < s.size ∧ s.size ≤ 32 ∧ lead s = s.size)) := by
  unfold spoolref04_Name.f
  by_cases h0 : 0 < s.size
  · rw [if_pos (by omega)]
    by_cases h2 : s.size ≤ 32
    · rw [if_pos (by omega), ref_lead_f s hs k hk]
      simp only [Option.bind_some, beq_dec]
      congr 1; apply decide_eq_decide.mpr; omega
    · rw [if_neg (by omega), decide_eq_false (by omega)]
  · rw [if_neg (by omega), decide_eq_false (by omega)]
theorem up {α : Type} {g : Nat → Option α} (hm : ∀ k, LeO (g k) (g (k + 1))) {a : Nat} {r : α} (h : g a = some r) (k : Nat) (hk : a ≤ k) : g k = some r := by
  induction hk with
  | refl => exact h
  | step _ ih => exact hm _ _ ih
end Go.Proofs.YtkfijbmplllmlaaDoor.PfN

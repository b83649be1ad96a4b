/- WordsApart, over plain functions: a line's words are not empty, have no blank, and between them and at the ends there are blanks alone. No condition beyond the statement's own. -/
import Derived.Test.YtfknoaokoncneaaPWx5
import Derived.Test.YtfknoaokoncneaaPureWordsNames
namespace Go.Proofs.Ytfknoaokoncneaa.Pure
open Go.RowKit Go.Proofs.Ytfknoaokoncneaa.PW Go.Proofs.YtfknoaokoncneaaW.PrintWords Go.Proofs.YtfknoaokoncneaaW.PrintLast Go.Proofs.Ytfknoaokoncneaa.Pl Go.Proofs.Ytfknoaokoncneaa.All

theorem ref_blank_f (c : Int) : spoolref04_Blank.f c = some (bl c) := blank_f c
theorem apart_l2 (s : ByteArray) (hs : s.size ≤ 300) (d : Nat) : ∀ (K i : Nat), s.size - i ≤ d → i ≤ s.size → (∀ k : Nat, i ≤ k → k < s.size → bl (bt s (k : Int)) = true) → d + 52 < K → spoollaw04_WordsApart.l2 K s (i : Int) = some true := by
  induction d with
  | zero =>
    intro K i hd hi h hk
    obtain ⟨K, rfl⟩ : ∃ m, K = m + 1 := ⟨K - 1, by omega⟩
    simp only [spoollaw04_WordsApart.l2]
    rw [if_neg (by omega), alive_f _ (by omega)]
    rfl
  | succ d ih =>
    intro K i hd hi h hk
    obtain ⟨K, rfl⟩ : ∃ m, K = m + 1 := ⟨K - 1, by omega⟩
    simp only [spoollaw04_WordsApart.l2]
    by_cases hlt : i < s.size
    · rw [if_pos (by omega), if_pos (by omega), ref_blank_f, h i (Nat.le_refl _) hlt]
      simp only [Option.bind_some, if_true]
      rw [wrap_in (by omega) (by omega)]
      exact ih K (i + 1) (by omega) (by omega) (fun k h1 h2 => h k (by omega) h2) (by omega)
    · rw [if_neg (by omega), alive_f _ (by omega)]
      rfl
theorem apart_l1 (s : ByteArray) (hs : s.size ≤ 300) (L : List S29) (n q : Int) (f t : Nat) (ht : t ≤ s.size) (d : Nat) : ∀ (K i : Nat), t - i = d → i ≤ t → (∀ j : Nat, i ≤ j → j < t → bl (bt s (j : Int)) = decide (j < f)) →
    spoollaw04_WordsApart.l1 (K + d + 1) s (i : Int) L n q (f : Int) (t : Int) = spoollaw04_WordsApart.l0 K s (t : Int) L n (wrap64 (q + 1)) := by
  induction d with
  | zero =>
    intro K i hd hi h
    simp only [spoollaw04_WordsApart.l1]
    rw [if_neg (by omega)]
  | succ d ih =>
    intro K i hd hi h
    simp only [spoollaw04_WordsApart.l1]
    rw [if_pos (by omega), if_pos (by omega), if_pos (by omega), ref_blank_f, h i (Nat.le_refl _) (by omega)]
    simp only [Option.bind_some]
    rw [if_neg (by simp), wrap_in (by omega) (by omega)]
    exact ih K (i + 1) (by omega) (by omega) (fun j h1 h2 => h j (by omega) h2)
theorem rd_drop (L : List S29) (q : Nat) (x : S29) (r : List S29) (h : L.drop q = x :: r) : q < L.length ∧ rd_T29 L (q : Int) = x ∧ L.drop (q + 1) = r := by
  have h1 : q < L.length := by
    by_cases e : q < L.length
    · exact e
    · rw [List.drop_eq_nil_of_le (by omega)] at h; cases h
  have h2 := List.drop_eq_getElem_cons h1
  rw [h] at h2
  injection h2 with h3 h4
  refine ⟨h1, ?_, h4.symm⟩
  unfold rd_T29
  rw [Int.toNat_natCast, List.getD_eq_getElem?_getD, List.getElem?_eq_getElem h1, h3]
  rfl
theorem apart_l0 (s : ByteArray) (hs : s.size ≤ 300) (L : List S29) (hL : L.length ≤ 300) (d : Nat) : ∀ (K i q : Nat), s.size - i ≤ d → i ≤ s.size → q ≤ L.length → L.drop q = (allW s i).map toS → (0 < q → i < s.size → bl (bt s (i : Int)) = true) → 4 * d + 60 ≤ K →
    spoollaw04_WordsApart.l0 K s (i : Int) L (L.length : Int) (q : Int) = some true := by
  induction d using Nat.strongRecOn with
  | _ d ih =>
    intro K i q hd hi hq hdrop hbl hk
    obtain ⟨K, rfl⟩ : ∃ m, K = m + 1 := ⟨K - 1, by omega⟩
    simp only [spoollaw04_WordsApart.l0]
    by_cases e : fromW s i < toW s i
    · have hlt := toW_lt s i e
      have hf := fromW_ge s i
      have ht := toW_le s i hi
      rw [allW_eq, if_pos e, List.map_cons] at hdrop
      obtain ⟨h1, h2, h3⟩ := rd_drop _ _ _ _ hdrop
      rw [if_pos (by omega), if_pos (by omega), if_pos (by omega), h2]
      show (if (fromW s i : Int) < (i : Int) then _ else _) = _
      rw [if_neg (by omega)]
      have hne : 0 < q → ¬ ((fromW s i : Int) = (i : Int)) := by
        intro hq0 heq
        have h4 := hbl hq0 hlt
        have h5 := run_stop bl s i (show run bl s i < s.size from by have : run bl s i = fromW s i := rfl; omega)
        have h6 : run bl s i = i := by have : run bl s i = fromW s i := rfl; omega
        rw [h6, h4] at h5
        cases h5
      have go : spoollaw04_WordsApart.j1 K s (i : Int) L (L.length : Int) (q : Int) (decide ((toW s i : Int) > (s.size : Int))) (fromW s i : Int) (toW s i : Int) = some true := by
        obtain ⟨K, rfl⟩ : ∃ m, K = m + (toW s i - i) + 1 + 1 := ⟨K - (toW s i - i) - 2, by omega⟩
        simp only [spoollaw04_WordsApart.j1]
        rw [if_neg (by simp; omega), apart_l1 s hs L _ _ _ _ ht (toW s i - i) K i rfl (by omega) ?_, wrap_in (by omega) (by omega)]
        · exact ih (s.size - toW s i) (by omega) K (toW s i) (q + 1) (Nat.le_refl _) ht (by omega) h3 (fun _ h4 => by
            have h5 : nb (bt s (toW s i : Int)) = false := run_stop nb s (fromW s i) h4
            simpa [nb] using h5) (by omega)
        · intro j h4 h5
          by_cases h6 : j < fromW s i
          · rw [decide_eq_true h6]; exact run_all bl s i j h4 h6
          · rw [decide_eq_false h6]
            have h7 := run_all nb s (fromW s i) j (by omega) h5
            simpa [nb] using h7
      show (if (q : Int) > 0 then _ else _) = _
      have h4 : ¬ ((toW s i : Int) ≤ (fromW s i : Int)) := by omega
      by_cases hq0 : 0 < q
      · rw [if_pos (by omega)]
        show (if (fromW s i : Int) = (i : Int) then _ else if (toW s i : Int) ≤ (fromW s i : Int) then _ else _) = _
        rw [if_neg (hne hq0), if_neg h4]
        exact go
      · rw [if_neg (by omega)]
        show (if (toW s i : Int) ≤ (fromW s i : Int) then _ else _) = _
        rw [if_neg h4]
        exact go
    · rw [allW_eq, if_neg e, List.map_nil] at hdrop
      have h1 : L.length ≤ q := List.drop_eq_nil_iff.1 hdrop
      rw [if_neg (by omega)]
      exact apart_l2 s hs d K i (by omega) hi ((allW_last s i hi).1 (by rw [allW_eq, if_neg e])) (by omega)
theorem apart_f (s : ByteArray) (K : Nat) (hK : 4 * s.size + 100 ≤ K) : spoollaw04_WordsApart.f K s = some true := by
  unfold spoollaw04_WordsApart.f
  by_cases h : (s.size : Int) > 300
  · rw [if_pos h, alive_f _ (by omega)]; rfl
  · rw [if_neg h]
    have hA : words_All.f s = some ((allW s 0).map toS) := by unfold words_All.f; rw [if_pos (by omega)]
    rw [hA]
    simp only [Option.bind_some]
    have hl := allW_len s 0 (by omega)
    have h1 := apart_l0 s (by omega) ((allW s 0).map toS) (by rw [List.length_map]; omega) s.size K 0 0 (by omega) (by omega) (by omega) (by simp) (fun h => absurd h (by omega)) (by omega)
    exact h1
theorem WordsApart : spoollaw04_WordsApart.Pure := fun s _ => ⟨_, apart_f s _ (Nat.le_refl _)⟩
end Go.Proofs.Ytfknoaokoncneaa.Pure

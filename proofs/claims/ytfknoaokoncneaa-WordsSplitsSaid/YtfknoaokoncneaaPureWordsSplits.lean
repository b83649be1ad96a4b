/- WordsSplits, over plain functions: a line's words, the next one from any place on, and the text without blanks at its ends are the reference's. No condition beyond the statement's own. -/
import Derived.Test.YtfknoaokoncneaaPWx9
import Derived.Test.YtfknoaokoncneaaPureWordsApart
namespace Go.Proofs.Ytfknoaokoncneaa.Pure
open Go.RowKit Go.Proofs.Ytfknoaokoncneaa.PW Go.Proofs.YtfknoaokoncneaaW.PrintWords Go.Proofs.YtfknoaokoncneaaW.PrintLast Go.Proofs.YtfknoaokoncneaaW.PrintMore Go.Proofs.Ytfknoaokoncneaa.Pl Go.Proofs.Ytfknoaokoncneaa.All

theorem rd_last (l : List S29) (x : S29) : rd_T29 (l ++ [x]) (l.length : Int) = x := by
  unfold rd_T29
  rw [Int.toNat_natCast, List.getD_eq_getElem?_getD]
  simp
theorem set_last (l : List S29) (x y : S29) : (l ++ [x]).set l.length y = l ++ [y] := by simp
theorem len_last (l : List S29) (x : S29) (h : l.length ≤ 300) : wrap64 (((l ++ [x]).length : Int) - 1) = (l.length : Int) := by
  rw [List.length_append, List.length_singleton, wrap_in (by omega) (by omega)]
  omega
theorem ref_all_l0 (s : ByteArray) (hs : s.size ≤ 300) (d : Nat) : ∀ (K i : Nat) (acc : List (Nat × Nat)), s.size - i = d → i ≤ s.size → acc.length ≤ i → Scan s i acc → d < K →
    spoolref04_All.l0 K s (acc.map toS) (i : Int) = some ((allW s 0).map toS) := by
  induction d with
  | zero =>
    intro K i acc hd hi ha hsc hk
    obtain ⟨K, rfl⟩ : ∃ m, K = m + 1 := ⟨K - 1, by omega⟩
    have e : i = s.size := by omega
    subst e
    simp only [spoolref04_All.l0]
    rw [if_neg (by omega), scan_end hsc]
  | succ d ih =>
    intro K i acc hd hi ha hsc hk
    obtain ⟨K, rfl⟩ : ∃ m, K = m + 1 := ⟨K - 1, by omega⟩
    have hlt : i < s.size := by omega
    simp only [spoolref04_All.l0]
    rw [if_pos (by omega), if_pos (by omega), ref_blank_f]
    simp only [Option.bind_some]
    have hw : wrap64 ((i : Int) + 1) = ((i + 1 : Nat) : Int) := by rw [wrap_in (by omega) (by omega)]; omega
    have hlen : (acc.map toS).length = acc.length := List.length_map _
    cases hb : bl (bt s (i : Int)) with
    | true =>
      rw [if_pos rfl, hw]
      exact ih K (i + 1) acc (by omega) (by omega) (by omega) (scan_blank hlt hb hsc) (by omega)
    | false =>
      rw [if_neg (by simp)]
      have new : (i = 0 ∨ bl (bt s ((i : Int) - 1)) = true) → (if (acc.map toS).length < 8796093022208 then (if 0 ≤ (wrap64 (((acc.map toS ++ [(⟨(i : Int), (i : Int)⟩ : S29)]).length : Int) - 1)) then (if (wrap64 (((acc.map toS ++ [(⟨(i : Int), (i : Int)⟩ : S29)]).length : Int) - 1)) < ((acc.map toS ++ [(⟨(i : Int), (i : Int)⟩ : S29)]).length : Int) then (spoolref04_All.l0 K s ((acc.map toS ++ [(⟨(i : Int), (i : Int)⟩ : S29)]).set ((wrap64 (((acc.map toS ++ [(⟨(i : Int), (i : Int)⟩ : S29)]).length : Int) - 1)) : Int).toNat (⟨(rd_T29 (acc.map toS ++ [(⟨(i : Int), (i : Int)⟩ : S29)]) (wrap64 (((acc.map toS ++ [(⟨(i : Int), (i : Int)⟩ : S29)]).length : Int) - 1))).f0, wrap64 ((i : Int) + 1)⟩ : S29)) (wrap64 ((i : Int) + 1))) else (none)) else (none)) else (none)) = some ((allW s 0).map toS) := by
        intro h0
        rw [len_last _ _ (by omega), rd_last, Int.toNat_natCast, set_last, hw]
        rw [if_pos (by omega), if_pos (by omega), if_pos (by rw [List.length_append, List.length_singleton]; omega)]
        have h1 := ih K (i + 1) (acc ++ [(i, i + 1)]) (by omega) (by omega) (by rw [List.length_append, List.length_singleton]; omega) (scan_new hlt hb h0 hsc) (by omega)
        rw [List.map_append] at h1
        exact h1
      by_cases h0 : i = 0
      · rw [if_pos (by omega)]
        exact new (.inl h0)
      · rw [if_neg (by omega)]
        have hw2 : wrap64 ((i : Int) - 1) = (i : Int) - 1 := wrap_in (by omega) (by omega)
        rw [hw2, if_pos (by omega), if_pos (by omega), ref_blank_f]
        simp only [Option.bind_some]
        cases hb2 : bl (bt s ((i : Int) - 1)) with
        | true =>
          rw [if_pos rfl]
          exact new (.inr hb2)
        | false =>
          rw [if_neg (by simp)]
          obtain ⟨pre, f, rfl, hsc2⟩ := scan_more hlt hb (by omega) hb2 hsc
          have hm : (pre ++ [(f, i)]).map toS = pre.map toS ++ [toS (f, i)] := List.map_append
          have hp : pre.length ≤ 300 := by rw [List.length_append, List.length_singleton] at ha; omega
          rw [hm, len_last _ _ (by rw [List.length_map]; exact hp), rd_last, Int.toNat_natCast, set_last, hw]
          rw [if_pos (by omega), if_pos (by rw [List.length_append, List.length_singleton]; omega)]
          have h1 := ih K (i + 1) (pre ++ [(f, i + 1)]) (by omega) (by omega) (by rw [List.length_append, List.length_singleton] at ha ⊢; omega) hsc2 (by omega)
          rw [List.map_append] at h1
          exact h1

/-! ### the next word -/
theorem ref_next_l1 (s : ByteArray) (hs : s.size ≤ 300) (x : Int) (d : Nat) : ∀ (K i : Nat), s.size - i = d → i ≤ s.size → d < K → spoolref04_Next.l1 K s x (i : Int) = some (x, (run nb s i : Int)) := by
  induction d with
  | zero =>
    intro K i hd hi hk
    obtain ⟨K, rfl⟩ : ∃ m, K = m + 1 := ⟨K - 1, by omega⟩
    simp only [spoolref04_Next.l1]
    rw [if_neg (by omega), run_end (by omega)]
  | succ d ih =>
    intro K i hd hi hk
    obtain ⟨K, rfl⟩ : ∃ m, K = m + 1 := ⟨K - 1, by omega⟩
    simp only [spoolref04_Next.l1]
    have hlt : i < s.size := by omega
    rw [if_pos (by omega), if_pos (by omega), ref_blank_f]
    simp only [Option.bind_some]
    cases hb : bl (bt s (i : Int)) with
    | true => rw [if_pos rfl, run_here hlt (nb_not hb)]
    | false => rw [if_neg (by simp), wrap_in (by omega) (by omega), run_next hlt (nb_of hb)]; exact ih K (i + 1) (by omega) (by omega) (by omega)
theorem ref_next_l0 (s : ByteArray) (hs : s.size ≤ 300) (d : Nat) : ∀ (K i : Nat), s.size - i = d → i ≤ s.size → d + s.size + 3 < K → spoolref04_Next.l0 K s (i : Int) = some ((fromW s i : Int), (toW s i : Int)) := by
  have fin : ∀ (K i : Nat), i ≤ s.size → fromW s i = i → s.size + 2 < K → spoolref04_Next.j3 K s (i : Int) = some ((fromW s i : Int), (toW s i : Int)) := by
    intro K i hi hf hk
    obtain ⟨K, rfl⟩ : ∃ m, K = m + 1 := ⟨K - 1, by omega⟩
    simp only [spoolref04_Next.j3]
    rw [ref_next_l1 s hs _ _ K i rfl hi (by omega)]
    unfold toW
    rw [hf]
  induction d with
  | zero =>
    intro K i hd hi hk
    obtain ⟨K, rfl⟩ : ∃ m, K = m + 1 := ⟨K - 1, by omega⟩
    simp only [spoolref04_Next.l0]
    rw [if_neg (by omega)]
    exact fin K i hi (run_end (by omega)) (by omega)
  | succ d ih =>
    intro K i hd hi hk
    obtain ⟨K, rfl⟩ : ∃ m, K = m + 1 := ⟨K - 1, by omega⟩
    simp only [spoolref04_Next.l0]
    have hlt : i < s.size := by omega
    rw [if_pos (by omega), if_pos (by omega), ref_blank_f]
    simp only [Option.bind_some]
    cases hb : bl (bt s (i : Int)) with
    | true =>
      have e : fromW s i = fromW s (i + 1) := run_next hlt hb
      rw [if_pos rfl, wrap_in (by omega) (by omega)]
      have h1 := ih K (i + 1) (by omega) (by omega) (by omega)
      unfold toW at h1 ⊢
      rw [e]
      exact h1
    | false =>
      rw [if_neg (by simp)]
      exact fin K i hi (fromW_here hlt hb) (by omega)
theorem ref_next_f (s : ByteArray) (hs : s.size ≤ 300) (K : Nat) (hK : 2 * s.size + 10 < K) (a : Int) (i : Nat) (hi : mn (mx a 0) (s.size : Int) = (i : Int)) : spoolref04_Next.f K s a = some ((fromW s i : Int), (toW s i : Int)) := by
  have hil : i ≤ s.size := by unfold mn mx at hi; repeat' split at hi
                              all_goals omega
  obtain ⟨K, rfl⟩ : ∃ m, K = m + 1 + 1 := ⟨K - 2, by omega⟩
  have key : ∀ x : Int, 0 ≤ x → mn x (s.size : Int) = (i : Int) → spoolref04_Next.j0 (K + 1 + 1) s x = some ((fromW s i : Int), (toW s i : Int)) := by
    intro x h0 hx
    simp only [spoolref04_Next.j0, spoolref04_Next.j1]
    unfold mn at hx
    by_cases h : x > (s.size : Int)
    · rw [if_pos h]
      rw [if_pos h] at hx
      rw [hx]
      exact ref_next_l0 s hs _ K i rfl hil (by omega)
    · rw [if_neg h]
      rw [if_neg (by omega)] at hx
      rw [hx]
      exact ref_next_l0 s hs _ K i rfl hil (by omega)
  unfold spoolref04_Next.f
  unfold mx at hi
  by_cases h : a < 0
  · rw [if_pos h]
    rw [if_pos h] at hi
    exact key 0 (by omega) hi
  · rw [if_neg h]
    rw [if_neg h] at hi
    exact key a (by omega) hi

/-! ### the text without blanks at its ends -/
theorem ref_trim_l1 (s : ByteArray) (hs : s.size ≤ 300) (x t : Nat) (hxt : x ≤ t) (hb : x < t → bl (bt s ((t : Int) - 1)) = false) (hblank : ∀ k : Nat, t ≤ k → k < s.size → bl (bt s (k : Int)) = true) (d : Nat) :
    ∀ (K j : Nat), j - t = d → t ≤ j → j ≤ s.size → d < K → spoolref04_Trim.l1 K s (x : Int) (j : Int) = some ((x : Int), (t : Int)) := by
  induction d with
  | zero =>
    intro K j hd h1 h2 hk
    obtain ⟨K, rfl⟩ : ∃ m, K = m + 1 := ⟨K - 1, by omega⟩
    have e : j = t := by omega
    subst e
    simp only [spoolref04_Trim.l1]
    by_cases h : x < j
    · rw [if_pos (by omega), wrap_in (by omega) (by omega), if_pos (by omega), if_pos (by omega), ref_blank_f, hb h]
      rfl
    · have e : x = j := by omega
      rw [if_neg (by omega)]
  | succ d ih =>
    intro K j hd h1 h2 hk
    obtain ⟨K, rfl⟩ : ∃ m, K = m + 1 := ⟨K - 1, by omega⟩
    simp only [spoolref04_Trim.l1]
    rw [if_pos (by omega), wrap_in (by omega) (by omega), if_pos (by omega), if_pos (by omega), ref_blank_f]
    have h3 := hblank (j - 1) (by omega) (by omega)
    rw [show ((j - 1 : Nat) : Int) = (j : Int) - 1 by omega] at h3
    rw [h3]
    simp only [Option.bind_some, if_true]
    have h4 := ih K (j - 1) (by omega) (by omega) (by omega) (by omega)
    rw [show ((j - 1 : Nat) : Int) = (j : Int) - 1 by omega] at h4
    exact h4
theorem ref_trim_l0 (s : ByteArray) (hs : s.size ≤ 300) (r : Int × Int) (d : Nat) : ∀ (K i : Nat), s.size - i = d → i ≤ s.size → d + s.size + 5 < K → (∀ K2, s.size + 2 < K2 → spoolref04_Trim.j1 K2 s (fromW s i : Int) = some r) → spoolref04_Trim.l0 K s (i : Int) = some r := by
  induction d with
  | zero =>
    intro K i hd hi hk h
    obtain ⟨K, rfl⟩ : ∃ m, K = m + 1 := ⟨K - 1, by omega⟩
    simp only [spoolref04_Trim.l0]
    have e : fromW s i = i := run_end (by omega)
    rw [e] at h
    rw [if_neg (by omega)]
    exact h K (by omega)
  | succ d ih =>
    intro K i hd hi hk h
    obtain ⟨K, rfl⟩ : ∃ m, K = m + 1 := ⟨K - 1, by omega⟩
    simp only [spoolref04_Trim.l0]
    have hlt : i < s.size := by omega
    rw [if_pos (by omega), if_pos (by omega), ref_blank_f]
    simp only [Option.bind_some]
    cases hb : bl (bt s (i : Int)) with
    | true =>
      have e : fromW s i = fromW s (i + 1) := run_next hlt hb
      rw [if_pos rfl, wrap_in (by omega) (by omega)]
      rw [e] at h
      exact ih K (i + 1) (by omega) (by omega) (by omega) h
    | false =>
      rw [if_neg (by simp)]
      have e : fromW s i = i := fromW_here hlt hb
      rw [e] at h
      exact h K (by omega)
theorem trims (s : ByteArray) (hs : s.size ≤ 300) (K : Nat) (hK : 2 * s.size + 10 < K) : ∃ r : Int × Int, words_Trim.f s = some r ∧ spoolref04_Trim.f K s = some r := by
  have hA : words_All.f s = some ((allW s 0).map toS) := by unfold words_All.f; rw [if_pos (by omega)]
  have hl := allW_len s 0 (by omega)
  obtain ⟨h1, h2, h3⟩ := allW_last s 0 (by omega)
  have ref : ∀ t : Nat, fromW s 0 ≤ t → t ≤ s.size → (fromW s 0 < t → bl (bt s ((t : Int) - 1)) = false) → (∀ k : Nat, t ≤ k → k < s.size → bl (bt s (k : Int)) = true) → spoolref04_Trim.f K s = some ((fromW s 0 : Int), (t : Int)) := by
    intro t a b c e
    unfold spoolref04_Trim.f
    refine ref_trim_l0 s hs _ _ K 0 rfl (by omega) (by omega) (fun K2 hK2 => ?_)
    obtain ⟨K2, rfl⟩ : ∃ m, K2 = m + 1 := ⟨K2 - 1, by omega⟩
    simp only [spoolref04_Trim.j1]
    exact ref_trim_l1 s hs _ t a c e _ K2 s.size rfl b (Nat.le_refl _) (by omega)
  unfold words_Trim.f
  rw [hA]
  simp only [Option.bind_some]
  cases hq : allW s 0 with
  | nil =>
    rw [List.map_nil, if_pos (show ((([] : List S29).length : Int)) = 0 from rfl)]
    have hf : fromW s 0 = s.size := by
      have h4 := fromW_le s 0 (by omega)
      by_cases e : fromW s 0 < s.size
      · have h5 : bl (bt s (fromW s 0 : Int)) = false := run_stop bl s 0 e
        rw [h1 hq _ (by omega) e] at h5
        cases h5
      · omega
    refine ⟨_, rfl, ?_⟩
    have h4 := ref s.size (by omega) (Nat.le_refl _) (fun h => absurd h (by omega)) (fun k a b => by omega)
    rw [hf] at h4
    exact h4
  | cons x l =>
    have hx := h2 x l hq
    obtain ⟨l2, y, hy⟩ : ∃ l2 y, x :: l = l2 ++ [y] := ⟨(x :: l).dropLast, (x :: l).getLast (by simp), (List.dropLast_concat_getLast (by simp)).symm⟩
    obtain ⟨a, b, c, e⟩ := h3 l2 y (hq.trans hy)
    have hlen : (x :: l).length ≤ 300 := by rw [hq] at hl; omega
    have hlen2 : ((x :: l).map toS).length = l2.length + 1 := by rw [hy, List.length_map, List.length_append, List.length_singleton]
    have hl2 : l2.length ≤ 300 := by rw [hy, List.length_append] at hlen; omega
    have r1 : rd_T29 ((x :: l).map toS) 0 = toS x := by unfold rd_T29; rfl
    have r2 : rd_T29 ((x :: l).map toS) (l2.length : Int) = toS y := by
      rw [hy, List.map_append]
      have := rd_last (l2.map toS) (toS y)
      rw [List.length_map] at this
      exact this
    have hw : wrap64 ((((x :: l).map toS).length : Int) - 1) = (l2.length : Int) := by rw [hlen2, wrap_in (by omega) (by omega)]; omega
    rw [hw, hlen2, r1, r2, if_neg (by omega), if_pos (by omega), if_pos (by omega), if_pos (by omega)]
    refine ⟨_, rfl, ?_⟩
    have h4 := ref y.2 (by omega) b (fun _ => c) e
    rw [h4, ← hx]
    rfl

/-! ### the statement -/
theorem splits_l0 (s : ByteArray) (hs : s.size ≤ 300) (a : Int) (L : List S29) (hL : L.length ≤ 300) (d : Nat) : ∀ (K q : Nat), L.length - q = d → q ≤ L.length → d + 2 * s.size + 100 < K → spoollaw04_WordsSplits.l0 K s a L L (L.length : Int) (q : Int) = some true := by
  induction d with
  | zero =>
    intro K q hd hq hk
    obtain ⟨K, rfl⟩ : ∃ m, K = m + 1 := ⟨K - 1, by omega⟩
    simp only [spoollaw04_WordsSplits.l0]
    obtain ⟨i, hi, hil⟩ : ∃ i : Nat, mn (mx a 0) (s.size : Int) = (i : Int) ∧ i ≤ s.size := by
      refine ⟨(mn (mx a 0) (s.size : Int)).toNat, ?_, ?_⟩ <;> unfold mn mx <;> repeat' split
      all_goals omega
    obtain ⟨r, e1, e2⟩ := trims s hs K (by omega)
    rw [if_neg (by omega), next_f s (by omega) i hil K (by omega) a hi, ref_next_f s hs K (by omega) a i hi, e1, e2]
    simp only [Option.bind_some, if_true]
    rw [alive_f _ (by omega)]
    rfl
  | succ d ih =>
    intro K q hd hq hk
    obtain ⟨K, rfl⟩ : ∃ m, K = m + 1 := ⟨K - 1, by omega⟩
    simp only [spoollaw04_WordsSplits.l0]
    rw [if_pos (by omega), if_pos (by omega), if_pos (by omega), if_pos (by omega), if_neg (by simp), wrap_in (by omega) (by omega)]
    exact ih K (q + 1) (by omega) (by omega) (by omega)
theorem splits_f (s : ByteArray) (a : Int) (K : Nat) (hK : 4 * s.size + 1000 ≤ K) : spoollaw04_WordsSplits.f K s a = some true := by
  unfold spoollaw04_WordsSplits.f
  by_cases h : (s.size : Int) > 300
  · rw [if_pos h, alive_f _ (by omega)]; rfl
  · rw [if_neg h]
    have hA : words_All.f s = some ((allW s 0).map toS) := by unfold words_All.f; rw [if_pos (by omega)]
    have hl := allW_len s 0 (by omega)
    have hR : spoolref04_All.f K s = some ((allW s 0).map toS) := by
      unfold spoolref04_All.f
      have h1 := ref_all_l0 s (by omega) s.size K 0 [] (by omega) (by omega) (by simp) (scan_start s) (by omega)
      exact h1
    rw [hA, hR]
    simp only [Option.bind_some, if_true]
    have h2 := splits_l0 s (by omega) a ((allW s 0).map toS) (by rw [List.length_map]; omega) _ K 0 rfl (by omega) (by rw [List.length_map]; omega)
    exact h2
theorem WordsSplits : spoollaw04_WordsSplits.Pure := fun s a _ _ => ⟨_, splits_f s a _ (Nat.le_refl _)⟩
end Go.Proofs.Ytfknoaokoncneaa.Pure

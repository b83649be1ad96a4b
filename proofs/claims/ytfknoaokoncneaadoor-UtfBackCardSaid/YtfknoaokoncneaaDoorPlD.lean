/- Plain facts about texts as lists of numbers, and about digits. No program in sight. -/
import Derived.Test.YtfknoaokoncneaaDoorWWords
import Derived.Test.YtfknoaokoncneaaDoorWMore
namespace Go.Proofs.YtfknoaokoncneaaDoor.PlD
open Go.RowKit Go.Proofs.YtfknoaokoncneaaDoorW.PrintWords

theorem wrap_in {n : Int} (h1 : -9223372036854775808 ≤ n) (h2 : n ≤ 9223372036854775807) : wrap64 n = n := by unfold wrap64; omega

/-! ### a text's numbers -/
def L (s : ByteArray) : List Int := s.data.toList.map fun b => (b.toNat : Int)
theorem L_len (s : ByteArray) : (L s).length = s.size := by simp [L]
theorem L_get (s : ByteArray) (i : Nat) : (L s).getD i 0 = bt s (i : Int) := by
  unfold bt L
  rw [Int.toNat_natCast, List.getD_eq_getElem?_getD]
  by_cases h : i < s.size
  · rw [dif_pos h, List.getElem?_map, Array.getElem?_toList, Array.getElem?_eq_getElem (by exact h)]
    rfl
  · rw [dif_neg h, List.getElem?_eq_none (by simp; exact Nat.le_of_not_lt h)]
    rfl
theorem L_drop (s : ByteArray) (i : Nat) (h : i < s.size) : (L s).drop i = bt s (i : Int) :: (L s).drop (i + 1) := by
  rw [← L_get, List.getD_eq_getElem?_getD, List.getElem?_eq_getElem (by rw [L_len]; exact h), Option.getD_some]
  exact List.drop_eq_getElem_cons (by rw [L_len]; exact h)
theorem L_inj {s t : ByteArray} : s.toList = t.toList ↔ L s = L t := by
  rw [ByteArray.toList_eq, ByteArray.toList_eq]
  constructor
  · intro h; unfold L; rw [h]
  · intro h
    unfold L at h
    have : Function.Injective (fun b : UInt8 => (b.toNat : Int)) := fun a b h => by
      have h : (a.toNat : Int) = (b.toNat : Int) := h
      exact UInt8.toNat_inj.1 (by omega)
    exact List.map_inj_right (fun a b h => this h) |>.1 h
theorem L_append (s t : ByteArray) : L (s ++ t) = L s ++ L t := by
  simp [L]
theorem L_nums (xs : List Int) (h : ∀ x ∈ xs, 0 ≤ x ∧ x < 256) : L (strOfNums xs) = xs := by
  unfold L
  rw [strOfNums_data, List.map_map]
  conv => rhs; rw [← List.map_id xs]
  apply List.map_congr_left
  intro x hx
  have := h x hx
  simp only [Function.comp, id]
  rw [UInt8.toNat_ofNat']
  omega
theorem L_nil {s : ByteArray} : s.toList = ([] : List UInt8) ↔ L s = [] := by
  rw [ByteArray.toList_eq]; unfold L; simp
theorem L_byte (s : ByteArray) : ∀ x ∈ L s, 0 ≤ x ∧ x < 256 := by
  intro x hx
  unfold L at hx
  obtain ⟨b, _, rfl⟩ := List.mem_map.1 hx
  have := b.toNat_lt
  omega

/-! ### decimals -/
def dig (c : Int) : Prop := 48 ≤ c ∧ c ≤ 57
instance (c : Int) : Decidable (dig c) := by unfold dig; infer_instance
def leadL : List Int → Int → Int × Nat
  | [], n => (n, 0)
  | c :: r, n => if dig c then ((leadL r (min (10 * n + (c - 48)) 1000000000)).1, (leadL r (min (10 * n + (c - 48)) 1000000000)).2 + 1) else (n, 0)
def valL : List Int → Int → Int
  | [], n => n
  | c :: r, n => valL r (10 * n + (c - 48))
theorem leadL_le (l : List Int) : ∀ n, (leadL l n).2 ≤ l.length := by
  induction l with
  | nil => intro n; simp [leadL]
  | cons c r ih =>
    intro n
    unfold leadL
    split
    · have := ih (min (10 * n + (c - 48)) 1000000000); simp; omega
    · simp
theorem leadL_all (l : List Int) : ∀ n, ((leadL l n).2 = l.length ↔ ∀ c ∈ l, dig c) := by
  induction l with
  | nil => intro n; simp [leadL]
  | cons c r ih =>
    intro n
    unfold leadL
    split
    · rename_i h
      simp only [List.length_cons, Nat.add_right_cancel_iff, ih, List.mem_cons, forall_eq_or_imp]
      exact ⟨fun x => ⟨h, x⟩, fun x => x.2⟩
    · rename_i h
      simp only [List.length_cons, List.mem_cons, forall_eq_or_imp]
      constructor
      · intro e; omega
      · intro e; exact absurd e.1 h
theorem valL_ge (l : List Int) (hd : ∀ c ∈ l, dig c) : ∀ n, 0 ≤ n → n ≤ valL l n := by
  induction l with
  | nil => intro n _; exact Int.le_refl _
  | cons c r ih =>
    intro n h
    have hc := hd c (by simp)
    unfold dig at hc
    have := ih (fun x hx => hd x (by simp [hx])) (10 * n + (c - 48)) (by omega)
    unfold valL
    omega
theorem leadL_sat (l : List Int) (hd : ∀ c ∈ l, dig c) : (leadL l 1000000000).1 = 1000000000 := by
  induction l with
  | nil => rfl
  | cons c r ih =>
    have hc := hd c (by simp)
    unfold leadL
    rw [if_pos hc]
    unfold dig at hc
    rw [show min (10 * 1000000000 + (c - 48)) 1000000000 = (1000000000 : Int) by omega]
    exact ih (fun x hx => hd x (by simp [hx]))
theorem leadL_val (l : List Int) (hd : ∀ c ∈ l, dig c) : ∀ n, 0 ≤ n → valL l n ≤ 999999999 → (leadL l n).1 = valL l n := by
  induction l with
  | nil => intro n _ _; rfl
  | cons c r ih =>
    intro n h hv
    have hc := hd c (by simp)
    have hd' : ∀ x ∈ r, dig x := fun x hx => hd x (by simp [hx])
    unfold leadL
    rw [if_pos hc]
    unfold dig at hc
    unfold valL at hv ⊢
    have := valL_ge r hd' (10 * n + (c - 48)) (by omega)
    rw [show min (10 * n + (c - 48)) 1000000000 = 10 * n + (c - 48) by omega]
    exact ih hd' _ (by omega) hv
theorem leadL_small (l : List Int) (hd : ∀ c ∈ l, dig c) : ∀ n, 0 ≤ n → (leadL l n).1 ≤ 999999999 → (leadL l n).1 = valL l n := by
  induction l with
  | nil => intro n _ _; rfl
  | cons c r ih =>
    intro n h hv
    have hc := hd c (by simp)
    have hd' : ∀ x ∈ r, dig x := fun x hx => hd x (by simp [hx])
    unfold leadL at hv ⊢
    rw [if_pos hc] at hv ⊢
    unfold dig at hc
    unfold valL
    by_cases hb : 10 * n + (c - 48) ≤ 1000000000
    · rw [show min (10 * n + (c - 48)) 1000000000 = 10 * n + (c - 48) by omega] at hv ⊢
      exact ih hd' _ (by omega) hv
    · rw [show min (10 * n + (c - 48)) 1000000000 = (1000000000 : Int) by omega] at hv
      have := leadL_sat r hd'
      simp only at hv
      omega
theorem leadL_bound (l : List Int) : ∀ n, 0 ≤ n → n ≤ 1000000000 → 0 ≤ (leadL l n).1 ∧ (leadL l n).1 ≤ 1000000000 := by
  induction l with
  | nil => intro n h1 h2; exact ⟨h1, h2⟩
  | cons c r ih =>
    intro n h1 h2
    unfold leadL
    split
    · rename_i h
      unfold dig at h
      exact ih _ (by omega) (by omega)
    · exact ⟨h1, h2⟩
/-- A number's digits. -/
def textN (n : Nat) : List Int := if _h : n < 10 then [48 + (n : Int)] else textN (n / 10) ++ [48 + ((n % 10 : Nat) : Int)]
termination_by n
decreasing_by omega
theorem textN_lt {n : Nat} (h : n < 10) : textN n = [48 + (n : Int)] := by rw [textN, dif_pos h]
theorem textN_ge {n : Nat} (h : 10 ≤ n) : textN n = textN (n / 10) ++ [48 + ((n % 10 : Nat) : Int)] := by rw [textN, dif_neg (by omega)]
theorem textN_ind {M : Nat → Prop} (h1 : ∀ n, n < 10 → M n) (h2 : ∀ n, 10 ≤ n → M (n / 10) → M n) (n : Nat) : M n := by
  induction n using Nat.strongRecOn with
  | _ n ih =>
    by_cases h : n < 10
    · exact h1 n h
    · exact h2 n (by omega) (ih (n / 10) (by omega))
theorem textN_dig (n : Nat) : ∀ c ∈ textN n, dig c := by
  refine textN_ind (M := fun n => ∀ c ∈ textN n, dig c) (fun n h => ?_) (fun n h ih => ?_) n
  · rw [textN_lt h]; intro c hc; simp at hc; unfold dig; omega
  · rw [textN_ge h]; intro c hc
    rcases List.mem_append.1 hc with hc | hc
    · exact ih c hc
    · simp at hc; unfold dig; omega
theorem textN_ne (n : Nat) : textN n ≠ [] := by
  by_cases h : n < 10
  · rw [textN_lt h]; simp
  · rw [textN_ge (by omega)]; simp
theorem valL_snoc (l : List Int) (d : Int) : ∀ n, valL (l ++ [d]) n = 10 * valL l n + (d - 48) := by
  induction l with
  | nil => intro n; rfl
  | cons c r ih => intro n; exact ih _
theorem valL_text (n : Nat) : valL (textN n) 0 = n := by
  refine textN_ind (M := fun n => valL (textN n) 0 = n) (fun n h => ?_) (fun n h ih => ?_) n
  · rw [textN_lt h]; simp only [valL]; omega
  · rw [textN_ge h, valL_snoc, ih]; omega
/-- More than one digit: the first one is not 0. -/
theorem textN_head (n : Nat) : 1 < (textN n).length → (textN n).getD 0 0 ≠ 48 := by
  refine textN_ind (M := fun n => 1 < (textN n).length → (textN n).getD 0 0 ≠ 48) (fun n h => ?_) (fun n h ih => ?_) n
  · rw [textN_lt h]; simp
  · rw [textN_ge h]
    intro _
    have hne := (List.length_pos_iff.2 (textN_ne (n / 10)))
    rw [List.getD_eq_getElem?_getD, List.getElem?_append_left hne, ← List.getD_eq_getElem?_getD]
    by_cases h2 : n / 10 < 10
    · rw [textN_lt h2]; simp; omega
    · refine ih ?_
      rw [textN_ge (n := n / 10) (by omega)]
      have := (List.length_pos_iff.2 (textN_ne (n / 10 / 10)))
      simp
      omega
theorem valL_pos (l : List Int) (hd : ∀ c ∈ l, dig c) (hne : l ≠ []) (hh : l.getD 0 0 ≠ 48) : 1 ≤ valL l 0 := by
  cases l with
  | nil => exact absurd rfl hne
  | cons c r =>
    have hc := hd c (by simp)
    unfold dig at hc
    simp at hh
    have := valL_ge r (fun x hx => hd x (by simp [hx])) (10 * 0 + (c - 48)) (by omega)
    unfold valL
    omega
theorem textN_val' (m : Nat) : ∀ l : List Int, l.length = m + 1 → (∀ c ∈ l, dig c) → (1 < l.length → l.getD 0 0 ≠ 48) → textN (valL l 0).toNat = l := by
  induction m with
  | zero =>
    intro l hl hd hh
    match l, hl with
    | [c], _ =>
      have hc := hd c (by simp)
      unfold dig at hc
      simp only [valL]
      rw [textN_lt (by omega)]
      congr 1
      omega
  | succ m ih =>
    intro l hl hd hh
    obtain ⟨i, d, rfl⟩ : ∃ i d, l = i ++ [d] := ⟨l.dropLast, l.getLast (by intro e; simp [e] at hl), (List.dropLast_concat_getLast _).symm⟩
    have hil : i.length = m + 1 := by simpa using hl
    have hine : i ≠ [] := by intro e; rw [e] at hil; simp at hil
    have hid : ∀ c ∈ i, dig c := fun c hc => hd c (by simp [hc])
    have h0 := hh (by simp; omega)
    rw [List.getD_eq_getElem?_getD, List.getElem?_append_left (by omega), ← List.getD_eq_getElem?_getD] at h0
    have hv := valL_pos i hid hine h0
    have hc := hd d (by simp)
    unfold dig at hc
    have ih := ih i hil hid (fun _ => h0)
    rw [valL_snoc, textN_ge (by omega), show (10 * valL i 0 + (d - 48)).toNat / 10 = (valL i 0).toNat by omega, ih]
    congr 2
    omega
theorem textN_val (l : List Int) (hne : l ≠ []) (hd : ∀ c ∈ l, dig c) (hh : 1 < l.length → l.getD 0 0 ≠ 48) : textN (valL l 0).toNat = l :=
  textN_val' (l.length - 1) l (by have := (List.length_pos_iff.2 hne); omega) hd hh
theorem valL_nonneg (l : List Int) (hd : ∀ c ∈ l, dig c) : 0 ≤ valL l 0 := valL_ge l hd 0 (Int.le_refl _)
theorem textN_len (m : Nat) : ∀ n, n < 10 ^ (m + 1) → (textN n).length ≤ m + 1 := by
  induction m with
  | zero => intro n h; rw [textN_lt (by simpa using h)]; simp
  | succ m ih =>
    intro n h
    by_cases h2 : n < 10
    · rw [textN_lt h2]; simp
    · rw [textN_ge (by omega)]
      have := ih (n / 10) (by rw [Nat.div_lt_iff_lt_mul (by omega)]; rw [Nat.pow_succ] at h; exact h)
      simp
      omega
/-- A decimal's number. -/
def parseL (l : List Int) : Int × Bool :=
  if l = [] ∨ (leadL l 0).2 < l.length ∨ (leadL l 0).1 > 999999999 ∨ 1 < l.length ∧ l.getD 0 0 = 48 then (0, false) else ((leadL l 0).1, true)
theorem parseL_text (n : Nat) (h : n ≤ 999999999) : parseL (textN n) = ((n : Int), true) := by
  have hv := valL_text n
  have hl := leadL_val (textN n) (textN_dig n) 0 (Int.le_refl _) (by rw [hv]; omega)
  have ha := (leadL_all (textN n) 0).2 (textN_dig n)
  unfold parseL
  rw [if_neg, hl, hv]
  rw [hl, hv, ha]
  rintro (e | e | e | e)
  · exact textN_ne n e
  · omega
  · omega
  · exact textN_head n e.1 e.2
theorem parseL_back (l : List Int) (h : (parseL l).2 = true) : 0 ≤ (parseL l).1 ∧ (parseL l).1 ≤ 999999999 ∧ textN (parseL l).1.toNat = l := by
  unfold parseL at h ⊢
  by_cases hc : l = [] ∨ (leadL l 0).2 < l.length ∨ (leadL l 0).1 > 999999999 ∨ 1 < l.length ∧ l.getD 0 0 = 48
  · rw [if_pos hc] at h; simp at h
  · rw [if_neg hc]
    simp only [not_or, not_and] at hc
    obtain ⟨h1, h2, h3, h4⟩ := hc
    have hle := leadL_le l 0
    have hd := (leadL_all l 0).1 (by omega)
    have hs := leadL_small l hd 0 (Int.le_refl _) (by omega)
    simp only
    rw [hs] at h3 ⊢
    exact ⟨valL_nonneg l hd, by omega, textN_val l h1 hd h4⟩
/-- The reference's word: the digits of the number are the text. -/
theorem parseL_iff (l : List Int) : parseL l = if l = [] ∨ (leadL l 0).2 ≠ l.length ∨ (leadL l 0).1 > 999999999 ∨ textN (leadL l 0).1.toNat ≠ l then (0, false) else ((leadL l 0).1, true) := by
  unfold parseL
  have hle := leadL_le l 0
  by_cases h1 : l = []
  · rw [if_pos (.inl h1), if_pos (.inl h1)]
  by_cases h2 : (leadL l 0).2 = l.length
  · by_cases h3 : (leadL l 0).1 > 999999999
    · rw [if_pos (.inr (.inr (.inl h3))), if_pos (.inr (.inr (.inl h3)))]
    · have hd := (leadL_all l 0).1 h2
      have hs := leadL_small l hd 0 (Int.le_refl _) (by omega)
      by_cases h4 : 1 < l.length ∧ l.getD 0 0 = 48
      · have hn : textN (leadL l 0).1.toNat ≠ l := by
          intro e
          have := textN_head (leadL l 0).1.toNat
          rw [e] at this
          exact this h4.1 h4.2
        rw [if_pos (.inr (.inr (.inr h4))), if_pos (.inr (.inr (.inr hn)))]
      · have ht := textN_val l h1 hd (fun a b => h4 ⟨a, b⟩)
        rw [if_neg, if_neg]
        · rintro (e | e | e | e)
          · exact h1 e
          · exact e h2
          · exact h3 e
          · rw [hs] at e; exact e ht
        · rintro (e | e | e | e)
          · exact h1 e
          · omega
          · exact h3 e
          · exact h4 e
  · rw [if_pos (.inr (.inl (by omega))), if_pos (.inr (.inl h2))]

/-! ### digits of 16 -/
def hx (k : Nat) : Int := if k < 10 then 48 + k else 87 + k
def value (c : Int) : Int := if 48 ≤ c ∧ c ≤ 57 then c - 48 else if 97 ≤ c ∧ c ≤ 102 then c - 87 else if 65 ≤ c ∧ c ≤ 70 then c - 55 else -1
theorem value_hx (k : Nat) (h : k < 16) : value (hx k) = k := by unfold value hx; repeat' split
                                                                 all_goals omega
theorem value_le (c : Int) : -1 ≤ value c ∧ value c ≤ 15 := by unfold value; repeat' split
                                                               all_goals omega
def hexL : List Int → Int → Option Int
  | [], n => some n
  | c :: r, n => if value c < 0 then none else hexL r (16 * n + value c)
def hexTL : Nat → Nat → Nat → List Int → List Int
  | 0, _, _, acc => acc
  | m + 1, n, l, acc => if 0 < n ∨ acc.length < l then hexTL m (n / 16) l (hx (n % 16) :: acc) else acc
theorem hexTL_val (m : Nat) : ∀ (n l : Nat) (acc : List Int) (v : Int), n < 16 ^ m → hexL acc n = some v → hexL (hexTL m n l acc) 0 = some v := by
  induction m with
  | zero => intro n l acc v h hv; have : n = 0 := by simp at h; omega
            subst this; exact hv
  | succ m ih =>
    intro n l acc v h hv
    unfold hexTL
    split
    · refine ih _ _ _ _ ?_ ?_
      · rw [Nat.div_lt_iff_lt_mul (by omega)]; rw [Nat.pow_succ] at h; exact h
      · unfold hexL
        rw [value_hx _ (by omega), if_neg (by omega), show (16 * ((n / 16 : Nat) : Int) + ((n % 16 : Nat) : Int)) = (n : Int) by omega]
        exact hv
    · rename_i hc
      have : n = 0 := by omega
      subst this; exact hv
theorem hexTL_len (m : Nat) : ∀ (n l : Nat) (acc : List Int) (c : Nat), n < 16 ^ c → l ≤ acc.length + c → (hexTL m n l acc).length ≤ acc.length + c := by
  induction m with
  | zero => intro n l acc c _ _; simp [hexTL]
  | succ m ih =>
    intro n l acc c h hl
    unfold hexTL
    split
    · rename_i hc
      cases c with
      | zero => simp at h; omega
      | succ c =>
        have := ih (n / 16) l (hx (n % 16) :: acc) c (by rw [Nat.div_lt_iff_lt_mul (by omega)]; rw [Nat.pow_succ] at h; exact h) (by simp; omega)
        simp at this
        omega
    · omega
theorem hexTL_ne (m : Nat) : ∀ n l acc, 0 < l → 0 < m → hexTL m n l acc ≠ [] := by
  have key : ∀ m n l acc, acc ≠ [] → hexTL m n l acc ≠ [] := by
    intro m
    induction m with
    | zero => intro n l acc h; exact h
    | succ m ih =>
      intro n l acc h
      unfold hexTL
      split
      · exact ih _ _ _ (by simp)
      · exact h
  intro n l acc hl hm
  obtain ⟨m, rfl⟩ : ∃ k, m = k + 1 := ⟨m - 1, by omega⟩
  unfold hexTL
  split
  · exact key _ _ _ _ (by simp)
  · rename_i hc
    intro e
    rw [e] at hc
    simp at hc
    omega
theorem hx_range (k : Nat) (h : k < 16) : 0 ≤ hx k ∧ hx k < 256 := by unfold hx; split <;> omega
end Go.Proofs.YtfknoaokoncneaaDoor.PlD

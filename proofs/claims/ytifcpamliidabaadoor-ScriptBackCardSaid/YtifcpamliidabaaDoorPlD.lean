import Derived.Test.YtifcpamliidabaaDoorWWords
import Derived.Test.YtifcpamliidabaaDoorWMore
/- Plain facts about strings of bytes: where a run of bytes of one kind ends, and the words of a line. No program in sight. -/
namespace Go.Proofs.YtifcpamliidabaaDoor.Pl
open Go.RowKit Go.Proofs.YtifcpamliidabaaDoorW.PrintWords

/-! ### where a run of bytes ends -/
def runN (p : Int → Bool) (s : ByteArray) : Nat → Nat → Nat
  | 0, i => i
  | d + 1, i => if p (bt s (i : Int)) = true then runN p s d (i + 1) else i
def run (p : Int → Bool) (s : ByteArray) (i : Nat) : Nat := runN p s (s.size - i) i

theorem run_next {p : Int → Bool} {s : ByteArray} {i : Nat} (h : i < s.size) (hp : p (bt s (i : Int)) = true) : run p s i = run p s (i + 1) := by
  unfold run
  rw [show s.size - i = s.size - (i + 1) + 1 by omega, runN, if_pos hp]
theorem run_here {p : Int → Bool} {s : ByteArray} {i : Nat} (h : i < s.size) (hp : p (bt s (i : Int)) = false) : run p s i = i := by
  unfold run
  rw [show s.size - i = s.size - (i + 1) + 1 by omega, runN, if_neg (by simp [hp])]
theorem run_end {p : Int → Bool} {s : ByteArray} {i : Nat} (h : s.size ≤ i) : run p s i = i := by
  unfold run
  rw [show s.size - i = 0 by omega, runN]
/-- A run is told by its rounds. -/
theorem run_ind {p : Int → Bool} {s : ByteArray} {M : Nat → Prop} (h1 : ∀ i, i < s.size → p (bt s (i : Int)) = true → M (i + 1) → M i) (h2 : ∀ i, i < s.size → p (bt s (i : Int)) = false → M i) (h3 : ∀ i, s.size ≤ i → M i) (i : Nat) : M i := by
  generalize hd : s.size - i = d
  induction d generalizing i with
  | zero => exact h3 i (by omega)
  | succ d ih =>
    cases hp : p (bt s (i : Int)) with
    | true => exact h1 i (by omega) hp (ih (i + 1) (by omega))
    | false => exact h2 i (by omega) hp
theorem run_ge (p : Int → Bool) (s : ByteArray) (i : Nat) : i ≤ run p s i := by
  refine run_ind (p := p) (s := s) (M := fun i => i ≤ run p s i) (fun i h hp ih => ?_) (fun i h hp => ?_) (fun i h => ?_) i
  · rw [run_next h hp]; omega
  · rw [run_here h hp]; omega
  · rw [run_end h]; omega
theorem run_le (p : Int → Bool) (s : ByteArray) (i : Nat) (hi : i ≤ s.size) : run p s i ≤ s.size := by
  refine run_ind (p := p) (s := s) (M := fun i => i ≤ s.size → run p s i ≤ s.size) (fun i h hp ih _ => ?_) (fun i h hp _ => ?_) (fun i h _ => ?_) i hi
  · rw [run_next h hp]; exact ih (by omega)
  · rw [run_here h hp]; omega
  · rw [run_end h]; omega
theorem run_same (p : Int → Bool) (s : ByteArray) (i : Nat) (d : Nat) : ∀ j, j - i = d → i ≤ j → j ≤ s.size → (∀ k : Nat, i ≤ k → k < j → p (bt s (k : Int)) = true) → run p s i = run p s j := by
  induction d with
  | zero => intro j hd h1 h2 h; have : j = i := by omega
            rw [this]
  | succ d ih =>
    intro j hd h1 h2 h
    rw [ih (j - 1) (by omega) (by omega) (by omega) (fun k a b => h k a (by omega))]
    have := run_next (p := p) (s := s) (i := j - 1) (by omega) (h (j - 1) (by omega) (by omega))
    rw [this, show j - 1 + 1 = j by omega]
theorem run_eq (p : Int → Bool) (s : ByteArray) (i j : Nat) (h1 : i ≤ j) (h2 : j ≤ s.size) (h : ∀ k : Nat, i ≤ k → k < j → p (bt s (k : Int)) = true) (hs : j < s.size → p (bt s (j : Int)) = false) : run p s i = j := by
  rw [run_same p s i _ j rfl h1 h2 h]
  by_cases e : j < s.size
  · exact run_here e (hs e)
  · exact run_end (by omega)

/-! ### a text from a byte on -/
theorem size_from (s : ByteArray) (a : Nat) : (s.extract a s.size).size = s.size - a := by simp
theorem bt_from (s : ByteArray) (a k : Nat) (h : a + k < s.size) : bt (s.extract a s.size) (k : Int) = bt s ((a + k : Nat) : Int) := by
  have h1 : k < (s.extract a s.size).size := by rw [size_from]; omega
  unfold bt
  rw [dif_pos (by simpa using h1), dif_pos (by rw [Int.toNat_natCast]; exact h)]
  simp only [Int.toNat_natCast, ByteArray.getElem_extract]
theorem run_from (p : Int → Bool) (s : ByteArray) (a : Nat) (ha : a ≤ s.size) (d : Nat) : ∀ k, s.size - (a + k) = d → a + k ≤ s.size → a + run p (s.extract a s.size) k = run p s (a + k) := by
  induction d with
  | zero =>
    intro k hd hk
    rw [run_end (by rw [size_from]; omega), run_end (by omega)]
  | succ d ih =>
    intro k hd hk
    have hb := bt_from s a k (by omega)
    cases hp : p (bt s ((a + k : Nat) : Int)) with
    | true => rw [run_next (by rw [size_from]; omega) (by rw [hb]; exact hp), run_next (i := a + k) (by omega) hp]; exact ih (k + 1) (by omega) (by omega)
    | false => rw [run_here (by rw [size_from]; omega) (by rw [hb]; exact hp), run_here (i := a + k) (by omega) hp]

/-! ### words -/
def bl (c : Int) : Bool := c == 32 || c == 9
def nb (c : Int) : Bool := !bl c
def fromW (s : ByteArray) (i : Nat) : Nat := run bl s i
def toW (s : ByteArray) (i : Nat) : Nat := run nb s (fromW s i)
theorem fromW_ge (s : ByteArray) (i : Nat) : i ≤ fromW s i := run_ge _ _ _
theorem toW_ge (s : ByteArray) (i : Nat) : fromW s i ≤ toW s i := run_ge _ _ _
theorem fromW_le (s : ByteArray) (i : Nat) (h : i ≤ s.size) : fromW s i ≤ s.size := run_le _ _ _ h
theorem toW_le (s : ByteArray) (i : Nat) (h : i ≤ s.size) : toW s i ≤ s.size := run_le _ _ _ (fromW_le s i h)
theorem fromW_here {s : ByteArray} {i : Nat} (h : i < s.size) (hb : bl (bt s (i : Int)) = false) : fromW s i = i := run_here h hb
theorem nb_of {c : Int} (h : bl c = false) : nb c = true := by simp [nb, h]
end Go.Proofs.YtifcpamliidabaaDoor.Pl

/- Plain facts about texts as lists of numbers, and about digits. No program in sight. -/
namespace Go.Proofs.YtifcpamliidabaaDoor.PlD
open Go.RowKit Go.Proofs.YtifcpamliidabaaDoorW.PrintWords

theorem wrap_in {n : Int} (h1 : -9223372036854775808 ≤ n) (h2 : n ≤ 9223372036854775807) : wrap64 n = n := by unfold wrap64; omega

/-! ### a text's numbers -/
def L (s : ByteArray) : List Int := s.data.toList.map fun b => (b.toNat : Int)
theorem L_len (s : ByteArray) : (L s).length = s.size := by simp [L]
theorem L_get (s : ByteArray) (i : Nat) : (L s).getD i 0 = bt s (i : Int) := by
  unfold bt L
  rw [Int.toNat_natCast, List.getD_eq_getElem?_getD]
  by_cases h : i < s.size
  · rw [dif_pos h, List.getElem?_map, Array.getElem?_toList, Array.getElem?_eq_getElem (by exact h)]
    rfl
  · rw [dif_neg h, List.getElem?_eq_none (by simp; exact Nat.le_of_not_lt h)]
    rfl
theorem L_drop (s : ByteArray) (i : Nat) (h : i < s.size) : (L s).drop i = bt s (i : Int) :: (L s).drop (i + 1) := by
  rw [← L_get, List.getD_eq_getElem?_getD, List.getElem?_eq_getElem (by rw [L_len]; exact h), Option.getD_some]
  exact List.drop_eq_getElem_cons (by rw [L_len]; exact h)
theorem L_inj {s t : ByteArray} : s.toList = t.toList ↔ L s = L t := by
  rw [ByteArray.toList_eq, ByteArray.toList_eq]
  constructor
  · intro h; unfold L; rw [h]
  · intro h
    unfold L at h
    have : Function.Injective (fun b : UInt8 => (b.toNat : Int)) := fun a b h => by
      have h : (a.toNat : Int) = (b.toNat : Int) := h
      exact UInt8.toNat_inj.1 (by omega)
    exact List.map_inj_right (fun a b h => this h) |>.1 h
theorem L_append (s t : ByteArray) : L (s ++ t) = L s ++ L t := by
  simp [L]
theorem L_nums (xs : List Int) (h : ∀ x ∈ xs, 0 ≤ x ∧ x < 256) : L (strOfNums xs) = xs := by
  unfold L
  rw [strOfNums_data, List.map_map]
  conv => rhs; rw [← List.map_id xs]
  apply List.map_congr_left
  intro x hx
  have := h x hx
  simp only [Function.comp, id]
  rw [UInt8.toNat_ofNat']
  omega
theorem L_nil {s : ByteArray} : s.toList = ([] : List UInt8) ↔ L s = [] := by
  rw [ByteArray.toList_eq]; unfold L; simp
theorem L_byte (s : ByteArray) : ∀ x ∈ L s, 0 ≤ x ∧ x < 256 := by
  intro x hx
  unfold L at hx
  obtain ⟨b, _, rfl⟩ := List.mem_map.1 hx
  have := b.toNat_lt
  omega

/-! ### decimals -/
def dig (c : Int) : Prop := 48 ≤ c ∧ c ≤ 57
instance (c : Int) : Decidable (dig c) := by unfold dig; infer_instance
def leadL : List Int → Int → Int × Nat
  | [], n => (n, 0)
  | c :: r, n => if dig c then ((leadL r (min (10 * n + (c - 48)) 1000000000)).1, (leadL r (min (10 * n + (c - 48)) 1000000000)).2 + 1) else (n, 0)
def valL : List Int → Int → Int
  | [], n => n
  | c :: r, n => valL r (10 * n + (c - 48))
theorem leadL_le (l : List Int) : ∀ n, (leadL l n).2 ≤ l.length := by
  induction l with
  | nil => intro n; simp [leadL]
  | cons c r ih =>
    intro n
    unfold leadL
    split
    · have := ih (min (10 * n + (c - 48)) 1000000000); simp; omega
    · simp
theorem leadL_all (l : List Int) : ∀ n, ((leadL l n).2 = l.length ↔ ∀ c ∈ l, dig c) := by
  induction l with
  | nil => intro n; simp [leadL]
  | cons c r ih =>
    intro n
    unfold leadL
    split
    · rename_i h
      simp only [List.length_cons, Nat.add_right_cancel_iff, ih, List.mem_cons, forall_eq_or_imp]
      exact ⟨fun x => ⟨h, x⟩, fun x => x.2⟩
    · rename_i h
      simp only [List.length_cons, List.mem_cons, forall_eq_or_imp]
      constructor
      · intro e; omega
      · intro e; exact absurd e.1 h
theorem valL_ge (l : List Int) (hd : ∀ c ∈ l, dig c) : ∀ n, 0 ≤ n → n ≤ valL l n := by
  induction l with
  | nil => intro n _; exact Int.le_refl _
  | cons c r ih =>
    intro n h
    have hc := hd c (by simp)
    unfold dig at hc
    have := ih (fun x hx => hd x (by simp [hx])) (10 * n + (c - 48)) (by omega)
    unfold valL
    omega
theorem leadL_sat (l : List Int) (hd : ∀ c ∈ l, dig c) : (leadL l 1000000000).1 = 1000000000 := by
  induction l with
  | nil => rfl
  | cons c r ih =>
    have hc := hd c (by simp)
    unfold leadL
    rw [if_pos hc]
    unfold dig at hc
    rw [show min (10 * 1000000000 + (c - 48)) 1000000000 = (1000000000 : Int) by omega]
    exact ih (fun x hx => hd x (by simp [hx]))
theorem leadL_val (l : List Int) (hd : ∀ c ∈ l, dig c) : ∀ n, 0 ≤ n → valL l n ≤ 999999999 → (leadL l n).1 = valL l n := by
  induction l with
  | nil => intro n _ _; rfl
  | cons c r ih =>
    intro n h hv
    have hc := hd c (by simp)
    have hd' : ∀ x ∈ r, dig x := fun x hx => hd x (by simp [hx])
    unfold leadL
    rw [if_pos hc]
    unfold dig at hc
    unfold valL at hv ⊢
    have := valL_ge r hd' (10 * n + (c - 48)) (by omega)
    rw [show min (10 * n + (c - 48)) 1000000000 = 10 * n + (c - 48) by omega]
    exact ih hd' _ (by omega) hv
theorem leadL_small (l : List Int) (hd : ∀ c ∈ l, dig c) : ∀ n, 0 ≤ n → (leadL l n).1 ≤ 999999999 → (leadL l n).1 = valL l n := by
  induction l with
  | nil => intro n _ _; rfl
  | cons c r ih =>
    intro n h hv
    have hc := hd c (by simp)
    have hd' : ∀ x ∈ r, dig x := fun x hx => hd x (by simp [hx])
    unfold leadL at hv ⊢
    rw [if_pos hc] at hv ⊢
    unfold dig at hc
    unfold valL
    by_cases hb : 10 * n + (c - 48) ≤ 1000000000
    · rw [show min (10 * n + (c - 48)) 1000000000 = 10 * n + (c - 48) by omega] at hv ⊢
      exact ih hd' _ (by omega) hv
    · rw [show min (10 * n + (c - 48)) 1000000000 = (1000000000 : Int) by omega] at hv
      have := leadL_sat r hd'
      simp only at hv
      omega
/-- A number's digits. -/
def textN (n : Nat) : List Int := if _h : n < 10 then [48 + (n : Int)] else textN (n / 10) ++ [48 + ((n % 10 : Nat) : Int)]
termination_by n
decreasing_by omega
theorem textN_lt {n : Nat} (h : n < 10) : textN n = [48 + (n : Int)] := by rw [textN, dif_pos h]
theorem textN_ge {n : Nat} (h : 10 ≤ n) : textN n = textN (n / 10) ++ [48 + ((n % 10 : Nat) : Int)] := by rw [textN, dif_neg (by omega)]
theorem textN_ind {M : Nat → Prop} (h1 : ∀ n, n < 10 → M n) (h2 : ∀ n, 10 ≤ n → M (n / 10) → M n) (n : Nat) : M n := by
  induction n using Nat.strongRecOn with
  | _ n ih =>
    by_cases h : n < 10
    · exact h1 n h
    · exact h2 n (by omega) (ih (n / 10) (by omega))
theorem textN_dig (n : Nat) : ∀ c ∈ textN n, dig c := by
  refine textN_ind (M := fun n => ∀ c ∈ textN n, dig c) (fun n h => ?_) (fun n h ih => ?_) n
  · rw [textN_lt h]; intro c hc; simp at hc; unfold dig; omega
  · rw [textN_ge h]; intro c hc
    rcases List.mem_append.1 hc with hc | hc
    · exact ih c hc
    · simp at hc; unfold dig; omega
theorem textN_ne (n : Nat) : textN n ≠ [] := by
  by_cases h : n < 10
  · rw [textN_lt h]; simp
  · rw [textN_ge (by omega)]; simp
theorem valL_snoc (l : List Int) (d : Int) : ∀ n, valL (l ++ [d]) n = 10 * valL l n + (d - 48) := by
  induction l with
  | nil => intro n; rfl
  | cons c r ih => intro n; exact ih _
theorem valL_text (n : Nat) : valL (textN n) 0 = n := by
  refine textN_ind (M := fun n => valL (textN n) 0 = n) (fun n h => ?_) (fun n h ih => ?_) n
  · rw [textN_lt h]; simp only [valL]; omega
  · rw [textN_ge h, valL_snoc, ih]; omega
/-- More than one digit: the first one is not 0. -/
theorem textN_head (n : Nat) : 1 < (textN n).length → (textN n).getD 0 0 ≠ 48 := by
  refine textN_ind (M := fun n => 1 < (textN n).length → (textN n).getD 0 0 ≠ 48) (fun n h => ?_) (fun n h ih => ?_) n
  · rw [textN_lt h]; simp
  · rw [textN_ge h]
    intro _
    have hne := (List.length_pos_iff.2 (textN_ne (n / 10)))
    rw [List.getD_eq_getElem?_getD, List.getElem?_append_left hne, ← List.getD_eq_getElem?_getD]
    by_cases h2 : n / 10 < 10
    · rw [textN_lt h2]; simp; omega
    · refine ih ?_
      rw [textN_ge (n := n / 10) (by omega)]
      have := (List.length_pos_iff.2 (textN_ne (n / 10 / 10)))
      simp
      omega
theorem valL_pos (l : List Int) (hd : ∀ c ∈ l, dig c) (hne : l ≠ []) (hh : l.getD 0 0 ≠ 48) : 1 ≤ valL l 0 := by
  cases l with
  | nil => exact absurd rfl hne
  | cons c r =>
    have hc := hd c (by simp)
    unfold dig at hc
    simp at hh
    have := valL_ge r (fun x hx => hd x (by simp [hx])) (10 * 0 + (c - 48)) (by omega)
    unfold valL
    omega
theorem textN_val' (m : Nat) : ∀ l : List Int, l.length = m + 1 → (∀ c ∈ l, dig c) → (1 < l.length → l.getD 0 0 ≠ 48) → textN (valL l 0).toNat = l := by
  induction m with
  | zero =>
    intro l hl hd hh
    match l, hl with
    | [c], _ =>
      have hc := hd c (by simp)
      unfold dig at hc
      simp only [valL]
      rw [textN_lt (by omega)]
      congr 1
      omega
  | succ m ih =>
    intro l hl hd hh
    obtain ⟨i, d, rfl⟩ : ∃ i d, l = i ++ [d] := ⟨l.dropLast, l.getLast (by intro e; simp [e] at hl), (List.dropLast_concat_getLast _).symm⟩
    have hil : i.length = m + 1 := by simpa using hl
    have hine : i ≠ [] := by intro e; rw [e] at hil; simp at hil
    have hid : ∀ c ∈ i, dig c := fun c hc => hd c (by simp [hc])
    have h0 := hh (by simp; omega)
    rw [List.getD_eq_getElem?_getD, List.getElem?_append_left (by omega), ← List.getD_eq_getElem?_getD] at h0
    have hv := valL_pos i hid hine h0
    have hc := hd d (by simp)
    unfold dig at hc
    have ih := ih i hil hid (fun _ => h0)
    rw [valL_snoc, textN_ge (by omega), show (10 * valL i 0 + (d - 48)).toNat / 10 = (valL i 0).toNat by omega, ih]
    congr 2
    omega
theorem textN_val (l : List Int) (hne : l ≠ []) (hd : ∀ c ∈ l, dig c) (hh : 1 < l.length → l.getD 0 0 ≠ 48) : textN (valL l 0).toNat = l :=
  textN_val' (l.length - 1) l (by have := (List.length_pos_iff.2 hne); omega) hd hh
theorem valL_nonneg (l : List Int) (hd : ∀ c ∈ l, dig c) : 0 ≤ valL l 0 := valL_ge l hd 0 (Int.le_refl _)
theorem textN_len (m : Nat) : ∀ n, n < 10 ^ (m + 1) → (textN n).length ≤ m + 1 := by
  induction m with
  | zero => intro n h; rw [textN_lt (by simpa using h)]; simp
  | succ m ih =>
    intro n h
    by_cases h2 : n < 10
    · rw [textN_lt h2]; simp
    · rw [textN_ge (by omega)]
      have := ih (n / 10) (by rw [Nat.div_lt_iff_lt_mul (by omega)]; rw [Nat.pow_succ] at h; exact h)
      simp
      omega
/-- A decimal's number. -/
def parseL (l : List Int) : Int × Bool :=
  if l = [] ∨ (leadL l 0).2 < l.length ∨ (leadL l 0).1 > 999999999 ∨ 1 < l.length ∧ l.getD 0 0 = 48 then (0, false) else ((leadL l 0).1, true)
theorem parseL_text (n : Nat) (h : n ≤ 999999999) : parseL (textN n) = ((n : Int), true) := by
  have hv := valL_text n
  have hl := leadL_val (textN n) (textN_dig n) 0 (Int.le_refl _) (by rw [hv]; omega)
  have ha := (leadL_all (textN n) 0).2 (textN_dig n)
  unfold parseL
  rw [if_neg, hl, hv]
  rw [hl, hv, ha]
  rintro (e | e | e | e)
  · exact textN_ne n e
  · omega
  · omega
  · exact textN_head n e.1 e.2
theorem parseL_back (l : List Int) (h : (parseL l).2 = true) : 0 ≤ (parseL l).1 ∧ (parseL l).1 ≤ 999999999 ∧ textN (parseL l).1.toNat = l := by
  unfold parseL at h ⊢
  by_cases hc : l = [] ∨ (leadL l 0).2 < l.length ∨ (leadL l 0).1 > 999999999 ∨ 1 < l.length ∧ l.getD 0 0 = 48
  · rw [if_pos hc] at h; simp at h
  · rw [if_neg hc]
    simp only [not_or, not_and] at hc
    obtain ⟨h1, h2, h3, h4⟩ := hc
    have hle := leadL_le l 0
    have hd := (leadL_all l 0).1 (by omega)
    have hs := leadL_small l hd 0 (Int.le_refl _) (by omega)
    simp only
    rw [hs] at h3 ⊢
    exact ⟨valL_nonneg l hd, by omega, textN_val l h1 hd h4⟩
/-! ### digits of 16 -/
def hx (k : Nat) : Int := if k < 10 then 48 + k else 87 + k
def value (c : Int) : Int := if 48 ≤ c ∧ c ≤ 57 then c - 48 else if 97 ≤ c ∧ c ≤ 102 then c - 87 else if 65 ≤ c ∧ c ≤ 70 then c - 55 else -1
theorem value_le (c : Int) : -1 ≤ value c ∧ value c ≤ 15 := by unfold value; repeat' split
                                                               all_goals omega
def hexL : List Int → Int → Option Int
  | [], n => some n
  | c :: r, n => if value c < 0 then none else hexL r (16 * n + value c)
end Go.Proofs.YtifcpamliidabaaDoor.PlD

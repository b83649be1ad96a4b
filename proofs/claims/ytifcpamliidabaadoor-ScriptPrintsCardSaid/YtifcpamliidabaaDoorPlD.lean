import Derived.Test.YtifcpamliidabaaDoorWWords
import Derived.Test.YtifcpamliidabaaDoorWMore
/- Plain facts about strings of bytes: where a run of bytes of one kind ends, and the words of a line. No program in sight. -/
namespace Go.Proofs.YtifcpamliidabaaDoor.Pl
open Go.RowKit Go.Proofs.YtifcpamliidabaaDoorW.PrintWords

/-! ### where a run of bytes ends -/
def runN (p : Int → Bool) (s : ByteArray) : Nat → Nat → Nat
  | 0, i => i
  | d + 1, i => if p (bt s (i : Int)) = true then runN p s d (i + 1) else i
def run (p : Int → Bool) (s : ByteArray) (i : Nat) : Nat := runN p s (s.size - i) i

/-! ### words -/
def bl (c : Int) : Bool := c == 32 || c == 9
def nb (c : Int) : Bool := !bl c
end Go.Proofs.YtifcpamliidabaaDoor.Pl

/- Plain facts about texts as lists of numbers, and about digits. No program in sight. -/
namespace Go.Proofs.YtifcpamliidabaaDoor.PlD
open Go.RowKit Go.Proofs.YtifcpamliidabaaDoorW.PrintWords

theorem wrap_in {n : Int} (h1 : -9223372036854775808 ≤ n) (h2 : n ≤ 9223372036854775807) : wrap64 n = n := by unfold wrap64; omega

/-! ### a text's numbers -/
def L (s : ByteArray) : List Int := s.data.toList.map fun b => (b.toNat : Int)
theorem L_len (s : ByteArray) : (L s).length = s.size := by simp [L]
theorem L_get (s : ByteArray) (i : Nat) : (L s).getD i 0 = bt s (i : Int) := by
  unfold bt L
  rw [Int.toNat_natCast, List.getD_eq_getElem?_getD]
  by_cases h : i < s.size
  · rw [dif_pos h, List.getElem?_map, Array.getElem?_toList, Array.getElem?_eq_getElem (by exact h)]
    rfl
  · rw [dif_neg h, List.getElem?_eq_none (by simp; exact Nat.le_of_not_lt h)]
    rfl
theorem L_drop (s : ByteArray) (i : Nat) (h : i < s.size) : (L s).drop i = bt s (i : Int) :: (L s).drop (i + 1) := by
  rw [← L_get, List.getD_eq_getElem?_getD, List.getElem?_eq_getElem (by rw [L_len]; exact h), Option.getD_some]
  exact List.drop_eq_getElem_cons (by rw [L_len]; exact h)
theorem L_inj {s t : ByteArray} : s.toList = t.toList ↔ L s = L t := by
  rw [ByteArray.toList_eq, ByteArray.toList_eq]
  constructor
  · intro h; unfold L; rw [h]
  · intro h
    unfold L at h
    have : Function.Injective (fun b : UInt8 => (b.toNat : Int)) := fun a b h => by
      have h : (a.toNat : Int) = (b.toNat : Int) := h
      exact UInt8.toNat_inj.1 (by omega)
    exact List.map_inj_right (fun a b h => this h) |>.1 h
theorem L_append (s t : ByteArray) : L (s ++ t) = L s ++ L t := by
  simp [L]
theorem L_nums (xs : List Int) (h : ∀ x ∈ xs, 0 ≤ x ∧ x < 256) : L (strOfNums xs) = xs := by
  unfold L
  rw [strOfNums_data, List.map_map]
  conv => rhs; rw [← List.map_id xs]
  apply List.map_congr_left
  intro x hx
  have := h x hx
  simp only [Function.comp, id]
  rw [UInt8.toNat_ofNat']
  omega
theorem L_nil {s : ByteArray} : s.toList = ([] : List UInt8) ↔ L s = [] := by
  rw [ByteArray.toList_eq]; unfold L; simp
theorem L_byte (s : ByteArray) : ∀ x ∈ L s, 0 ≤ x ∧ x < 256 := by
  intro x hx
  unfold L at hx
  obtain ⟨b, _, rfl⟩ := List.mem_map.1 hx
  have := b.toNat_lt
  omega

/-! ### decimals -/
def dig (c : Int) : Prop := 48 ≤ c ∧ c ≤ 57
instance (c : Int) : Decidable (dig c) := by unfold dig; infer_instance
/-- A number's digits. -/
def textN (n : Nat) : List Int := if _h : n < 10 then [48 + (n : Int)] else textN (n / 10) ++ [48 + ((n % 10 : Nat) : Int)]
termination_by n
decreasing_by omega
theorem textN_lt {n : Nat} (h : n < 10) : textN n = [48 + (n : Int)] := by rw [textN, dif_pos h]
theorem textN_ge {n : Nat} (h : 10 ≤ n) : textN n = textN (n / 10) ++ [48 + ((n % 10 : Nat) : Int)] := by rw [textN, dif_neg (by omega)]
theorem textN_ind {M : Nat → Prop} (h1 : ∀ n, n < 10 → M n) (h2 : ∀ n, 10 ≤ n → M (n / 10) → M n) (n : Nat) : M n := by
  induction n using Nat.strongRecOn with
  | _ n ih =>
    by_cases h : n < 10
    · exact h1 n h
    · exact h2 n (by omega) (ih (n / 10) (by omega))
theorem textN_dig (n : Nat) : ∀ c ∈ textN n, dig c := by
  refine textN_ind (M := fun n => ∀ c ∈ textN n, dig c) (fun n h => ?_) (fun n h ih => ?_) n
  · rw [textN_lt h]; intro c hc; simp at hc; unfold dig; omega
  · rw [textN_ge h]; intro c hc
    rcases List.mem_append.1 hc with hc | hc
    · exact ih c hc
    · simp at hc; unfold dig; omega
theorem textN_len (m : Nat) : ∀ n, n < 10 ^ (m + 1) → (textN n).length ≤ m + 1 := by
  induction m with
  | zero => intro n h; rw [textN_lt (by simpa using h)]; simp
  | succ m ih =>
    intro n h
    by_cases h2 : n < 10
    · rw [textN_lt h2]; simp
    · rw [textN_ge (by omega)]
      have := ih (n / 10) (by rw [Nat.div_lt_iff_lt_mul (by omega)]; rw [Nat.pow_succ] at h; exact h)
      simp
      omega
/-! ### digits of 16 -/
def hx (k : Nat) : Int := if k < 10 then 48 + k else 87 + k
def value (c : Int) : Int := if 48 ≤ c ∧ c ≤ 57 then c - 48 else if 97 ≤ c ∧ c ≤ 102 then c - 87 else if 65 ≤ c ∧ c ≤ 70 then c - 55 else -1
end Go.Proofs.YtifcpamliidabaaDoor.PlD

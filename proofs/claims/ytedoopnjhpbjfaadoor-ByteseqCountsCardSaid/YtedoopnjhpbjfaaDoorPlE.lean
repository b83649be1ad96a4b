/- Texts as lists of numbers; a code point's bytes: what the printed functions tell. No condition. -/
import Derived.Test.YtedoopnjhpbjfaaDoorPBx4
import Derived.Test.YtedoopnjhpbjfaaDoorPBx5
import Derived.Test.YtedoopnjhpbjfaaDoorPBx6
set_option linter.unusedSimpArgs false
set_option linter.unusedVariables false
namespace Go.Proofs.YtedoopnjhpbjfaaDoor.PlE
open Go.RowKit Go.Proofs.YtedoopnjhpbjfaaDoorW.PrintWords Go.Proofs.YtedoopnjhpbjfaaDoorW.PrintLast Go.Proofs.YtedoopnjhpbjfaaDoorW.PrintMore Go.Proofs.YtedoopnjhpbjfaaDoor.PB
def L (s : ByteArray) : List Int := s.data.toList.map fun b => (b.toNat : Int)
theorem L_len (s : ByteArray) : (L s).length = s.size := by simp [L]
theorem L_get (s : ByteArray) (i : Nat) : (L s).getD i 0 = bt s (i : Int) := by
  unfold bt L
  rw [Int.toNat_natCast, List.getD_eq_getElem?_getD]
  by_cases h : i < s.size
  · rw [dif_pos h, List.getElem?_map, Array.getElem?_toList, Array.getElem?_eq_getElem (by exact h)]
    rfl
  · rw [dif_neg h, List.getElem?_eq_none (by simp; exact Nat.le_of_not_lt h)]
    rfl
theorem L_drop (s : ByteArray) (i : Nat) (h : i < s.size) : (L s).drop i = bt s (i : Int) :: (L s).drop (i + 1) := by
  rw [← L_get, List.getD_eq_getElem?_getD, List.getElem?_eq_getElem (by rw [L_len]; exact h), Option.getD_some]
  exact List.drop_eq_getElem_cons (by rw [L_len]; exact h)
theorem L_inj {s t : ByteArray} : s.toList = t.toList ↔ L s = L t := by
  rw [ByteArray.toList_eq, ByteArray.toList_eq]
  constructor
  · intro h; unfold L; rw [h]
  · intro h
    unfold L at h
    have : Function.Injective (fun b : UInt8 => (b.toNat : Int)) := fun a b h => by
      have h : (a.toNat : Int) = (b.toNat : Int) := h
      exact UInt8.toNat_inj.1 (by omega)
    exact List.map_inj_right (fun a b h => this h) |>.1 h
theorem L_append (s t : ByteArray) : L (s ++ t) = L s ++ L t := by
  simp [L]
theorem L_nums (xs : List Int) (h : ∀ x ∈ xs, 0 ≤ x ∧ x < 256) : L (strOfNums xs) = xs := by
  unfold L
  rw [strOfNums_data, List.map_map]
  conv => rhs; rw [← List.map_id xs]
  apply List.map_congr_left
  intro x hx
  have := h x hx
  simp only [Function.comp, id]
  rw [UInt8.toNat_ofNat']
  omega
theorem w32 (x : Int) (h0 : -2147483648 ≤ x) (h1 : x < 2147483648) : wrap32 x = x := by unfold wrap32; omega
theorem w64 (x : Int) (h0 : -9223372036854775808 ≤ x) (h1 : x < 9223372036854775808) : wrap64 x = x := by unfold wrap64; omega
theorem bt_byte (s : ByteArray) (i : Int) : 0 ≤ bt s i ∧ bt s i < 256 := by
  unfold bt
  split
  · have := (s[i.toNat]).toNat_lt; omega
  · omega
def sc (c : Int) : Bool := decide (0 ≤ c ∧ c ≤ 1114111 ∧ ¬ (55296 ≤ c ∧ c ≤ 57343))
theorem sc_iff (c : Int) : sc c = true ↔ 0 ≤ c ∧ c ≤ 1114111 ∧ ¬ (55296 ≤ c ∧ c ≤ 57343) := decide_eq_true_iff
theorem Scalar_f (c : Int) : utf_Scalar.f c = some (sc c) := by
  unfold utf_Scalar.f sc
  (repeat' split) <;> (congr 1; (first | (symm; rw [decide_eq_true_iff]; omega) | (symm; rw [decide_eq_false_iff_not]; omega) | (rw [decide_eq_decide]; omega)))
def encU (c : Int) : List Int :=
  if sc c = true then (if c < 128 then [c] else if c < 2048 then [192 + c / 64, 128 + c % 64] else if c < 65536 then [224 + c / 4096, 128 + c / 64 % 64, 128 + c % 64] else [240 + c / 262144, 128 + c / 4096 % 64, 128 + c / 64 % 64, 128 + c % 64]) else []
theorem encU_byte (c : Int) : ∀ x ∈ encU c, 0 ≤ x ∧ x < 256 := by
  intro x hx
  unfold encU at hx
  split at hx
  · rename_i h
    rw [sc_iff] at h
    (repeat' split at hx) <;> (simp only [List.mem_cons, List.not_mem_nil, or_false] at hx; omega)
  · cases hx
theorem encU_len (c : Int) : (encU c).length ≤ 4 := by
  unfold encU
  (repeat' split) <;> simp
theorem strNil : strOfNums [] = (⟨#[]⟩ : ByteArray) := rfl
theorem two_bytes (x0 c : Int) (k : Nat) (h0 : 128 ≤ c) (h1 : c < 2048) : utf8_appendRuneNonASCII.f k [] c = some [192 + c / 64, 128 + c % 64] := by
  unfold utf8_appendRuneNonASCII.f
  rw [if_pos (by omega), Option.bind_some, if_pos (by simp)]
  rw [bits_cont, Go.u8_or192 (c / 64 % 256) (by omega) (by omega), List.nil_append, show c / 64 % 256 = c / 64 by omega]
theorem three_bytes (c : Int) (k : Nat) (h0 : 2048 ≤ c) (h1 : c < 65536) (h2 : ¬ (55296 ≤ c ∧ c ≤ 57343)) : utf8_appendRuneNonASCII.f (k + 1) [] c = some [224 + c / 4096, 128 + c / 64 % 64, 128 + c % 64] := by
  have e : c % 4294967296 = c := by omega
  have fin : utf8_appendRuneNonASCII.j0 (k + 1) [] c c true = some [224 + c / 4096, 128 + c / 64 % 64, 128 + c % 64] := by
    rw [utf8_appendRuneNonASCII.j0, if_pos rfl, Option.bind_some, if_pos (by simp), bits_cont, bits_cont, Go.u8_or224 (c / 4096 % 256) (by omega) (by omega), List.nil_append, show c / 4096 % 256 = c / 4096 by omega]
  unfold utf8_appendRuneNonASCII.f
  rw [e, if_neg (by omega)]
  by_cases h : c < 55296
  · rw [if_pos h, decide_eq_true h, fin]
  · rw [if_neg h, if_pos (by omega), decide_eq_true (by omega), fin]
theorem four_bytes (c : Int) (k : Nat) (h0 : 65536 ≤ c) (h1 : c ≤ 1114111) : utf8_appendRuneNonASCII.f (k + 1) [] c = some [240 + c / 262144, 128 + c / 4096 % 64, 128 + c / 64 % 64, 128 + c % 64] := by
  have e : c % 4294967296 = c := by omega
  unfold utf8_appendRuneNonASCII.f
  rw [e, if_neg (by omega), if_neg (by omega), if_pos (by omega), decide_eq_false (by omega), utf8_appendRuneNonASCII.j0, if_neg (by decide), if_pos (by omega), if_pos h1, Option.bind_some, if_pos (by simp), bits_cont, bits_cont, bits_cont, Go.u8_or240 (c / 262144 % 256) (by omega) (by omega), List.nil_append, show c / 262144 % 256 = c / 262144 by omega]
theorem Put_f (c : Int) (k : Nat) : utf_Put.f (k + 1) c = some (strOfNums (encU c)) := by
  unfold utf_Put.f encU
  rw [Scalar_f, Option.bind_some]
  by_cases h : sc c = true
  · have hs := (sc_iff c).mp h
    rw [if_pos h, if_pos h, w32 c (by omega) (by omega)]
    unfold utf8_AppendRune.f
    have e : c % 4294967296 = c := by omega
    rw [e]
    by_cases h1 : c < 128
    · rw [if_pos (by omega), if_pos (by simp), if_pos h1, show c % 256 = c by omega]
      rfl
    · rw [if_neg (by omega), if_neg h1]
      by_cases h2 : c < 2048
      · rw [if_pos h2, two_bytes 0 c (k + 1) (by omega) h2]; rfl
      · rw [if_neg h2]
        by_cases h3 : c < 65536
        · rw [if_pos h3, three_bytes c k (by omega) h3 hs.2.2]; rfl
        · rw [if_neg h3, four_bytes c k (by omega) hs.2.1]; rfl
  · rw [if_neg h, if_neg h, strNil]
theorem Length_f (c : Int) (k : Nat) : utf_Length.f (k + 1) c = some ((encU c).length : Int) := by
  unfold utf_Length.f encU
  rw [Scalar_f, Option.bind_some]
  by_cases h : sc c = true
  · have hs := (sc_iff c).mp h
    rw [if_pos h, if_pos h, w32 c (by omega) (by omega)]
    unfold utf8_RuneLen.f
    rw [if_neg (by omega)]
    by_cases h1 : c < 128
    · rw [if_pos (by omega), if_pos h1]; rfl
    · rw [if_neg (by omega), if_neg h1]
      by_cases h2 : c < 2048
      · rw [if_pos (by omega), if_pos h2]; rfl
      · rw [if_neg (by omega), if_neg h2]
        have fin : utf8_RuneLen.j0 (k + 1) c false = some (if c < 65536 then 3 else 4) := by
          rw [utf8_RuneLen.j0, if_neg (by decide)]
          by_cases h3 : c < 65536
          · rw [if_pos (by omega), if_pos h3]
          · rw [if_neg (by omega), if_pos hs.2.1, if_neg h3]
        by_cases h4 : 55296 ≤ c
        · rw [if_pos h4, decide_eq_false (by omega), fin]
          by_cases h3 : c < 65536
          · rw [if_pos h3, if_pos h3]; rfl
          · rw [if_neg h3, if_neg h3]; rfl
        · rw [if_neg h4, fin]
          by_cases h3 : c < 65536
          · rw [if_pos h3, if_pos h3]; rfl
          · rw [if_neg h3, if_neg h3]; rfl
  · rw [if_neg h, if_neg h]; rfl
theorem L_enc (c : Int) : L (strOfNums (encU c)) = encU c := L_nums _ (encU_byte c)
theorem enc_size (c : Int) : (strOfNums (encU c)).size = (encU c).length := by rw [← L_len, L_enc]
def gs (l : List Int) (n : Nat) : Int :=
  if n = 1 then l.getD 0 0
  else if n = 2 then (l.getD 0 0 - 192) * 64 + (l.getD 1 0 - 128)
  else if n = 3 then ((l.getD 0 0 - 224) * 64 + (l.getD 1 0 - 128)) * 64 + (l.getD 2 0 - 128)
  else (((l.getD 0 0 - 240) * 64 + (l.getD 1 0 - 128)) * 64 + (l.getD 2 0 - 128)) * 64 + (l.getD 3 0 - 128)
def ok (l : List Int) (n : Nat) : Prop := sc (gs l n) = true ∧ encU (gs l n) = l.take n
theorem Put_k (c : Int) (k : Nat) (h : 1 ≤ k) : utf_Put.f k c = some (strOfNums (encU c)) := by
  obtain ⟨j, rfl⟩ : ∃ j, k = j + 1 := ⟨k - 1, by omega⟩
  exact Put_f c j
theorem Length_k (c : Int) (k : Nat) (h : 1 ≤ k) : utf_Length.f k c = some ((encU c).length : Int) := by
  obtain ⟨j, rfl⟩ : ∃ j, k = j + 1 := ⟨k - 1, by omega⟩
  exact Length_f c j
end Go.Proofs.YtedoopnjhpbjfaaDoor.PlE

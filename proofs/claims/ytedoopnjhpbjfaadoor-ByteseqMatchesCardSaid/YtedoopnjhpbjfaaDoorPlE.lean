/- Texts as lists of numbers; a code point's bytes: what the printed functions tell. No condition. -/
import Derived.Test.YtedoopnjhpbjfaaDoorPBx4
import Derived.Test.YtedoopnjhpbjfaaDoorPBx5
import Derived.Test.YtedoopnjhpbjfaaDoorPBx6
set_option linter.unusedSimpArgs false
set_option linter.unusedVariables false
namespace Go.Proofs.YtedoopnjhpbjfaaDoor.PlE
open Go.RowKit Go.Proofs.YtedoopnjhpbjfaaDoorW.PrintWords Go.Proofs.YtedoopnjhpbjfaaDoorW.PrintLast Go.Proofs.YtedoopnjhpbjfaaDoorW.PrintMore Go.Proofs.YtedoopnjhpbjfaaDoor.PB
def L (s : ByteArray) : List Int := s.data.toList.map fun b => (b.toNat : Int)
theorem L_len (s : ByteArray) : (L s).length = s.size := by simp [L]
theorem L_get (s : ByteArray) (i : Nat) : (L s).getD i 0 = bt s (i : Int) := by
  unfold bt L
  rw [Int.toNat_natCast, List.getD_eq_getElem?_getD]
  by_cases h : i < s.size
  · rw [dif_pos h, List.getElem?_map, Array.getElem?_toList, Array.getElem?_eq_getElem (by exact h)]
    rfl
  · rw [dif_neg h, List.getElem?_eq_none (by simp; exact Nat.le_of_not_lt h)]
    rfl
theorem L_drop (s : ByteArray) (i : Nat) (h : i < s.size) : (L s).drop i = bt s (i : Int) :: (L s).drop (i + 1) := by
  rw [← L_get, List.getD_eq_getElem?_getD, List.getElem?_eq_getElem (by rw [L_len]; exact h), Option.getD_some]
  exact List.drop_eq_getElem_cons (by rw [L_len]; exact h)
theorem L_inj {s t : ByteArray} : s.toList = t.toList ↔ L s = L t := by
  rw [ByteArray.toList_eq, ByteArray.toList_eq]
  constructor
  · intro h; unfold L; rw [h]
  · intro h
    unfold L at h
    have : Function.Injective (fun b : UInt8 => (b.toNat : Int)) := fun a b h => by
      have h : (a.toNat : Int) = (b.toNat : Int) := h
      exact UInt8.toNat_inj.1 (by omega)
    exact List.map_inj_right (fun a b h => this h) |>.1 h
theorem L_nums (xs : List Int) (h : ∀ x ∈ xs, 0 ≤ x ∧ x < 256) : L (strOfNums xs) = xs := by
  unfold L
  rw [strOfNums_data, List.map_map]
  conv => rhs; rw [← List.map_id xs]
  apply List.map_congr_left
  intro x hx
  have := h x hx
  simp only [Function.comp, id]
  rw [UInt8.toNat_ofNat']
  omega
theorem L_nil {s : ByteArray} : s.toList = ([] : List UInt8) ↔ L s = [] := by
  rw [ByteArray.toList_eq]; unfold L; simp
theorem L_byte (s : ByteArray) : ∀ x ∈ L s, 0 ≤ x ∧ x < 256 := by
  intro x hx
  unfold L at hx
  obtain ⟨b, _, rfl⟩ := List.mem_map.1 hx
  have := b.toNat_lt
  omega

def decB (n : Nat) (b0 b1 b2 b3 : Int) : Int × Int :=
  if n = 0 then (-1, 0)
  else if b0 < 128 then (b0, 1)
  else if b0 < 194 ∨ 244 < b0 then (-1, 1)
  else if b0 < 224 then (if 2 ≤ n ∧ 128 ≤ b1 ∧ b1 ≤ 191 then ((b0 - 192) * 64 + (b1 - 128), 2) else (-1, 1))
  else if b0 < 240 then (if 3 ≤ n ∧ (if b0 = 224 then 160 else 128) ≤ b1 ∧ b1 ≤ (if b0 = 237 then 159 else 191) ∧ 128 ≤ b2 ∧ b2 ≤ 191 then ((b0 - 224) * 4096 + (b1 - 128) * 64 + (b2 - 128), 3) else (-1, 1))
  else (if 4 ≤ n ∧ (if b0 = 240 then 144 else 128) ≤ b1 ∧ b1 ≤ (if b0 = 244 then 143 else 191) ∧ 128 ≤ b2 ∧ b2 ≤ 191 ∧ 128 ≤ b3 ∧ b3 ≤ 191 then ((b0 - 240) * 262144 + (b1 - 128) * 4096 + (b2 - 128) * 64 + (b3 - 128), 4) else (-1, 1))
theorem w32 (x : Int) (h0 : -2147483648 ≤ x) (h1 : x < 2147483648) : wrap32 x = x := by unfold wrap32; omega
theorem w64 (x : Int) (h0 : -9223372036854775808 ≤ x) (h1 : x < 9223372036854775808) : wrap64 x = x := by unfold wrap64; omega
theorem bt_byte (s : ByteArray) (i : Int) : 0 ≤ bt s i ∧ bt s i < 256 := by
  unfold bt
  split
  · have := (s[i.toNat]).toNat_lt; omega
  · omega
def getU (s : ByteArray) : Int × Int := decB s.size (bt s 0) (bt s 1) (bt s 2) (bt s 3)
theorem L_prefix (s : ByteArray) (i : Nat) (h : i ≤ s.size) : L (s.extract 0 i) = (L s).take i := by
  unfold L
  rw [ByteArray.data_extract, Array.toList_extract, ← List.map_take]
  congr 1
def sc (c : Int) : Bool := decide (0 ≤ c ∧ c ≤ 1114111 ∧ ¬ (55296 ≤ c ∧ c ≤ 57343))
theorem sc_iff (c : Int) : sc c = true ↔ 0 ≤ c ∧ c ≤ 1114111 ∧ ¬ (55296 ≤ c ∧ c ≤ 57343) := decide_eq_true_iff
theorem Scalar_f (c : Int) : utf_Scalar.f c = some (sc c) := by
  unfold utf_Scalar.f sc
  (repeat' split) <;> (congr 1; (first | (symm; rw [decide_eq_true_iff]; omega) | (symm; rw [decide_eq_false_iff_not]; omega) | (rw [decide_eq_decide]; omega)))
theorem RScalar_f (c : Int) : spoolref02_Scalar.f c = some (sc c) := by
  unfold spoolref02_Scalar.f sc
  (repeat' split) <;> (congr 1; (first | (symm; rw [decide_eq_true_iff]; omega) | (symm; rw [decide_eq_false_iff_not]; omega) | (rw [decide_eq_decide]; omega)))
def encU (c : Int) : List Int :=
  if sc c = true then (if c < 128 then [c] else if c < 2048 then [192 + c / 64, 128 + c % 64] else if c < 65536 then [224 + c / 4096, 128 + c / 64 % 64, 128 + c % 64] else [240 + c / 262144, 128 + c / 4096 % 64, 128 + c / 64 % 64, 128 + c % 64]) else []
theorem encU_byte (c : Int) : ∀ x ∈ encU c, 0 ≤ x ∧ x < 256 := by
  intro x hx
  unfold encU at hx
  split at hx
  · rename_i h
    rw [sc_iff] at h
    (repeat' split at hx) <;> (simp only [List.mem_cons, List.not_mem_nil, or_false] at hx; omega)
  · cases hx
theorem encU_len (c : Int) : (encU c).length ≤ 4 := by
  unfold encU
  (repeat' split) <;> simp
theorem strNil : strOfNums [] = (⟨#[]⟩ : ByteArray) := rfl
theorem two_bytes (x0 c : Int) (k : Nat) (h0 : 128 ≤ c) (h1 : c < 2048) : utf8_appendRuneNonASCII.f k [] c = some [192 + c / 64, 128 + c % 64] := by
  unfold utf8_appendRuneNonASCII.f
  rw [if_pos (by omega), Option.bind_some, if_pos (by simp)]
  rw [bits_cont, Go.u8_or192 (c / 64 % 256) (by omega) (by omega), List.nil_append, show c / 64 % 256 = c / 64 by omega]
theorem three_bytes (c : Int) (k : Nat) (h0 : 2048 ≤ c) (h1 : c < 65536) (h2 : ¬ (55296 ≤ c ∧ c ≤ 57343)) : utf8_appendRuneNonASCII.f (k + 1) [] c = some [224 + c / 4096, 128 + c / 64 % 64, 128 + c % 64] := by
  have e : c % 4294967296 = c := by omega
  have fin : utf8_appendRuneNonASCII.j0 (k + 1) [] c c true = some [224 + c / 4096, 128 + c / 64 % 64, 128 + c % 64] := by
    rw [utf8_appendRuneNonASCII.j0, if_pos rfl, Option.bind_some, if_pos (by simp), bits_cont, bits_cont, Go.u8_or224 (c / 4096 % 256) (by omega) (by omega), List.nil_append, show c / 4096 % 256 = c / 4096 by omega]
  unfold utf8_appendRuneNonASCII.f
  rw [e, if_neg (by omega)]
  by_cases h : c < 55296
  · rw [if_pos h, decide_eq_true h, fin]
  · rw [if_neg h, if_pos (by omega), decide_eq_true (by omega), fin]
theorem four_bytes (c : Int) (k : Nat) (h0 : 65536 ≤ c) (h1 : c ≤ 1114111) : utf8_appendRuneNonASCII.f (k + 1) [] c = some [240 + c / 262144, 128 + c / 4096 % 64, 128 + c / 64 % 64, 128 + c % 64] := by
  have e : c % 4294967296 = c := by omega
  unfold utf8_appendRuneNonASCII.f
  rw [e, if_neg (by omega), if_neg (by omega), if_pos (by omega), decide_eq_false (by omega), utf8_appendRuneNonASCII.j0, if_neg (by decide), if_pos (by omega), if_pos h1, Option.bind_some, if_pos (by simp), bits_cont, bits_cont, bits_cont, Go.u8_or240 (c / 262144 % 256) (by omega) (by omega), List.nil_append, show c / 262144 % 256 = c / 262144 by omega]
theorem Put_f (c : Int) (k : Nat) : utf_Put.f (k + 1) c = some (strOfNums (encU c)) := by
  unfold utf_Put.f encU
  rw [Scalar_f, Option.bind_some]
  by_cases h : sc c = true
  · have hs := (sc_iff c).mp h
    rw [if_pos h, if_pos h, w32 c (by omega) (by omega)]
    unfold utf8_AppendRune.f
    have e : c % 4294967296 = c := by omega
    rw [e]
    by_cases h1 : c < 128
    · rw [if_pos (by omega), if_pos (by simp), if_pos h1, show c % 256 = c by omega]
      rfl
    · rw [if_neg (by omega), if_neg h1]
      by_cases h2 : c < 2048
      · rw [if_pos h2, two_bytes 0 c (k + 1) (by omega) h2]; rfl
      · rw [if_neg h2]
        by_cases h3 : c < 65536
        · rw [if_pos h3, three_bytes c k (by omega) h3 hs.2.2]; rfl
        · rw [if_neg h3, four_bytes c k (by omega) hs.2.1]; rfl
  · rw [if_neg h, if_neg h, strNil]
theorem RPut_f (c : Int) : spoolref02_Put.f c = some (strOfNums (encU c)) := by
  unfold spoolref02_Put.f encU
  rw [RScalar_f, Option.bind_some]
  by_cases h : sc c = true
  · have hs := (sc_iff c).mp h
    rw [if_pos h, if_pos h]
    have d1 : Int.tdiv c 64 = c / 64 := Int.tdiv_eq_ediv_of_nonneg hs.1
    have d2 : Int.tdiv c 4096 = c / 4096 := Int.tdiv_eq_ediv_of_nonneg hs.1
    have d3 : Int.tdiv c 262144 = c / 262144 := Int.tdiv_eq_ediv_of_nonneg hs.1
    have m0 : Int.tmod c 64 = c % 64 := Int.tmod_eq_emod_of_nonneg hs.1
    have m1 : Int.tmod (c / 64) 64 = c / 64 % 64 := Int.tmod_eq_emod_of_nonneg (by omega)
    have m2 : Int.tmod (c / 4096) 64 = c / 4096 % 64 := Int.tmod_eq_emod_of_nonneg (by omega)
    rw [d1, d2, d3, w64 (c / 64) (by omega) (by omega), w64 (c / 4096) (by omega) (by omega), w64 (c / 262144) (by omega) (by omega), m0, m1, m2,
      w64 (128 + c % 64) (by omega) (by omega), w64 (128 + c / 64 % 64) (by omega) (by omega), w64 (128 + c / 4096 % 64) (by omega) (by omega)]
    by_cases h1 : c < 128
    · rw [if_pos h1, if_pos h1, show c % 256 = c by omega]
    · rw [if_neg h1, if_neg h1]
      by_cases h2 : c < 2048
      · rw [if_pos h2, if_pos h2, w64 (192 + c / 64) (by omega) (by omega), show (192 + c / 64) % 256 = 192 + c / 64 by omega, show (128 + c % 64) % 256 = 128 + c % 64 by omega]
      · rw [if_neg h2, if_neg h2]
        by_cases h3 : c < 65536
        · rw [if_pos h3, if_pos h3, w64 (224 + c / 4096) (by omega) (by omega), show (224 + c / 4096) % 256 = 224 + c / 4096 by omega, show (128 + c / 64 % 64) % 256 = 128 + c / 64 % 64 by omega, show (128 + c % 64) % 256 = 128 + c % 64 by omega]
        · rw [if_neg h3, if_neg h3, w64 (240 + c / 262144) (by omega) (by omega), show (240 + c / 262144) % 256 = 240 + c / 262144 by omega, show (128 + c / 4096 % 64) % 256 = 128 + c / 4096 % 64 by omega, show (128 + c / 64 % 64) % 256 = 128 + c / 64 % 64 by omega, show (128 + c % 64) % 256 = 128 + c % 64 by omega]
  · rw [if_neg h, if_neg h, strNil]
theorem Length_f (c : Int) (k : Nat) : utf_Length.f (k + 1) c = some ((encU c).length : Int) := by
  unfold utf_Length.f encU
  rw [Scalar_f, Option.bind_some]
  by_cases h : sc c = true
  · have hs := (sc_iff c).mp h
    rw [if_pos h, if_pos h, w32 c (by omega) (by omega)]
    unfold utf8_RuneLen.f
    rw [if_neg (by omega)]
    by_cases h1 : c < 128
    · rw [if_pos (by omega), if_pos h1]; rfl
    · rw [if_neg (by omega), if_neg h1]
      by_cases h2 : c < 2048
      · rw [if_pos (by omega), if_pos h2]; rfl
      · rw [if_neg (by omega), if_neg h2]
        have fin : utf8_RuneLen.j0 (k + 1) c false = some (if c < 65536 then 3 else 4) := by
          rw [utf8_RuneLen.j0, if_neg (by decide)]
          by_cases h3 : c < 65536
          · rw [if_pos (by omega), if_pos h3]
          · rw [if_neg (by omega), if_pos hs.2.1, if_neg h3]
        by_cases h4 : 55296 ≤ c
        · rw [if_pos h4, decide_eq_false (by omega), fin]
          by_cases h3 : c < 65536
          · rw [if_pos h3, if_pos h3]; rfl
          · rw [if_neg h3, if_neg h3]; rfl
        · rw [if_neg h4, fin]
          by_cases h3 : c < 65536
          · rw [if_pos h3, if_pos h3]; rfl
          · rw [if_neg h3, if_neg h3]; rfl
  · rw [if_neg h, if_neg h]; rfl
theorem L_enc (c : Int) : L (strOfNums (encU c)) = encU c := L_nums _ (encU_byte c)
theorem enc_size (c : Int) : (strOfNums (encU c)).size = (encU c).length := by rw [← L_len, L_enc]
def getL (l : List Int) : Int × Int := decB l.length (l.getD 0 0) (l.getD 1 0) (l.getD 2 0) (l.getD 3 0)
theorem getU_L (s : ByteArray) : getU s = getL (L s) := by
  unfold getU getL
  rw [L_len, L_get, L_get, L_get, L_get]
  rfl
theorem getL_enc (c : Int) (h : sc c = true) (r : List Int) : getL (encU c ++ r) = (c, ((encU c).length : Int)) := by
  have hs := (sc_iff c).mp h
  unfold encU
  rw [if_pos h]
  (repeat' split) <;> (simp only [getL, List.cons_append, List.nil_append, List.length_cons, List.getD_cons_zero, List.getD_cons_succ, List.length_nil]; unfold decB; (repeat' split) <;> (first | (exfalso; omega) | rfl | (simp only [Prod.mk.injEq]; omega)))
def gs (l : List Int) (n : Nat) : Int :=
  if n = 1 then l.getD 0 0
  else if n = 2 then (l.getD 0 0 - 192) * 64 + (l.getD 1 0 - 128)
  else if n = 3 then ((l.getD 0 0 - 224) * 64 + (l.getD 1 0 - 128)) * 64 + (l.getD 2 0 - 128)
  else (((l.getD 0 0 - 240) * 64 + (l.getD 1 0 - 128)) * 64 + (l.getD 2 0 - 128)) * 64 + (l.getD 3 0 - 128)
theorem enc1 (c b0 : Int) (e : c = b0) (h0 : 0 ≤ b0) (h1 : b0 < 128) : sc c = true ∧ encU c = [b0] := by
  subst e
  have hs : sc c = true := (sc_iff c).mpr ⟨by omega, by omega, by omega⟩
  refine ⟨hs, ?_⟩
  unfold encU
  rw [if_pos hs, if_pos h1]
theorem enc2 (c b0 b1 : Int) (e : c = (b0 - 192) * 64 + (b1 - 128)) (h0 : 194 ≤ b0) (h1 : b0 < 224) (h2 : 128 ≤ b1) (h3 : b1 ≤ 191) : sc c = true ∧ encU c = [b0, b1] := by
  have hs : sc c = true := (sc_iff c).mpr ⟨by omega, by omega, by omega⟩
  refine ⟨hs, ?_⟩
  unfold encU
  rw [if_pos hs, if_neg (by omega), if_pos (by omega), show 192 + c / 64 = b0 by omega, show 128 + c % 64 = b1 by omega]
theorem enc3 (c b0 b1 b2 : Int) (e : c = (b0 - 224) * 4096 + (b1 - 128) * 64 + (b2 - 128)) (h0 : 224 ≤ b0) (h1 : b0 < 240) (h2 : (if b0 = 224 then 160 else 128) ≤ b1) (h3 : b1 ≤ (if b0 = 237 then 159 else 191)) (h4 : 128 ≤ b2) (h5 : b2 ≤ 191) : sc c = true ∧ encU c = [b0, b1, b2] := by
  have g : 2048 ≤ c ∧ c < 65536 ∧ ¬ (55296 ≤ c ∧ c ≤ 57343) ∧ 128 ≤ b1 ∧ b1 ≤ 191 := by
    split at h2 <;> split at h3 <;> omega
  have hs : sc c = true := (sc_iff c).mpr ⟨by omega, by omega, by omega⟩
  refine ⟨hs, ?_⟩
  unfold encU
  rw [if_pos hs, if_neg (by omega), if_neg (by omega), if_pos (by omega), show 224 + c / 4096 = b0 by omega, show 128 + c / 64 % 64 = b1 by omega, show 128 + c % 64 = b2 by omega]
theorem enc4 (c b0 b1 b2 b3 : Int) (e : c = (b0 - 240) * 262144 + (b1 - 128) * 4096 + (b2 - 128) * 64 + (b3 - 128)) (h0 : 240 ≤ b0) (h1 : b0 ≤ 244) (h2 : (if b0 = 240 then 144 else 128) ≤ b1) (h3 : b1 ≤ (if b0 = 244 then 143 else 191)) (h4 : 128 ≤ b2) (h5 : b2 ≤ 191) (h6 : 128 ≤ b3) (h7 : b3 ≤ 191) : sc c = true ∧ encU c = [b0, b1, b2, b3] := by
  have g : 65536 ≤ c ∧ c ≤ 1114111 ∧ 128 ≤ b1 ∧ b1 ≤ 191 := by
    split at h2 <;> split at h3 <;> omega
  have hs : sc c = true := (sc_iff c).mpr ⟨by omega, by omega, by omega⟩
  refine ⟨hs, ?_⟩
  unfold encU
  rw [if_pos hs, if_neg (by omega), if_neg (by omega), if_neg (by omega), show 240 + c / 262144 = b0 by omega, show 128 + c / 4096 % 64 = b1 by omega, show 128 + c / 64 % 64 = b2 by omega, show 128 + c % 64 = b3 by omega]
theorem take_getD (l : List Int) (n : Nat) (h : n < l.length) : l.take (n + 1) = l.take n ++ [l.getD n 0] := by
  rw [List.take_add_one, List.getD_eq_getElem?_getD, List.getElem?_eq_getElem h]
  rfl
theorem getD_byte (l : List Int) (hb : ∀ x ∈ l, 0 ≤ x ∧ x < 256) (i : Nat) : 0 ≤ l.getD i 0 ∧ l.getD i 0 < 256 := by
  rw [List.getD_eq_getElem?_getD]
  cases h : l[i]? with
  | none => exact ⟨by decide, by decide⟩
  | some x => exact hb x (List.mem_of_getElem? h)
theorem getL_good (l : List Int) (hb : ∀ x ∈ l, 0 ≤ x ∧ x < 256) (h : 0 ≤ (getL l).1) :
    ∃ n : Nat, (getL l).2 = (n : Int) ∧ 1 ≤ n ∧ n ≤ 4 ∧ n ≤ l.length ∧ gs l n = (getL l).1 ∧ sc (getL l).1 = true ∧ encU (getL l).1 = l.take n := by
  have h0 := getD_byte l hb 0
  have h1 := getD_byte l hb 1
  have h2 := getD_byte l hb 2
  have h3 := getD_byte l hb 3
  have t1 : 1 ≤ l.length → l.take 1 = [l.getD 0 0] := fun hl => by rw [take_getD l 0 (by omega)]; rfl
  have t2 : 2 ≤ l.length → l.take 2 = [l.getD 0 0, l.getD 1 0] := fun hl => by rw [take_getD l 1 (by omega), t1 (by omega)]; rfl
  have t3 : 3 ≤ l.length → l.take 3 = [l.getD 0 0, l.getD 1 0, l.getD 2 0] := fun hl => by rw [take_getD l 2 (by omega), t2 (by omega)]; rfl
  have t4 : 4 ≤ l.length → l.take 4 = [l.getD 0 0, l.getD 1 0, l.getD 2 0, l.getD 3 0] := fun hl => by rw [take_getD l 3 (by omega), t3 (by omega)]; rfl
  unfold getL decB at h ⊢
  unfold gs
  generalize l.getD 0 0 = b0 at *
  generalize l.getD 1 0 = b1 at *
  generalize l.getD 2 0 = b2 at *
  generalize l.getD 3 0 = b3 at *
  by_cases c0 : l.length = 0
  · rw [if_pos c0] at h; exact absurd h (by decide)
  rw [if_neg c0] at h ⊢
  by_cases c1 : b0 < 128
  · rw [if_pos c1] at h ⊢
    obtain ⟨e1, e2⟩ := enc1 b0 b0 rfl h0.1 c1
    exact ⟨1, rfl, by omega, by omega, by omega, by rw [if_pos rfl], e1, by rw [t1 (by omega)]; exact e2⟩
  rw [if_neg c1] at h ⊢
  by_cases c2 : b0 < 194 ∨ 244 < b0
  · rw [if_pos c2] at h; exact absurd h (by decide)
  rw [if_neg c2] at h ⊢
  by_cases c3 : b0 < 224
  · rw [if_pos c3] at h ⊢
    by_cases c4 : 2 ≤ l.length ∧ 128 ≤ b1 ∧ b1 ≤ 191
    · rw [if_pos c4] at h ⊢
      obtain ⟨e1, e2⟩ := enc2 ((b0 - 192) * 64 + (b1 - 128)) b0 b1 rfl (by omega) c3 c4.2.1 c4.2.2
      exact ⟨2, rfl, by omega, by omega, by omega, by rw [if_neg (by decide), if_pos rfl], e1, by rw [t2 c4.1]; exact e2⟩
    · rw [if_neg c4] at h; exact absurd h (by decide)
  rw [if_neg c3] at h ⊢
  by_cases c5 : b0 < 240
  · rw [if_pos c5] at h ⊢
    by_cases c4 : 3 ≤ l.length ∧ (if b0 = 224 then 160 else 128) ≤ b1 ∧ b1 ≤ (if b0 = 237 then 159 else 191) ∧ 128 ≤ b2 ∧ b2 ≤ 191
    · rw [if_pos c4] at h ⊢
      obtain ⟨d1, d2, d3, d4, d5⟩ := c4
      obtain ⟨e1, e2⟩ := enc3 ((b0 - 224) * 4096 + (b1 - 128) * 64 + (b2 - 128)) b0 b1 b2 rfl (by omega) c5 d2 d3 d4 d5
      exact ⟨3, rfl, by omega, by omega, by omega, by rw [if_neg (by decide), if_neg (by decide), if_pos rfl]; simp only; omega, e1, by rw [t3 d1]; exact e2⟩
    · rw [if_neg c4] at h; exact absurd h (by decide)
  rw [if_neg c5] at h ⊢
  by_cases c4 : 4 ≤ l.length ∧ (if b0 = 240 then 144 else 128) ≤ b1 ∧ b1 ≤ (if b0 = 244 then 143 else 191) ∧ 128 ≤ b2 ∧ b2 ≤ 191 ∧ 128 ≤ b3 ∧ b3 ≤ 191
  · rw [if_pos c4] at h ⊢
    obtain ⟨d1, d2, d3, d4, d5, d6, d7⟩ := c4
    obtain ⟨e1, e2⟩ := enc4 ((b0 - 240) * 262144 + (b1 - 128) * 4096 + (b2 - 128) * 64 + (b3 - 128)) b0 b1 b2 b3 rfl (by omega) (by omega) d2 d3 d4 d5 d6 d7
    exact ⟨4, rfl, by omega, by omega, by omega, by rw [if_neg (by decide), if_neg (by decide), if_neg (by decide)]; simp only; omega, e1, by rw [t4 d1]; exact e2⟩
  · rw [if_neg c4] at h; exact absurd h (by decide)
theorem getL_bad (l : List Int) (hb : ∀ x ∈ l, 0 ≤ x ∧ x < 256) (h : (getL l).1 < 0) (hl : l ≠ []) : getL l = (-1, 1) := by
  have hl' : ¬ l.length = 0 := fun e => hl (List.length_eq_zero_iff.mp e)
  have h0 := getD_byte l hb 0
  have key : ∀ p : Int × Int, p = getL l → p.1 < 0 → p = (-1, 1) := by
    intro p e hp
    unfold getL decB at e
    generalize l.getD 0 0 = b0 at *
    generalize l.getD 1 0 = b1 at *
    generalize l.getD 2 0 = b2 at *
    generalize l.getD 3 0 = b3 at *
    (repeat' split at e) <;> subst e <;> (first | rfl | (exfalso; simp only at hp; omega))
  exact key _ rfl h
def ok (l : List Int) (n : Nat) : Prop := sc (gs l n) = true ∧ encU (gs l n) = l.take n
theorem ok_getL (l : List Int) (n : Nat) (hn : n ≤ l.length) (h : ok l n) : getL l = (gs l n, (n : Int)) := by
  have e : l = encU (gs l n) ++ l.drop n := by rw [h.2, List.take_append_drop]
  have e2 : (encU (gs l n)).length = n := by rw [h.2, List.length_take]; omega
  have := getL_enc (gs l n) h.1 (l.drop n)
  rw [← e, e2] at this
  exact this
theorem guess_step (s : ByteArray) (n i k : Nat) (x : Int) (hi : i < n) (hn : n ≤ s.size) (h4 : n ≤ 4) (h1 : -100000000 ≤ x) (h2 : x ≤ 100000000) : spoolref02_guess.l0 (k + 1) s (n : Int) x (i : Int) = spoolref02_guess.l0 k s (n : Int) (x * 64 + (bt s (i : Int) - 128)) ((i + 1 : Nat) : Int) := by
  have b := bt_byte s (i : Int)
  rw [spoolref02_guess.l0, if_pos (by omega), if_pos (by omega), if_pos (by omega), w64 (64 * x) (by omega) (by omega), w64 (bt s (i : Int)) (by omega) (by omega), w64 (64 * x + bt s (i : Int)) (by omega) (by omega), w64 (64 * x + bt s (i : Int) - 128) (by omega) (by omega), w64 ((i : Int) + 1) (by omega) (by omega),
    show 64 * x + bt s (i : Int) - 128 = x * 64 + (bt s (i : Int) - 128) by omega, Int.natCast_add, Int.natCast_one]
theorem guess_end (s : ByteArray) (n k : Nat) (x : Int) : spoolref02_guess.l0 (k + 1) s (n : Int) x (n : Int) = some x := by
  rw [spoolref02_guess.l0, if_neg (by omega)]
theorem guess_f (s : ByteArray) (n : Nat) (k : Nat) (h1 : 1 ≤ n) (h2 : n ≤ 4) (h3 : n ≤ s.size) : spoolref02_guess.f (k + 6) s (n : Int) = some (gs (L s) n) := by
  have b0 := bt_byte s 0
  have b1 := bt_byte s 1
  have b2 := bt_byte s 2
  have b3 := bt_byte s 3
  unfold spoolref02_guess.f gs
  rw [if_pos (by omega), L_get, L_get, L_get, L_get, w64 (bt s 0) (by omega) (by omega)]
  obtain rfl | rfl | rfl | rfl : n = 1 ∨ n = 2 ∨ n = 3 ∨ n = 4 := by omega
  · rw [if_neg (by decide), if_neg (by decide), if_neg (by decide), spoolref02_guess.j0, if_pos rfl]
    exact guess_end s 1 _ _
  · rw [if_pos (by decide), spoolref02_guess.j0, w64 (bt s 0 - 192) (by omega) (by omega), if_neg (by decide), if_pos rfl]
    refine (guess_step s 2 1 _ _ (by omega) h3 (by omega) (by omega) (by omega)).trans ?_
    exact guess_end s 2 _ _
  · rw [if_neg (by decide), if_pos (by decide), spoolref02_guess.j0, w64 (bt s 0 - 224) (by omega) (by omega), if_neg (by decide), if_neg (by decide), if_pos rfl]
    refine (guess_step s 3 1 _ _ (by omega) h3 (by omega) (by omega) (by omega)).trans ?_
    refine (guess_step s 3 2 _ _ (by omega) h3 (by omega) (by simp only [Int.natCast_one]; omega) (by simp only [Int.natCast_one]; omega)).trans ?_
    exact guess_end s 3 _ _
  · rw [if_neg (by decide), if_neg (by decide), if_pos (by decide), spoolref02_guess.j0, w64 (bt s 0 - 240) (by omega) (by omega), if_neg (by decide), if_neg (by decide), if_neg (by decide)]
    refine (guess_step s 4 1 _ _ (by omega) h3 (by omega) (by omega) (by omega)).trans ?_
    refine (guess_step s 4 2 _ _ (by omega) h3 (by omega) (by simp only [Int.natCast_one]; omega) (by simp only [Int.natCast_one]; omega)).trans ?_
    refine (guess_step s 4 3 _ _ (by omega) h3 (by omega) (by simp only [Int.natCast_one, Int.cast_ofNat_Int]; omega) (by simp only [Int.natCast_one, Int.cast_ofNat_Int]; omega)).trans ?_
    exact guess_end s 4 _ _
theorem RGet_step (s : ByteArray) (n k : Nat) (h1 : 1 ≤ n) (h2 : n ≤ 4) (h3 : n ≤ s.size) : spoolref02_Get.l0 (k + 8) s (n : Int) = if sc (gs (L s) n) = true ∧ encU (gs (L s) n) = (L s).take n then some (gs (L s) n, (n : Int)) else spoolref02_Get.l0 (k + 6) s ((n + 1 : Nat) : Int) := by
  rw [spoolref02_Get.l0, if_pos (by omega), decide_eq_true (by omega), spoolref02_Get.j1, if_pos rfl, guess_f s n k h1 h2 h3, Option.bind_some, RScalar_f, Option.bind_some]
  have hw : wrap64 ((n : Int) + 1) = ((n + 1 : Nat) : Int) := by rw [w64 _ (by omega) (by omega)]; rfl
  by_cases hs : sc (gs (L s) n) = true
  · have e : (strOfNums (encU (gs (L s) n))).toList = (s.extract 0 ((n : Int)).toNat).toList ↔ encU (gs (L s) n) = (L s).take n := by
      rw [L_inj, L_enc, Int.toNat_natCast, L_prefix s n h3]
    rw [if_pos hs, RPut_f, Option.bind_some, if_pos (by omega), if_pos (by omega), hw]
    by_cases he : encU (gs (L s) n) = (L s).take n
    · rw [if_pos (e.mpr he), if_pos ⟨hs, he⟩]
    · rw [if_neg (fun h => he (e.mp h)), if_neg (fun h => he h.2)]
  · rw [if_neg hs, if_neg (fun h => hs h.1), hw]
theorem RGet_end (s : ByteArray) (n k : Nat) (h : 4 < n ∨ s.size < n) : spoolref02_Get.l0 (k + 2) s (n : Int) = some (-1, 1) := by
  rw [spoolref02_Get.l0]
  by_cases h4 : (n : Int) ≤ 4
  · rw [if_pos h4, decide_eq_false (by omega), spoolref02_Get.j1, if_neg (by decide)]
  · rw [if_neg h4, spoolref02_Get.j1, if_neg (by decide)]
theorem RGet_l (s : ByteArray) (hs : L s ≠ []) (d : Nat) : ∀ (n k : Nat), n + d = 5 → 1 ≤ n → (∀ m, 1 ≤ m → m < n → m ≤ (L s).length → ¬ (sc (gs (L s) m) = true ∧ encU (gs (L s) m) = (L s).take m)) → spoolref02_Get.l0 (k + 8 + 2 * d) s (n : Int) = some (getL (L s)) := by
  have ends : ∀ (n k : Nat), (4 < n ∨ s.size < n) → (∀ m, 1 ≤ m → m < n → m ≤ (L s).length → ¬ (sc (gs (L s) m) = true ∧ encU (gs (L s) m) = (L s).take m)) → spoolref02_Get.l0 (k + 2) s (n : Int) = some (getL (L s)) := by
    intro n k h hm
    rw [RGet_end s n k h]
    have hneg : (getL (L s)).1 < 0 := by
      by_cases hp : 0 ≤ (getL (L s)).1
      · obtain ⟨m, g1, g2, g3, g4, g5, g6, g7⟩ := getL_good (L s) (L_byte s) hp
        have : (L s).length = s.size := L_len s
        exact absurd ⟨by rw [g5]; exact g6, by rw [g5]; exact g7⟩ (hm m g2 (by omega) g4)
      · omega
    rw [getL_bad _ (L_byte s) hneg hs]
  induction d with
  | zero =>
    intro n k hn h1 hm
    exact ends n (k + 6) (by omega) hm
  | succ d ih =>
    intro n k hn h1 hm
    by_cases h3 : n ≤ s.size
    · have e : k + 8 + 2 * (d + 1) = (k + 2 + 2 * d) + 8 := by omega
      rw [e, RGet_step s n _ h1 (by omega) h3]
      by_cases hk : sc (gs (L s) n) = true ∧ encU (gs (L s) n) = (L s).take n
      · rw [if_pos hk, ok_getL (L s) n (by rw [L_len]; exact h3) hk]
      · rw [if_neg hk, show k + 2 + 2 * d + 6 = k + 8 + 2 * d by omega]
        refine ih (n + 1) k (by omega) (by omega) (fun m m1 m2 m3 => ?_)
        by_cases hmn : m < n
        · exact hm m m1 hmn m3
        · obtain rfl : m = n := by omega
          exact hk
    · rw [show k + 8 + 2 * (d + 1) = (k + 6 + 2 * (d + 1)) + 2 by omega]
      exact ends n (k + 6 + 2 * (d + 1)) (by omega) hm
theorem RGet_f (s : ByteArray) (k : Nat) : spoolref02_Get.f (k + 16) s = some (getU s) := by
  rw [getU_L]
  unfold spoolref02_Get.f
  by_cases h0 : s.size = 0
  · rw [if_pos (by omega)]
    have : L s = [] := List.length_eq_zero_iff.mp (by rw [L_len]; exact h0)
    rw [this]; rfl
  · rw [if_neg (by omega)]
    exact RGet_l s (fun e => h0 (by rw [← L_len, e]; rfl)) 4 1 k (by omega) (by omega) (fun m m1 m2 _ => by omega)
theorem RGet_k (s : ByteArray) (k : Nat) (h : 16 ≤ k) : spoolref02_Get.f k s = some (getU s) := by
  obtain ⟨j, rfl⟩ : ∃ j, k = j + 16 := ⟨k - 16, by omega⟩
  exact RGet_f s j
theorem Put_k (c : Int) (k : Nat) (h : 1 ≤ k) : utf_Put.f k c = some (strOfNums (encU c)) := by
  obtain ⟨j, rfl⟩ : ∃ j, k = j + 1 := ⟨k - 1, by omega⟩
  exact Put_f c j
theorem Length_k (c : Int) (k : Nat) (h : 1 ≤ k) : utf_Length.f k c = some ((encU c).length : Int) := by
  obtain ⟨j, rfl⟩ : ∃ j, k = j + 1 := ⟨k - 1, by omega⟩
  exact Length_f c j
end Go.Proofs.YtedoopnjhpbjfaaDoor.PlE

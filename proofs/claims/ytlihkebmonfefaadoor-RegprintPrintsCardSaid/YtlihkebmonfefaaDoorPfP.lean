import Derived.Test.YtlihkebmonfefaaDoorWWords
import Derived.Test.YtlihkebmonfefaaDoorWMore
import Derived.Test.YtlihkebmonfefaaDoorPGx0
import Derived.Test.YtlihkebmonfefaaDoorPGx4
import Derived.Test.YtlihkebmonfefaaDoorPGx7
import Derived.Test.YtlihkebmonfefaaDoorPGx18
import Derived.Test.YtlihkebmonfefaaDoorPGx19
import Derived.Test.YtlihkebmonfefaaDoorPGx2
import Derived.Test.YtlihkebmonfefaaDoorPGx3
import Derived.Test.YtlihkebmonfefaaDoorPGx5
import Derived.Test.YtlihkebmonfefaaDoorPfR
import Derived.Test.YtlihkebmonfefaaDoorHandPrint
import Derived.Test.YtlihkebmonfefaaDoorHandRefs
/- Plain facts about texts as lists of numbers, and about digits. No program in sight. -/
namespace Go.Proofs.YtlihkebmonfefaaDoor.PlD
open Go.RowKit Go.Proofs.YtlihkebmonfefaaDoorW.PrintWords
theorem wrap_in {n : Int} (h1 : -9223372036854775808 ≤ n) (h2 : n ≤ 9223372036854775807) : wrap64 n = n := by unfold wrap64; omega
def L (s : ByteArray) : List Int := s.data.toList.map fun b => (b.toNat : Int)
theorem L_len (s : ByteArray) : (L s).length = s.size := by simp [L]
theorem L_get (s : ByteArray) (i : Nat) : (L s).getD i 0 = bt s (i : Int) := by
  unfold bt L
  rw [Int.toNat_natCast, List.getD_eq_getElem?_getD]
  by_cases h : i < s.size
  · rw [dif_pos h, List.getElem?_map, Array.getElem?_toList, Array.getElem?_eq_getElem (by exact h)]
    rfl
  · rw [dif_neg h, List.getElem?_eq_none (by simp; exact Nat.le_of_not_lt h)]
    rfl
theorem L_drop (s : ByteArray) (i : Nat) (h : i < s.size) : (L s).drop i = bt s (i : Int) :: (L s).drop (i + 1) := by
  rw [← L_get, List.getD_eq_getElem?_getD, List.getElem?_eq_getElem (by rw [L_len]; exact h), Option.getD_some]
  exact List.drop_eq_getElem_cons (by rw [L_len]; exact h)
theorem L_inj {s t : ByteArray} : s.toList = t.toList ↔ L s = L t := by
  rw [ByteArray.toList_eq, ByteArray.toList_eq]
  constructor
  · intro h; unfold L; rw [h]
  · intro h
    unfold L at h
    have : Function.Injective (fun b : UInt8 => (b.toNat : Int)) := fun a b h => by
      have h : (a.toNat : Int) = (b.toNat : Int) := h
      exact UInt8.toNat_inj.1 (by omega)
    exact List.map_inj_right (fun a b h => this h) |>.1 h
theorem L_append (s t : ByteArray) : L (s ++ t) = L s ++ L t := by
  simp [L]
theorem L_nums (xs : List Int) (h : ∀ x ∈ xs, 0 ≤ x ∧ x < 256) : L (strOfNums xs) = xs := by
  unfold L
  rw [strOfNums_data, List.map_map]
  conv => rhs; rw [← List.map_id xs]
  apply List.map_congr_left
  intro x hx
  have := h x hx
  simp only [Function.comp, id]
  rw [UInt8.toNat_ofNat']
  omega
theorem L_nil {s : ByteArray} : s.toList = ([] : List UInt8) ↔ L s = [] := by
  rw [ByteArray.toList_eq]; unfold L; simp
theorem L_byte (s : ByteArray) : ∀ x ∈ L s, 0 ≤ x ∧ x < 256 := by
  intro x hx
  unfold L at hx
  obtain ⟨b, _, rfl⟩ := List.mem_map.1 hx
  have := b.toNat_lt
  omega
def dig (c : Int) : Prop := 48 ≤ c ∧ c ≤ 57
instance (c : Int) : Decidable (dig c) := by unfold dig; infer_instance
def textN (n : Nat) : List Int := if _h : n < 10 then [48 + (n : Int)] else textN (n / 10) ++ [48 + ((n % 10 : Nat) : Int)]
termination_by n
decreasing_by omega
theorem textN_lt {n : Nat} (h : n < 10) : textN n = [48 + (n : Int)] := by rw [textN, dif_pos h]
theorem textN_ge {n : Nat} (h : 10 ≤ n) : textN n = textN (n / 10) ++ [48 + ((n % 10 : Nat) : Int)] := by rw [textN, dif_neg (by omega)]
theorem textN_ind {M : Nat → Prop} (h1 : ∀ n, n < 10 → M n) (h2 : ∀ n, 10 ≤ n → M (n / 10) → M n) (n : Nat) : M n := by
  induction n using Nat.strongRecOn with
  | _ n ih =>
    by_cases h : n < 10
    · exact h1 n h
    · exact h2 n (by omega) (ih (n / 10) (by omega))
theorem textN_dig (n : Nat) : ∀ c ∈ textN n, dig c := by
  refine textN_ind (M := fun n => ∀ c ∈ textN n, dig c) (fun n h => ?_) (fun n h ih => ?_) n
  · rw [textN_lt h]; intro c hc; simp at hc; unfold dig; omega
  · rw [textN_ge h]; intro c hc
    rcases List.mem_append.1 hc with hc | hc
    · exact ih c hc
    · simp at hc; unfold dig; omega
theorem textN_len (m : Nat) : ∀ n, n < 10 ^ (m + 1) → (textN n).length ≤ m + 1 := by
  induction m with
  | zero => intro n h; rw [textN_lt (by simpa using h)]; simp
  | succ m ih =>
    intro n h
    by_cases h2 : n < 10
    · rw [textN_lt h2]; simp
    · rw [textN_ge (by omega)]
      have := ih (n / 10) (by rw [Nat.div_lt_iff_lt_mul (by omega)]; rw [Nat.pow_succ] at h; exact h)
      simp
      omega
def hx (k : Nat) : Int := if k < 10 then 48 + k else 87 + k
def value (c : Int) : Int := if 48 ≤ c ∧ c ≤ 57 then c - 48 else if 97 ≤ c ∧ c ≤ 102 then c - 87 else if 65 ≤ c ∧ c ≤ 70 then c - 55 else -1
def hexTL : Nat → Nat → Nat → List Int → List Int
  | 0, _, _, acc => acc
  | m + 1, n, l, acc => if 0 < n ∨ acc.length < l then hexTL m (n / 16) l (hx (n % 16) :: acc) else acc
theorem hexTL_len (m : Nat) : ∀ (n l : Nat) (acc : List Int) (c : Nat), n < 16 ^ c → l ≤ acc.length + c → (hexTL m n l acc).length ≤ acc.length + c := by
  induction m with
  | zero => intro n l acc c _ _; simp [hexTL]
  | succ m ih =>
    intro n l acc c h hl
    unfold hexTL
    split
    · rename_i hc
      cases c with
      | zero => simp at h; omega
      | succ c =>
        have := ih (n / 16) l (hx (n % 16) :: acc) c (by rw [Nat.div_lt_iff_lt_mul (by omega)]; rw [Nat.pow_succ] at h; exact h) (by simp; omega)
        simp at this
        omega
    · omega
theorem hx_range (k : Nat) (h : k < 16) : 0 ≤ hx k ∧ hx k < 256 := by unfold hx; split <;> omega
end Go.Proofs.YtlihkebmonfefaaDoor.PlD
/- What the functions that tell a number's text tell, over plain lists of numbers. -/
set_option linter.unusedSimpArgs false
set_option linter.unusedVariables false
namespace Go.Proofs.YtlihkebmonfefaaDoor.PfX
open Go.RowKit Go.Proofs.YtlihkebmonfefaaDoor.PG Go.Proofs.YtlihkebmonfefaaDoorW.PrintWords Go.Proofs.YtlihkebmonfefaaDoorW.PrintLast Go.Proofs.YtlihkebmonfefaaDoor.PlD
theorem up {α : Type} {g : Nat → Option α} (hm : ∀ k, LeO (g k) (g (k + 1))) {a : Nat} {r : α} (h : g a = some r) (k : Nat) (hk : a ≤ k) : g k = some r := by
  obtain ⟨d, rfl⟩ : ∃ d, k = a + d := ⟨k - a, by omega⟩
  induction d with
  | zero => exact h
  | succ d ih => exact hm _ _ (ih (by omega))
def ten : ByteArray := ⟨#[48, 49, 50, 51, 52, 53, 54, 55, 56, 57]⟩
theorem ten_at : ∀ n : Fin 10, L (ten.extract n.val (n.val + 1)) = [48 + ((n.val : Nat) : Int)] := by decide +kernel
theorem rText_f (m : Nat) : ∀ (n K : Nat), n < 10 ^ (m + 1) → m < 100 → m + 2 ≤ K → (n : Int) ≤ 9223372036854775807 → ∃ r, spoolref01_Text.f K (n : Int) = some r ∧ L r = textN n := by
  induction m with
  | zero =>
    intro n K hn _ hK hb
    obtain ⟨k, rfl⟩ : ∃ k, K = k + 1 := ⟨K - 1, by omega⟩
    have hn : n < 10 := by simpa using hn
    simp only [spoolref01_Text.f]
    rw [if_pos (by omega), if_pos (by omega), wrap_in (n := (n : Int) + 1) (by omega) (by omega), if_pos (by omega), if_pos (by omega), textN_lt hn]
    refine ⟨_, rfl, ?_⟩
    have := ten_at ⟨n, hn⟩
    rw [← this]
    rfl
  | succ m ih =>
    intro n K hn hm hK hb
    obtain ⟨k, rfl⟩ : ∃ k, K = k + 1 := ⟨K - 1, by omega⟩
    by_cases h10 : n < 10
    · simp only [spoolref01_Text.f]
      rw [if_pos (by omega), if_pos (by omega), wrap_in (n := (n : Int) + 1) (by omega) (by omega), if_pos (by omega), if_pos (by omega), textN_lt h10]
      refine ⟨_, rfl, ?_⟩
      have := ten_at ⟨n, h10⟩
      rw [← this]
      rfl
    · have hdiv : n / 10 < 10 ^ (m + 1) := by rw [Nat.div_lt_iff_lt_mul (by omega)]; rw [Nat.pow_succ] at hn; exact hn
      obtain ⟨r1, e1, l1⟩ := ih (n / 10) k hdiv (by omega) (by omega) (by omega)
      have hp : n % 10 < 10 ^ (m + 1) := Nat.lt_of_lt_of_le (Nat.mod_lt n (by omega)) (by rw [Nat.pow_succ]; have := Nat.one_le_pow m 10 (by omega); omega)
      obtain ⟨r2, e2, l2⟩ := ih (n % 10) k hp (by omega) (by omega) (by omega)
      simp only [spoolref01_Text.f]
      rw [if_neg (by omega), show Int.tdiv (n : Int) 10 = ((n / 10 : Nat) : Int) from rfl, show Int.tmod (n : Int) 10 = ((n % 10 : Nat) : Int) from rfl, wrap_in (n := ((n / 10 : Nat) : Int)) (by omega) (by omega), e1, e2]
      simp only [Option.bind_some]
      have s1 : r1.size ≤ m + 1 := by rw [← L_len, l1]; exact textN_len m _ hdiv
      have s2 : r2.size ≤ m + 1 := by rw [← L_len, l2]; exact textN_len m _ hp
      rw [if_pos (by omega)]
      refine ⟨_, rfl, ?_⟩
      rw [L_append, l1, l2, textN_ge (n := n) (by omega), textN_lt (n := n % 10) (by omega)]
theorem sign_at : ∀ n : Fin 16, rd tab_digit_signs ((n.val : Nat) : Int) = hx n.val := by decide +kernel
theorem sign_nat (n : Nat) (h : n < 16) : rd tab_digit_signs (n : Int) = hx n := sign_at ⟨n, h⟩
theorem turn_l1 (l : List Int) (d : Nat) : ∀ (K i : Nat) (xs : List Int), l.length / 2 - i ≤ d → i ≤ l.length / 2 → d + 1 ≤ K → l.length ≤ 1000000 → xs.length = l.length →
    (∀ j, j < l.length → xs.getD j 0 = if j < i ∨ l.length - i ≤ j then l.getD (l.length - 1 - j) 0 else l.getD j 0) → (∀ x ∈ l, 0 ≤ x ∧ x < 256) →
    ∃ r, digit_Text.l1 K xs ((l.length / 2 : Nat) : Int) (i : Int) = some r ∧ L r = l.reverse := by
  induction d with
  | zero =>
    intro K i xs hd hi hK hl hx hj hr
    obtain ⟨k, rfl⟩ : ∃ k, K = k + 1 := ⟨K - 1, by omega⟩
    simp only [digit_Text.l1]
    rw [if_neg (by omega)]
    refine ⟨_, rfl, ?_⟩
    have e : xs = l.reverse := by
      apply List.ext_getElem
      · simp [hx]
      · intro j h1 h2
        have := hj j (by omega)
        rw [List.getD_eq_getElem?_getD, List.getElem?_eq_getElem h1, Option.getD_some] at this
        rw [this, List.getElem_reverse]
        split
        · rw [List.getD_eq_getElem?_getD, List.getElem?_eq_getElem (by omega), Option.getD_some]
        · rw [List.getD_eq_getElem?_getD, List.getElem?_eq_getElem (by omega), Option.getD_some]
          congr 1
          omega
    rw [e, L_nums]
    intro x hx
    exact hr x (List.mem_reverse.1 hx)
  | succ d ih =>
    intro K i xs hd hi hK hl hx hj hr
    by_cases hlt : i < l.length / 2
    · obtain ⟨k, rfl⟩ : ∃ k, K = k + 1 := ⟨K - 1, by omega⟩
      simp only [digit_Text.l1]
      have e1 : wrap64 (wrap64 ((xs.length : Int) - 1) - (i : Int)) = ((l.length - 1 - i : Nat) : Int) := by
        rw [hx, wrap_in (n := (l.length : Int) - 1) (by omega) (by omega), wrap_in (by omega) (by omega)]
        omega
      rw [if_pos (by omega), e1, if_pos (by omega), if_pos (by omega), if_pos (by omega), if_pos (by omega), wrap_in (n := (i : Int) + 1) (by omega) (by omega)]
      have := ih k (i + 1) ((xs.set (i : Int).toNat (rd xs ((l.length - 1 - i : Nat) : Int))).set ((l.length - 1 - i : Nat) : Int).toNat (rd xs (i : Int))) (by omega) (by omega) (by omega) hl (by simp [hx]) ?_ hr
      · exact this
      · intro j hjl
        simp only [Int.toNat_natCast, rd]
        rw [List.getD_eq_getElem?_getD, List.getElem?_set, List.getElem?_set]
        have a1 := hj i (by omega)
        have a2 := hj (l.length - 1 - i) (by omega)
        have a3 := hj j hjl
        rw [if_neg (by omega)] at a1 a2
        by_cases c1 : l.length - 1 - i = j
        · rw [if_pos c1, if_pos (by simp [hx]; omega), Option.getD_some, a1, if_pos (by omega), ← c1]
          congr 1
          omega
        · rw [if_neg c1]
          by_cases c2 : i = j
          · rw [if_pos c2, if_pos (by omega), Option.getD_some, a2, if_pos (by omega), ← c2]
          · rw [if_neg c2, ← List.getD_eq_getElem?_getD, a3]
            by_cases c3 : j < i ∨ l.length - i ≤ j
            · rw [if_pos c3, if_pos (by omega)]
            · rw [if_neg c3, if_neg (by omega)]
    · exact ih K i xs (by omega) hi (by omega) hl hx hj hr
theorem turn_j2 (l : List Int) (K : Nat) (hK : l.length + 2 ≤ K) (hl : l.length ≤ 1000000) (hr : ∀ x ∈ l, 0 ≤ x ∧ x < 256) : ∃ r, digit_Text.j2 K l = some r ∧ L r = l.reverse := by
  obtain ⟨k, rfl⟩ : ∃ k, K = k + 1 := ⟨K - 1, by omega⟩
  simp only [digit_Text.j2]
  rw [wrap_in (by omega) (by omega)]
  have := turn_l1 l (l.length / 2) k 0 l (by omega) (by omega) (by omega) hl rfl (fun j hj => ?_) hr
  · exact this
  · rw [if_neg (by omega)]
theorem digits_small (sg : Int) (a K : Nat) (out : List Int) (hs : sg = 1 ∨ sg = -1) (ha : a < 10) (hl : out.length ≤ 100) (hK : 200 ≤ K) (hr : ∀ x ∈ out, 0 ≤ x ∧ x < 256) :
    ∃ r, digit_Text.l0 K (sg * (a : Int)) sg out = some r ∧ L r = (if sg < 0 then [45] else []) ++ textN a ++ out.reverse := by
  obtain ⟨k, rfl⟩ : ∃ k, K = k + 1 := ⟨K - 1, by omega⟩
  have e1 : wrap64 (sg * Int.tmod (sg * (a : Int)) 10) = (a : Int) := by
    rcases hs with rfl | rfl
    · rw [Int.one_mul, Int.one_mul, show Int.tmod (a : Int) 10 = ((a % 10 : Nat) : Int) from rfl, wrap_in (by omega) (by omega)]; omega
    · rw [Int.neg_one_mul, Int.neg_one_mul, Int.neg_tmod, Int.neg_neg, show Int.tmod (a : Int) 10 = ((a % 10 : Nat) : Int) from rfl, wrap_in (by omega) (by omega)]; omega
  have e2 : wrap64 (Int.tdiv (sg * (a : Int)) 10) = 0 := by
    rcases hs with rfl | rfl
    · rw [Int.one_mul, show Int.tdiv (a : Int) 10 = ((a / 10 : Nat) : Int) from rfl, wrap_in (by omega) (by omega)]; omega
    · rw [Int.neg_one_mul, Int.neg_tdiv, show Int.tdiv (a : Int) 10 = ((a / 10 : Nat) : Int) from rfl, wrap_in (by omega) (by omega)]; omega
  have hq : ∀ x ∈ out ++ [48 + (a : Int)], 0 ≤ x ∧ x < 256 := by
    intro x hx
    rcases List.mem_append.1 hx with h | h
    · exact hr x h
    · simp at h; omega
  simp only [digit_Text.l0]
  rw [e1, e2, if_pos (by omega), if_pos (by omega), if_pos (by omega), sign_nat a (by omega), Option.bind_some, if_pos rfl, show hx a = 48 + (a : Int) by unfold hx; rw [if_pos ha], textN_lt ha]
  rcases hs with rfl | rfl
  · rw [if_neg (by omega)]
    obtain ⟨r, h1, h2⟩ := turn_j2 (out ++ [48 + (a : Int)]) k (by simp; omega) (by simp; omega) hq
    refine ⟨r, h1, ?_⟩
    rw [h2]; simp
  · rw [if_pos (by omega), if_pos (by simp; omega)]
    obtain ⟨r, h1, h2⟩ := turn_j2 (out ++ [48 + (a : Int)] ++ [45]) k (by simp; omega) (by simp; omega) (fun x hx => by
      rcases List.mem_append.1 hx with h | h
      · exact hq x h
      · simp at h; omega)
    refine ⟨r, h1, ?_⟩
    rw [h2]; simp
theorem digits_l0 (sg : Int) (m : Nat) : ∀ (a K : Nat) (out : List Int), sg = 1 ∨ sg = -1 → a < 10 ^ (m + 1) → a ≤ 9223372036854775808 → out.length + m ≤ 100 → m + 200 ≤ K → (∀ x ∈ out, 0 ≤ x ∧ x < 256) →
    ∃ r, digit_Text.l0 K (sg * (a : Int)) sg out = some r ∧ L r = (if sg < 0 then [45] else []) ++ textN a ++ out.reverse := by
  induction m with
  | zero =>
    intro a K out hs ha hb hl hK hr
    exact digits_small sg a K out hs (by simpa using ha) (by omega) (by omega) hr
  | succ m ih =>
    intro a K out hs ha hb hl hK hr
    by_cases h10 : a < 10
    · exact digits_small sg a K out hs h10 (by omega) (by omega) hr
    · obtain ⟨k, rfl⟩ : ∃ k, K = k + 1 := ⟨K - 1, by omega⟩
      have e1 : wrap64 (sg * Int.tmod (sg * (a : Int)) 10) = ((a % 10 : Nat) : Int) := by
        rcases hs with rfl | rfl
        · rw [Int.one_mul, Int.one_mul, show Int.tmod (a : Int) 10 = ((a % 10 : Nat) : Int) from rfl, wrap_in (by omega) (by omega)]
        · rw [Int.neg_one_mul, Int.neg_one_mul, Int.neg_tmod, Int.neg_neg, show Int.tmod (a : Int) 10 = ((a % 10 : Nat) : Int) from rfl, wrap_in (by omega) (by omega)]
      have e2 : wrap64 (Int.tdiv (sg * (a : Int)) 10) = sg * ((a / 10 : Nat) : Int) := by
        rcases hs with rfl | rfl
        · rw [Int.one_mul, Int.one_mul, show Int.tdiv (a : Int) 10 = ((a / 10 : Nat) : Int) from rfl, wrap_in (by omega) (by omega)]
        · rw [Int.neg_one_mul, Int.neg_one_mul, Int.neg_tdiv, show Int.tdiv (a : Int) 10 = ((a / 10 : Nat) : Int) from rfl, wrap_in (by omega) (by omega)]
      have hz : ¬ (sg * ((a / 10 : Nat) : Int) = 0) := by
        rcases hs with rfl | rfl <;> omega
      simp only [digit_Text.l0]
      rw [e1, e2, if_pos (by omega), if_pos (by omega), if_pos (by omega), sign_nat (a % 10) (by omega), Option.bind_some, if_neg hz, show hx (a % 10) = 48 + ((a % 10 : Nat) : Int) by unfold hx; rw [if_pos (by omega)]]
      obtain ⟨r, h1, h2⟩ := ih (a / 10) k (out ++ [48 + ((a % 10 : Nat) : Int)]) hs (by rw [Nat.div_lt_iff_lt_mul (by omega)]; rw [Nat.pow_succ] at ha; exact ha) (by omega) (by simp; omega) (by omega) (fun x hx => by
        rcases List.mem_append.1 hx with h | h
        · exact hr x h
        · simp at h; omega)
      refine ⟨r, h1, ?_⟩
      rw [h2, textN_ge (n := a) (by omega)]
      simp
def textI (n : Int) : List Int := if n < 0 then 45 :: textN (-n).toNat else textN n.toNat
theorem Text_f (n : Int) (h1 : -9223372036854775808 ≤ n) (h2 : n ≤ 9223372036854775807) (K : Nat) (hK : 300 ≤ K) : ∃ r, digit_Text.f K n = some r ∧ L r = textI n := by
  obtain ⟨k, rfl⟩ : ∃ k, K = k + 1 := ⟨K - 1, by omega⟩
  unfold digit_Text.f textI
  simp only [digit_Text.j0]
  by_cases h : n < 0
  · rw [if_pos h, if_pos h]
    obtain ⟨r, e, l⟩ := digits_l0 (-1) 18 (-n).toNat k [] (.inr rfl) (by omega) (by omega) (by simp) (by omega) (by simp)
    rw [show (-1 : Int) * (((-n).toNat : Nat) : Int) = n by omega] at e
    exact ⟨r, e, by rw [l]; simp⟩
  · rw [if_neg h, if_neg h]
    obtain ⟨r, e, l⟩ := digits_l0 1 18 n.toNat k [] (.inl rfl) (by omega) (by omega) (by simp) (by omega) (by simp)
    rw [show (1 : Int) * ((n.toNat : Nat) : Int) = n by omega] at e
    exact ⟨r, e, by rw [l]; simp⟩
theorem HexText_l0 (m : Nat) : ∀ (n l K : Nat) (acc : ByteArray), n < 16 ^ m → n ≤ 9223372036854775807 → l ≤ acc.size + m → acc.size + m ≤ 100 → m + 1 ≤ K → ∃ r, digit_HexText.l0 K (n : Int) (l : Int) acc = some r ∧ L r = hexTL m n l (L acc) := by
  induction m with
  | zero =>
    intro n l K acc hn hb hl hs hK
    obtain ⟨k, rfl⟩ : ∃ k, K = k + 1 := ⟨K - 1, by omega⟩
    have : n = 0 := by simp at hn; omega
    subst this
    simp only [digit_HexText.l0]
    rw [if_neg (by omega), if_neg (by omega)]
    exact ⟨_, rfl, rfl⟩
  | succ m ih =>
    intro n l K acc hn hb hl hs hK
    obtain ⟨k, rfl⟩ : ∃ k, K = k + 1 := ⟨K - 1, by omega⟩
    have hlen := L_len acc
    have h1 : L (strOfNums [hx (n % 16)]) = [hx (n % 16)] := L_nums _ (by intro x h; simp at h; subst h; exact hx_range _ (by omega))
    have h2 : (strOfNums [hx (n % 16)]).size = 1 := by rw [← L_len, h1]; rfl
    have go : ∃ r, digit_HexText.l0 k ((n / 16 : Nat) : Int) (l : Int) (strOfNums [hx (n % 16)] ++ acc) = some r ∧ L r = hexTL m (n / 16) l (hx (n % 16) :: L acc) := by
      obtain ⟨r, e, h⟩ := ih (n / 16) l k (strOfNums [hx (n % 16)] ++ acc) (by rw [Nat.div_lt_iff_lt_mul (by omega)]; rw [Nat.pow_succ] at hn; exact hn) (by omega) (by rw [ByteArray.size_append, h2]; omega) (by rw [ByteArray.size_append, h2]; omega) (by omega)
      exact ⟨r, e, by rw [h, L_append, h1]; rfl⟩
    simp only [digit_HexText.l0, hexTL]
    rw [show Int.tdiv (n : Int) 16 = ((n / 16 : Nat) : Int) from rfl, show Int.tmod (n : Int) 16 = ((n % 16 : Nat) : Int) from rfl, wrap_in (n := ((n / 16 : Nat) : Int)) (by omega) (by omega), sign_nat _ (by omega)]
    simp only [Option.bind_some]
    by_cases c1 : 0 < n
    · rw [if_pos (by omega), if_pos (by omega), if_pos (by omega), if_pos (by omega), if_pos (.inl c1)]
      exact go
    · rw [if_neg (by omega)]
      by_cases c2 : acc.size < l
      · rw [if_pos (by omega), if_pos (by omega), if_pos (by omega), if_pos (by omega), if_pos (.inr (by omega))]
        exact go
      · rw [if_neg (by omega), if_neg (by omega)]
        exact ⟨_, rfl, rfl⟩
def atl (l : Int) : Nat := (min (max l 1) 8).toNat
theorem HexText_f (n l : Int) (h1 : -9223372036854775808 ≤ n) (h2 : n ≤ 9223372036854775807) (K : Nat) (hK : 300 ≤ K) : ∃ r, digit_HexText.f K n l = some r ∧ L r = hexTL 16 n.toNat (atl l) [] := by
  unfold digit_HexText.f
  have e1 : mx n 0 = ((n.toNat : Nat) : Int) := by unfold mx; split <;> omega
  have e2 : mn (mx l 1) 8 = ((atl l : Nat) : Int) := by unfold mn mx atl; repeat' split
                                                        all_goals omega
  rw [e1, e2]
  have hz : L (⟨#[]⟩ : ByteArray) = [] := rfl
  have := HexText_l0 16 n.toNat (atl l) K ⟨#[]⟩ (by omega) (by omega) (by unfold atl; omega) (by decide) (by omega)
  rwa [hz] at this
def sixteen : ByteArray := ⟨#[48, 49, 50, 51, 52, 53, 54, 55, 56, 57, 97, 98, 99, 100, 101, 102]⟩
theorem sixteen_at : ∀ n : Fin 16, L (sixteen.extract n.val (n.val + 1)) = [hx n.val] := by decide +kernel
theorem rHexText_l0 (l0 : Int) (m : Nat) : ∀ (n K : Nat) (acc : ByteArray), n < 16 ^ m → n ≤ 9223372036854775807 → acc.size + m = 16 → m + 1 ≤ K → ∃ r, spoolref01_HexText.l0 K (n : Int) l0 acc (acc.size : Int) = some r ∧ L r = hexTL m n (atl l0) (L acc) := by
  induction m with
  | zero =>
    intro n K acc hn hb hs hK
    obtain ⟨k, rfl⟩ : ∃ k, K = k + 1 := ⟨K - 1, by omega⟩
    simp only [spoolref01_HexText.l0]
    rw [if_neg (by omega)]
    exact ⟨_, rfl, rfl⟩
  | succ m ih =>
    intro n K acc hn hb hs hK
    obtain ⟨k, rfl⟩ : ∃ k, K = k + 1 := ⟨K - 1, by omega⟩
    have hlen := L_len acc
    have h1 : L (sixteen.extract (n % 16) (n % 16 + 1)) = [hx (n % 16)] := sixteen_at ⟨n % 16, by omega⟩
    have h2 : (sixteen.extract (n % 16) (n % 16 + 1)).size = 1 := by rw [← L_len, h1]; rfl
    have go : ∃ r, spoolref01_HexText.l0 k ((n / 16 : Nat) : Int) l0 (sixteen.extract (n % 16) (n % 16 + 1) ++ acc) ((acc.size : Int) + 1) = some r ∧ L r = hexTL m (n / 16) (atl l0) (hx (n % 16) :: L acc) := by
      have hsz : (sixteen.extract (n % 16) (n % 16 + 1) ++ acc).size = acc.size + 1 := by rw [ByteArray.size_append, h2]; omega
      obtain ⟨r, e, h⟩ := ih (n / 16) k (sixteen.extract (n % 16) (n % 16 + 1) ++ acc) (by rw [Nat.div_lt_iff_lt_mul (by omega)]; rw [Nat.pow_succ] at hn; exact hn) (by omega) (by omega) (by omega)
      rw [hsz] at e
      exact ⟨r, e, by rw [h, L_append, h1]; rfl⟩
    simp only [spoolref01_HexText.l0, hexTL]
    rw [show Int.tdiv (n : Int) 16 = ((n / 16 : Nat) : Int) from rfl, show Int.tmod (n : Int) 16 = ((n % 16 : Nat) : Int) from rfl, wrap_in (n := ((n / 16 : Nat) : Int)) (by omega) (by omega), wrap_in (n := ((n % 16 : Nat) : Int) + 1) (by omega) (by omega), wrap_in (n := (acc.size : Int) + 1) (by omega) (by omega)]
    rw [show (((n % 16 : Nat) : Int)).toNat = n % 16 by omega, show (((n % 16 : Nat) : Int) + 1).toNat = n % 16 + 1 by omega]
    simp only [sixteen] at h2 go
    rw [h2, if_pos (by omega)]
    by_cases c1 : 0 < n
    · rw [if_pos (by omega), if_pos (by omega), if_pos (by omega), if_pos (by omega), if_pos (by omega), if_pos (.inl c1)]
      exact go
    · rw [if_neg (by omega)]
      by_cases c0 : (acc.size : Int) < 1
      · rw [if_pos c0, if_pos (by omega), if_pos (by omega), if_pos (by omega), if_pos (by omega), if_pos (.inr (by unfold atl; omega))]
        exact go
      · rw [if_neg c0]
        by_cases c2 : (acc.size : Int) < l0
        · rw [if_pos c2]
          by_cases c3 : (acc.size : Int) < 8
          · rw [if_pos c3, if_pos (by omega), if_pos (by omega), if_pos (by omega), if_pos (by omega), if_pos (.inr (by unfold atl; omega))]
            exact go
          · rw [if_neg c3, if_neg (by unfold atl; omega)]
            exact ⟨_, rfl, rfl⟩
        · rw [if_neg c2, if_neg (by unfold atl; omega)]
          exact ⟨_, rfl, rfl⟩
theorem rHexText_f (n l : Int) (h1 : -9223372036854775808 ≤ n) (h2 : n ≤ 9223372036854775807) (K : Nat) (hK : 300 ≤ K) : ∃ r, spoolref01_HexText.f K n l = some r ∧ L r = hexTL 16 n.toNat (atl l) [] := by
  obtain ⟨k, rfl⟩ : ∃ k, K = k + 1 := ⟨K - 1, by omega⟩
  unfold spoolref01_HexText.f
  simp only [spoolref01_HexText.j0]
  have e : (if n < 0 then spoolref01_HexText.l0 k 0 l (⟨#[]⟩ : ByteArray) 0 else spoolref01_HexText.l0 k n l (⟨#[]⟩ : ByteArray) 0) = spoolref01_HexText.l0 k ((n.toNat : Nat) : Int) l (⟨#[]⟩ : ByteArray) 0 := by
    by_cases h : n < 0
    · rw [if_pos h, show ((n.toNat : Nat) : Int) = 0 by omega]
    · rw [if_neg h, show ((n.toNat : Nat) : Int) = n by omega]
  rw [e]
  have hz : L (⟨#[]⟩ : ByteArray) = [] := rfl
  have := rHexText_l0 l 16 n.toNat k ⟨#[]⟩ (by omega) (by omega) (by decide) (by omega)
  rwa [hz] at this
end Go.Proofs.YtlihkebmonfefaaDoor.PfX
/- How deep brackets stand in texts: the document's scan over texts put together. No program in sight. -/
set_option linter.unusedSimpArgs false
set_option linter.unusedVariables false
namespace Go.Proofs.YtlihkebmonfefaaDoor.PfB
structure Sc where
  most : Int
  now : Int
  inn : Bool
def stp (s : Sc) (c : Int) : Sc :=
  let i := if c = 93 then false else if c = 91 then true else s.inn
  let n := if c = 40 ∧ i = false then s.now + 1 else if c = 41 ∧ i = false then s.now - 1 else s.now
  ⟨if n > s.most then n else s.most, n, i⟩
def scan (l : List Int) (s : Sc) : Sc := l.foldl stp s
theorem scan_append (a b : List Int) (s : Sc) : scan (a ++ b) s = scan b (scan a s) := List.foldl_append
def Deep (l : List Int) (d : Int) : Prop := 0 ≤ d ∧ ∀ m n : Int, n ≤ m → scan l ⟨m, n, false⟩ = ⟨max m (n + d), n, false⟩
def plain (c : Int) : Prop := c ≠ 40 ∧ c ≠ 41 ∧ c ≠ 91 ∧ c ≠ 93
theorem stp_plain (c : Int) (h : plain c) (m n : Int) (i : Bool) (hm : n ≤ m) : stp ⟨m, n, i⟩ c = ⟨m, n, i⟩ := by
  obtain ⟨h1, h2, h3, h4⟩ := h
  simp [stp, h1, h2, h3, h4]
  omega
theorem deep_plain : ∀ l : List Int, (∀ c ∈ l, plain c) → Deep l 0 := by
  intro l
  induction l with
  | nil => intro _; exact ⟨Int.le_refl _, fun m n h => by simp [scan]; omega⟩
  | cons c l ih =>
    intro h
    refine ⟨Int.le_refl _, fun m n hm => ?_⟩
    have e := (ih (fun x hx => h x (List.mem_cons_of_mem _ hx))).2 m n hm
    show scan l (stp ⟨m, n, false⟩ c) = _
    rw [stp_plain c (h c (List.mem_cons_self ..)) m n false hm, e]
theorem deep_append {a b : List Int} {x y : Int} (ha : Deep a x) (hb : Deep b y) : Deep (a ++ b) (max x y) := by
  have h1 := ha.1
  have h2 := hb.1
  refine ⟨by omega, fun m n hm => ?_⟩
  rw [scan_append, ha.2 m n hm, hb.2 _ n (by omega)]
  simp only [Sc.mk.injEq, and_true]
  omega
theorem deep_in {a : List Int} {x : Int} (ha : Deep a x) : Deep (40 :: (a ++ [41])) (x + 1) := by
  have h1 := ha.1
  refine ⟨by omega, fun m n hm => ?_⟩
  show scan (a ++ [41]) (stp ⟨m, n, false⟩ 40) = _
  rw [scan_append]
  have e : stp ⟨m, n, false⟩ 40 = ⟨max m (n + 1), n + 1, false⟩ := by
    simp [stp]
    split <;> omega
  rw [e, ha.2 _ _ (by omega)]
  show stp _ 41 = _
  simp [stp]
  split <;> omega
theorem scan_class : ∀ l : List Int, (∀ c ∈ l, c ≠ 93) → ∀ m n : Int, n ≤ m → scan l ⟨m, n, true⟩ = ⟨m, n, true⟩ := by
  intro l
  induction l with
  | nil => intro _ m n _; rfl
  | cons c l ih =>
    intro h m n hm
    have hc := h c (List.mem_cons_self ..)
    have e : stp ⟨m, n, true⟩ c = ⟨m, n, true⟩ := by
      simp [stp, hc]
      omega
    show scan l (stp ⟨m, n, true⟩ c) = _
    rw [e]
    exact ih (fun x hx => h x (List.mem_cons_of_mem _ hx)) m n hm
theorem deep_class (l : List Int) (h : ∀ c ∈ l, c ≠ 93) : Deep (91 :: (l ++ [93])) 0 := by
  refine ⟨Int.le_refl _, fun m n hm => ?_⟩
  show scan (l ++ [93]) (stp ⟨m, n, false⟩ 91) = _
  rw [scan_append]
  have e : stp ⟨m, n, false⟩ 91 = ⟨m, n, true⟩ := by simp [stp]; omega
  rw [e, scan_class l h m n hm]
  show stp _ 93 = _
  simp [stp]
  omega
theorem deep_empty : Deep [40, 41] 1 := deep_in (a := []) (x := 0) (deep_plain [] (by simp))
end Go.Proofs.YtlihkebmonfefaaDoor.PfB
/- A set's text, how often, by the program and by the document: the same texts. Conditions: sets that may be, bounds on the fuel. -/
set_option linter.unusedSimpArgs false
set_option linter.unusedVariables false
namespace Go.Proofs.YtlihkebmonfefaaDoor.PfP
open Go.RowKit Go.Proofs.YtlihkebmonfefaaDoor.PG Go.Proofs.YtlihkebmonfefaaDoorW.PrintWords Go.Proofs.YtlihkebmonfefaaDoorW.PrintLast Go.Proofs.YtlihkebmonfefaaDoor.PlD Go.Proofs.YtlihkebmonfefaaDoor.Sets Go.Proofs.YtlihkebmonfefaaDoor.HandRight
open Go.Proofs.YtlihkebmonfefaaDoor.HandPrint (setF)
open Go.Proofs.YtlihkebmonfefaaDoor.PfX (Text_f rText_f HexText_f rHexText_f textI atl)
open Go.Proofs.YtlihkebmonfefaaDoor.PfB (Deep deep_plain deep_class plain)
def escL (c : Int) : List Int := ([92, 117, 123] ++ hexTL 16 c.toNat 1 []) ++ [125]
theorem hex_len (c : Int) (h0 : 0 ≤ c) (h1 : c ≤ 1114111) : (hexTL 16 c.toNat 1 []).length ≤ 6 := by
  have h := hexTL_len 16 c.toNat 1 [] 6 (by omega) (by simp)
  simpa using h
theorem escL_len (c : Int) (h0 : 0 ≤ c) (h1 : c ≤ 1114111) : (escL c).length ≤ 10 := by
  have := hex_len c h0 h1
  simp only [escL, List.length_append, List.length_cons, List.length_nil]
  omega
theorem hx_plain (k : Nat) (h : k < 16) : hx k ≠ 93 := by unfold hx; split <;> omega
theorem hexTL_no (m : Nat) : ∀ (n l : Nat) (acc : List Int), (∀ c ∈ acc, c ≠ 93) → ∀ c ∈ hexTL m n l acc, c ≠ 93 := by
  induction m with
  | zero => intro n l acc h; simpa [hexTL] using h
  | succ m ih =>
    intro n l acc h
    unfold hexTL
    split
    · refine ih _ _ _ ?_
      intro c hc
      rcases List.mem_cons.1 hc with rfl | hc
      · exact hx_plain _ (Nat.mod_lt _ (by decide))
      · exact h c hc
    · exact h
theorem escL_no (c : Int) : ∀ x ∈ escL c, x ≠ 93 := by
  intro x hx
  simp only [escL, List.mem_append, List.mem_cons, List.not_mem_nil, or_false] at hx
  rcases hx with (h | h) | h
  · rcases h with rfl | rfl | rfl <;> decide
  · exact hexTL_no 16 _ _ _ (by simp) x h
  · subst h; decide
theorem esc_f (c : Int) (h0 : 0 ≤ c) (h1 : c ≤ 1114111) (K : Nat) (hK : 300 ≤ K) : ∃ r, escape_Text.f K c = some r ∧ L r = escL c := by
  obtain ⟨r, e, l⟩ := HexText_f c 1 (by omega) (by omega) K hK
  have ha : atl 1 = 1 := rfl
  rw [ha] at l
  have hs : r.size ≤ 6 := by rw [← L_len, l]; exact hex_len c h0 h1
  unfold escape_Text.f
  rw [if_neg (by omega), if_neg (by omega), e]
  simp only [Option.bind_some]
  rw [if_pos (by omega), if_pos (by rw [ByteArray.size_append]; show 3 + r.size + 1 ≤ _; omega)]
  exact ⟨_, rfl, by rw [L_append, L_append, l]; rfl⟩
theorem rEsc_f (c : Int) (h0 : 0 ≤ c) (h1 : c ≤ 1114111) (K : Nat) (hK : 300 ≤ K) : ∃ r, spoolref11_Text.f K c = some r ∧ L r = escL c := by
  obtain ⟨r, e, l⟩ := rHexText_f c 1 (by omega) (by omega) K hK
  have ha : atl 1 = 1 := rfl
  rw [ha] at l
  have hs : r.size ≤ 6 := by rw [← L_len, l]; exact hex_len c h0 h1
  unfold spoolref11_Text.f
  rw [e]
  simp only [Option.bind_some]
  rw [if_pos (by omega), if_pos (by rw [ByteArray.size_append]; show 3 + r.size + 1 ≤ _; omega)]
  exact ⟨_, rfl, by rw [L_append, L_append, l]; rfl⟩
def itemL (r : S60) : List Int := escL r.f0 ++ (if r.f1 > r.f0 then 45 :: escL r.f1 else [])
def itemsL (l : List S60) : List Int := l.flatMap itemL
def classL (l : List S60) : List Int := if l = [] then 91 :: (([94] ++ escL 0 ++ [45] ++ escL 1114111) ++ [93]) else 91 :: (itemsL l ++ [93])
theorem itemL_len (r : S60) (h : Ok r) : (itemL r).length ≤ 21 := by
  obtain ⟨h0, h1, h2⟩ := h
  have a := escL_len r.f0 h0 (by omega)
  have b := escL_len r.f1 (by omega) h2
  unfold itemL
  split <;> simp only [List.length_append, List.length_cons, List.length_nil] <;> omega
theorem itemsL_len (l : List S60) (h : ∀ x, x ∈ l → Ok x) : (itemsL l).length ≤ 21 * l.length := by
  induction l with
  | nil => simp [itemsL]
  | cons r l ih =>
    have a := itemL_len r (h r (List.mem_cons_self ..))
    have b := ih (fun x hx => h x (List.mem_cons_of_mem _ hx))
    simp only [itemsL, List.flatMap_cons, List.length_append, List.length_cons] at b ⊢
    omega
theorem itemsL_no (l : List S60) : ∀ x ∈ itemsL l, x ≠ 93 := by
  intro x hx
  obtain ⟨r, _, hr⟩ := List.mem_flatMap.1 hx
  unfold itemL at hr
  rcases List.mem_append.1 hr with h | h
  · exact escL_no _ x h
  · split at h
    · rcases List.mem_cons.1 h with rfl | h
      · decide
      · exact escL_no _ x h
    · cases h
theorem classL_deep (l : List S60) : Deep (classL l) 0 := by
  unfold classL
  split
  · refine deep_class _ ?_
    intro x hx
    simp only [List.mem_append, List.mem_cons, List.not_mem_nil, or_false] at hx
    rcases hx with ((h | h) | h) | h
    · subst h; decide
    · exact escL_no _ x h
    · subst h; decide
    · exact escL_no _ x h
  · exact deep_class _ (itemsL_no l)
theorem classL_len (l : List S60) (h : ∀ x, x ∈ l → Ok x) (hl : l.length ≤ 30) : (classL l).length ≤ 700 := by
  unfold classL
  split
  · have a := escL_len 0 (by decide) (by decide)
    have b := escL_len 1114111 (by decide) (by decide)
    simp only [List.length_append, List.length_cons, List.length_nil]
    omega
  · have := itemsL_len l h
    simp only [List.length_append, List.length_cons, List.length_nil]
    omega
theorem rdg (l : List S60) (j : Nat) (h : j < l.length) : rd_T60 l (j : Int) = l[j]'h := by
  simp [rd_T60, List.getD_eq_getElem?_getD, h]
theorem dropc (l : List S60) (j : Nat) (h : j < l.length) : l.drop j = rd_T60 l (j : Int) :: l.drop (j + 1) := by
  rw [rdg l j h]; exact List.drop_eq_getElem_cons h
theorem text_l0 (l : List S60) (h : ∀ x, x ∈ l → Ok x) (hl : l.length ≤ 30) : ∀ (d j k : Nat) (acc : ByteArray), l.length = j + d → d + 301 ≤ k → acc.size ≤ 1 + 21 * j → ∃ r, bracket_Text.l0 k acc l (l.length : Int) (j : Int) = some r ∧ L r = L acc ++ (itemsL (l.drop j) ++ [93]) := by
  intro d
  induction d with
  | zero =>
    intro j k acc e hk ha
    obtain ⟨k, rfl⟩ : ∃ k', k = k' + 1 := ⟨k - 1, by omega⟩
    rw [bracket_Text.l0, if_neg (by omega), if_pos (by omega), List.drop_of_length_le (by omega)]
    exact ⟨_, rfl, by rw [L_append]; rfl⟩
  | succ d ih =>
    intro j k acc e hk ha
    obtain ⟨k, rfl⟩ : ∃ k', k = k' + 1 := ⟨k - 1, by omega⟩
    have hj : j < l.length := by omega
    obtain ⟨o0, o1, o2⟩ := h (rd_T60 l (j : Int)) (by rw [rdg l j hj]; exact List.getElem_mem hj)
    obtain ⟨a, ea, la⟩ := esc_f (rd_T60 l (j : Int)).f0 o0 (by omega) k (by omega)
    obtain ⟨b, eb, lb⟩ := esc_f (rd_T60 l (j : Int)).f1 (by omega) o2 k (by omega)
    have sa : a.size ≤ 10 := by rw [← L_len, la]; exact escL_len _ o0 (by omega)
    have sb : b.size ≤ 10 := by rw [← L_len, lb]; exact escL_len _ (by omega) o2
    have hw : wrap64 ((j : Int) + 1) = ((j + 1 : Nat) : Int) := by rw [wrap_in (by omega) (by omega)]; omega
    rw [bracket_Text.l0, if_pos (by omega), if_pos (by omega), if_pos (by omega), ea]
    simp only [Option.bind_some]
    rw [if_pos (by omega), dropc l j hj, hw]
    by_cases c : (rd_T60 l (j : Int)).f1 > (rd_T60 l (j : Int)).f0
    · rw [if_pos c, eb]
      simp only [Option.bind_some]
      rw [if_pos (by omega), if_pos (by rw [ByteArray.size_append, ByteArray.size_append]; show acc.size + a.size + (1 + b.size) ≤ _; omega)]
      obtain ⟨r, er, lr⟩ := ih (j + 1) k ((acc ++ a) ++ ((⟨#[45]⟩ : ByteArray) ++ b)) (by omega) (by omega) (by rw [ByteArray.size_append, ByteArray.size_append, ByteArray.size_append]; show acc.size + a.size + (1 + b.size) ≤ _; omega)
      refine ⟨r, er, ?_⟩
      rw [lr, L_append, L_append, L_append, la, lb]
      simp [itemsL, itemL, c, L]
    · rw [if_neg c]
      obtain ⟨r, er, lr⟩ := ih (j + 1) k (acc ++ a) (by omega) (by omega) (by rw [ByteArray.size_append]; omega)
      refine ⟨r, er, ?_⟩
      rw [lr, L_append, la]
      simp [itemsL, itemL, c]
theorem text_f (l : List S60) (h : St l) (hl : l.length ≤ 30) (K : Nat) (hK : 400 ≤ K) : ∃ r, bracket_Text.f K l = some r ∧ L r = classL l := by
  unfold bracket_Text.f
  rw [PfR.Of_f l (by omega), ofL_self h]
  simp only [Option.bind_some]
  by_cases c : (l.length : Int) = 0
  · have e : l = [] := List.eq_nil_of_length_eq_zero (by omega)
    obtain ⟨a, ea, la⟩ := esc_f 0 (by decide) (by decide) K (by omega)
    obtain ⟨b, eb, lb⟩ := esc_f 1114111 (by decide) (by decide) K (by omega)
    have sa : a.size ≤ 10 := by rw [← L_len, la]; exact escL_len _ (by decide) (by decide)
    have sb : b.size ≤ 10 := by rw [← L_len, lb]; exact escL_len _ (by decide) (by decide)
    rw [if_pos c, ea, eb]
    simp only [Option.bind_some]
    have s2 : (⟨#[91, 94]⟩ : ByteArray).size = 2 := rfl
    have s1 : (⟨#[45]⟩ : ByteArray).size = 1 := rfl
    rw [if_pos (by omega), if_pos (by rw [ByteArray.size_append, s2]; omega), if_pos (by rw [ByteArray.size_append, ByteArray.size_append, s2, s1]; omega), if_pos (by rw [ByteArray.size_append, ByteArray.size_append, ByteArray.size_append, s2, s1]; omega)]
    refine ⟨_, rfl, ?_⟩
    rw [L_append, L_append, L_append, L_append, la, lb]
    simp [classL, e, L]
  · rw [if_neg c]
    obtain ⟨r, er, lr⟩ := text_l0 l h.2 hl l.length 0 K (⟨#[91]⟩ : ByteArray) (by omega) (by omega) (by decide)
    refine ⟨r, er, ?_⟩
    have e : l ≠ [] := fun e => c (by rw [e]; rfl)
    rw [lr, List.drop_zero]
    simp [classL, e, L]
theorem sz45 : (⟨#[45]⟩ : ByteArray).size = 1 := rfl
theorem rtext_l0 (l : List S60) (h : ∀ x, x ∈ l → Ok x) (hl : l.length ≤ 30) (hne : l ≠ []) : ∀ (d j k : Nat) (acc : ByteArray), l.length = j + d → d + 301 ≤ k → acc.size ≤ 1 + 21 * j → ∃ r, spoolref12_Text.l0 k l acc (j : Int) = some r ∧ L r = L acc ++ (itemsL (l.drop j) ++ [93]) := by
  have hpos : 0 < l.length := List.length_pos_iff.2 hne
  intro d
  induction d with
  | zero =>
    intro j k acc e hk ha
    obtain ⟨k, rfl⟩ : ∃ k', k = k' + 1 := ⟨k - 1, by omega⟩
    rw [spoolref12_Text.l0, if_neg (by omega), if_neg (by omega), if_pos (by omega), List.drop_of_length_le (by omega)]
    exact ⟨_, rfl, by rw [L_append]; rfl⟩
  | succ d ih =>
    intro j k acc e hk ha
    obtain ⟨k, rfl⟩ : ∃ k', k = k' + 1 := ⟨k - 1, by omega⟩
    have hj : j < l.length := by omega
    obtain ⟨o0, o1, o2⟩ := h (rd_T60 l (j : Int)) (by rw [rdg l j hj]; exact List.getElem_mem hj)
    obtain ⟨a, ea, la⟩ := rEsc_f (rd_T60 l (j : Int)).f0 o0 (by omega) k (by omega)
    obtain ⟨b, eb, lb⟩ := rEsc_f (rd_T60 l (j : Int)).f1 (by omega) o2 k (by omega)
    have sa : a.size ≤ 10 := by rw [← L_len, la]; exact escL_len _ o0 (by omega)
    have sb : b.size ≤ 10 := by rw [← L_len, lb]; exact escL_len _ (by omega) o2
    have hw : wrap64 ((j : Int) + 1) = ((j + 1 : Nat) : Int) := by rw [wrap_in (by omega) (by omega)]; omega
    rw [spoolref12_Text.l0, if_pos (by omega), if_pos (by omega), ea]
    simp only [Option.bind_some]
    rw [if_pos (show acc.size + a.size ≤ 9223372036854775807 by omega), dropc l j hj, hw]
    by_cases c : (rd_T60 l (j : Int)).f1 > (rd_T60 l (j : Int)).f0
    · rw [if_pos c, if_pos (show (acc ++ a).size + 1 ≤ 9223372036854775807 by rw [ByteArray.size_append]; omega), eb]
      simp only [Option.bind_some]
      rw [if_pos (show ((acc ++ a) ++ (⟨#[45]⟩ : ByteArray)).size + b.size ≤ 9223372036854775807 by rw [ByteArray.size_append, ByteArray.size_append, sz45]; omega)]
      obtain ⟨r, er, lr⟩ := ih (j + 1) k (((acc ++ a) ++ (⟨#[45]⟩ : ByteArray)) ++ b) (by omega) (by omega) (by rw [ByteArray.size_append, ByteArray.size_append, ByteArray.size_append, sz45]; omega)
      refine ⟨r, er, ?_⟩
      rw [lr, L_append, L_append, L_append, la, lb]
      simp [itemsL, itemL, c, L]
    · rw [if_neg c]
      obtain ⟨r, er, lr⟩ := ih (j + 1) k (acc ++ a) (by omega) (by omega) (by rw [ByteArray.size_append]; omega)
      refine ⟨r, er, ?_⟩
      rw [lr, L_append, la]
      simp [itemsL, itemL, c]
theorem rtext_f (l : List S60) (h : St l) (hl : l.length ≤ 30) (K : Nat) (hK : 400 ≤ K) : ∃ r, spoolref12_Text.f K l = some r ∧ L r = classL l := by
  unfold spoolref12_Text.f
  rw [PfR.Set0_f l (by omega) K (by omega), ofL_self h]
  simp only [Option.bind_some]
  by_cases c : l = []
  · obtain ⟨K, rfl⟩ : ∃ k', K = k' + 1 := ⟨K - 1, by omega⟩
    obtain ⟨a, ea, la⟩ := rEsc_f 0 (by decide) (by decide) K (by omega)
    obtain ⟨b, eb, lb⟩ := rEsc_f 1114111 (by decide) (by decide) K (by omega)
    have sa : a.size ≤ 10 := by rw [← L_len, la]; exact escL_len _ (by decide) (by decide)
    have sb : b.size ≤ 10 := by rw [← L_len, lb]; exact escL_len _ (by decide) (by decide)
    have s2 : (⟨#[91, 94]⟩ : ByteArray).size = 2 := rfl
    have s1 : (⟨#[45]⟩ : ByteArray).size = 1 := rfl
    subst c
    rw [spoolref12_Text.l0, if_neg (by decide), if_pos (by decide), ea, eb]
    simp only [Option.bind_some]
    rw [if_pos (by omega), if_pos (by rw [ByteArray.size_append, s2]; omega), if_pos (by rw [ByteArray.size_append, ByteArray.size_append, s2, s1]; omega), if_pos (by rw [ByteArray.size_append, ByteArray.size_append, ByteArray.size_append, s2, s1]; omega)]
    refine ⟨_, rfl, ?_⟩
    rw [L_append, L_append, L_append, L_append, la, lb]
    simp [classL, L]
  · obtain ⟨r, er, lr⟩ := rtext_l0 l h.2 hl c l.length 0 K (⟨#[91]⟩ : ByteArray) (by omega) (by omega) (by decide)
    refine ⟨r, er, ?_⟩
    rw [lr, List.drop_zero]
    simp [classL, c, L]
def plainB (c : Int) : Bool := decide ((97 ≤ c ∧ c ≤ 122) ∨ (65 ≤ c ∧ c ≤ 90) ∨ (48 ≤ c ∧ c ≤ 57))
theorem plain_f (c : Int) : escape_Plain.f c = some (plainB c) := by
  unfold escape_Plain.f plainB
  by_cases h1 : c ≥ 97 <;> by_cases h2 : c ≤ 122 <;> by_cases h3 : c ≥ 65 <;> by_cases h4 : c ≤ 90 <;> by_cases h5 : c ≥ 48 <;> by_cases h6 : c ≤ 57 <;>
    first
    | (exfalso; omega)
    | (simp only [h1, h2, h3, h4, h5, h6, if_true, if_false]; (try congr 1); (try symm); first | done | (rw [decide_eq_true_eq]; omega) | (rw [decide_eq_false_iff_not]; omega) | (rw [decide_eq_decide]; omega))
theorem rplain_f (c : Int) : spoolref11_Plain.f c = some (plainB c) := by
  unfold spoolref11_Plain.f plainB
  by_cases h1 : c ≥ 97 <;> by_cases h2 : c ≤ 122 <;> by_cases h3 : c ≥ 65 <;> by_cases h4 : c ≤ 90 <;> by_cases h5 : c ≥ 48 <;> by_cases h6 : c ≤ 57 <;>
    first
    | (exfalso; omega)
    | (simp only [h1, h2, h3, h4, h5, h6, if_true, if_false]; (try congr 1); (try symm); first | done | (rw [decide_eq_true_eq]; omega) | (rw [decide_eq_false_iff_not]; omega) | (rw [decide_eq_decide]; omega))
def single (l : List S60) : Bool := match l with
  | [r] => decide (r.f0 = r.f1 ∧ r.f0 < 128) && plainB r.f0
  | _ => false
theorem single_one (r : S60) : single [r] = (decide (r.f0 = r.f1 ∧ r.f0 < 128) && plainB r.f0) := rfl
def setL (l : List S60) : List Int := if single l = true then [(rd_T60 l 0).f0] else classL l
def cntL (l : List S60) : Int := (l.map fun r => r.f1 - r.f0 + 1).foldr (· + ·) 0
theorem count_l0 (l : List S60) (h : ∀ x, x ∈ l → Ok x) (hl : l.length ≤ 30) : ∀ (d j k : Nat) (n : Int), l.length = j + d → d < k → 0 ≤ n → n ≤ 1114112 * j → ranges_Count.l0 k n l (l.length : Int) (j : Int) = some (n + cntL (l.drop j)) := by
  intro d
  induction d with
  | zero =>
    intro j k n e hk h0 h1
    obtain ⟨k, rfl⟩ : ∃ k', k = k' + 1 := ⟨k - 1, by omega⟩
    rw [ranges_Count.l0, if_neg (by omega), List.drop_of_length_le (by omega)]
    simp [cntL]
  | succ d ih =>
    intro j k n e hk h0 h1
    obtain ⟨k, rfl⟩ : ∃ k', k = k' + 1 := ⟨k - 1, by omega⟩
    have hj : j < l.length := by omega
    obtain ⟨o0, o1, o2⟩ := h (rd_T60 l (j : Int)) (by rw [rdg l j hj]; exact List.getElem_mem hj)
    have hw : wrap64 ((j : Int) + 1) = ((j + 1 : Nat) : Int) := by rw [wrap_in (by omega) (by omega)]; omega
    rw [ranges_Count.l0, if_pos (by omega), if_pos (by omega), if_pos (by omega), wrap_in (n := (rd_T60 l (j : Int)).f1 - (rd_T60 l (j : Int)).f0) (by omega) (by omega), wrap_in (n := (rd_T60 l (j : Int)).f1 - (rd_T60 l (j : Int)).f0 + 1) (by omega) (by omega), wrap_in (n := n + _) (by omega) (by omega), hw, ih (j + 1) k _ (by omega) (by omega) (by omega) (by omega), dropc l j hj]
    simp only [cntL, List.map_cons, List.foldr_cons]
    congr 1
    omega
theorem cntL_nn (l : List S60) (h : ∀ x, x ∈ l → Ok x) : (l.length : Int) ≤ cntL l := by
  induction l with
  | nil => simp [cntL]
  | cons r l ih =>
    obtain ⟨o0, o1, o2⟩ := h r (List.mem_cons_self ..)
    have b := ih (fun x hx => h x (List.mem_cons_of_mem _ hx))
    simp only [cntL, List.map_cons, List.foldr_cons, List.length_cons] at b ⊢
    omega
theorem one_f (l : List S60) (h : St l) (hl : l.length ≤ 30) (K : Nat) (hK : 400 ≤ K) : escape_One.f K l = some (if cntL l = 1 then ((rd_T60 l 0).f0, true) else (0, false)) := by
  unfold escape_One.f ranges_Count.f
  rw [PfR.Of_f l (by omega), ofL_self h]
  simp only [Option.bind_some]
  rw [show ((0 : Int)) = ((0 : Nat) : Int) from rfl, count_l0 l h.2 hl l.length 0 K ((0 : Nat) : Int) (by omega) (by omega) (by decide) (by decide)]
  simp only [Option.bind_some, List.drop_zero]
  rw [show (((0 : Nat) : Int) + cntL l) = cntL l by omega]
  by_cases c : cntL l = 1
  · have hpos : (((0 : Nat) : Int)) < (l.length : Int) := by
      cases l with
      | nil => simp [cntL] at c
      | cons r l => simp only [List.length_cons]; omega
    rw [if_pos c, if_pos c, if_pos hpos]
  · rw [if_neg c, if_neg c]
theorem cnt_one (l : List S60) (h : St l) : cntL l = 1 ↔ ∃ r, l = [r] ∧ r.f0 = r.f1 := by
  constructor
  · intro c
    cases l with
    | nil => simp [cntL] at c
    | cons r l =>
      obtain ⟨o0, o1, o2⟩ := h.2 r (List.mem_cons_self ..)
      have b := cntL_nn l (fun x hx => h.2 x (List.mem_cons_of_mem _ hx))
      simp only [cntL, List.map_cons, List.foldr_cons] at b c
      have e : l = [] := List.eq_nil_of_length_eq_zero (by omega)
      subst e
      simp at c
      exact ⟨r, rfl, by omega⟩
  · rintro ⟨r, rfl, e⟩
    simp [cntL, e]
theorem L_one (c : Int) (h0 : 0 ≤ c) (h1 : c < 256) : L (strOfNums [c]) = [c] := L_nums [c] (by intro x hx; rw [List.mem_singleton] at hx; subst hx; exact ⟨h0, h1⟩)
theorem set_f (l : List S60) (h : St l) (hl : l.length ≤ 30) (K : Nat) (hK : 400 ≤ K) : ∃ r, setF K l = some r ∧ L r = setL l := by
  unfold setF
  rw [one_f l h hl K hK]
  simp only [Option.bind_some]
  obtain ⟨t, et, lt⟩ := text_f l h hl K hK
  by_cases c : cntL l = 1
  · rw [if_pos c]
    obtain ⟨r, rfl, e⟩ := (cnt_one l h).1 c
    obtain ⟨o0, o1, o2⟩ := h.2 r (List.mem_cons_self ..)
    have hrd : (rd_T60 [r] 0).f0 = r.f0 := rfl
    simp only [hrd, true_and]
    by_cases c1 : r.f0 < 128
    · rw [if_pos c1, if_pos o0, plain_f]
      simp only [Option.bind_some]
      by_cases c2 : plainB r.f0 = true
      · rw [if_pos c2]
        refine ⟨_, rfl, ?_⟩
        rw [L_one _ o0 (by omega), setL, if_pos (by rw [single_one, c2, decide_eq_true ⟨e, c1⟩]; rfl)]; rfl
      · rw [if_neg c2]
        exact ⟨t, et, by rw [lt, setL, if_neg (by simp [single, c2])]⟩
    · rw [if_neg c1]
      exact ⟨t, et, by rw [lt, setL, if_neg (by simp only [single, Bool.and_eq_true, decide_eq_true_eq]; omega)]⟩
  · rw [if_neg c]
    simp only [Bool.false_eq_true, false_and, if_false]
    refine ⟨t, et, ?_⟩
    rw [lt, setL, if_neg ?_]
    intro hs
    unfold single at hs
    split at hs
    · rename_i r
      simp only [Bool.and_eq_true, decide_eq_true_eq] at hs
      exact c ((cnt_one _ h).2 ⟨r, rfl, hs.1.1⟩)
    · cases hs
theorem rset_f (l : List S60) (h : St l) (hl : l.length ≤ 30) (K : Nat) (hK : 500 ≤ K) : ∃ r, spoolref14_set.f K l = some r ∧ L r = setL l := by
  obtain ⟨K, rfl⟩ : ∃ k', K = k' + 1 := ⟨K - 1, by omega⟩
  obtain ⟨t, et, lt⟩ := rtext_f l h hl K (by omega)
  have key : single l = false → ∃ r, spoolref14_set.j0 (K + 1) l false = some r ∧ L r = setL l := by
    intro hs
    rw [spoolref14_set.j0, if_neg (by decide), PfR.Set0_f l (by omega) K (by omega), ofL_self h]
    simp only [Option.bind_some]
    rw [et]
    exact ⟨t, rfl, by rw [lt, setL, if_neg (by rw [hs]; decide)]⟩
  unfold spoolref14_set.f
  by_cases c : (l.length : Int) = 1
  · rw [if_pos c, if_pos (by omega)]
    obtain ⟨r, rfl⟩ : ∃ r, l = [r] := by
      cases l with
      | nil => simp at c
      | cons r l => exact ⟨r, by rw [List.eq_nil_of_length_eq_zero (l := l) (by simp at c; omega)]⟩
    obtain ⟨o0, o1, o2⟩ := h.2 r (List.mem_cons_self ..)
    have h0 : (rd_T60 [r] 0).f0 = r.f0 := rfl
    have h1 : (rd_T60 [r] 0).f1 = r.f1 := rfl
    rw [h0, h1]
    by_cases c1 : r.f0 = r.f1
    · rw [if_pos c1]
      by_cases c2 : r.f0 < 128
      · rw [if_pos c2, Int.emod_eq_of_lt o0 (by omega), rplain_f]
        simp only [Option.bind_some]
        by_cases c3 : plainB r.f0 = true
        · rw [c3, spoolref14_set.j0, if_pos rfl, if_pos (by simp), h0, Int.emod_eq_of_lt o0 (by omega)]
          exact ⟨_, rfl, by rw [L_one _ o0 (by omega), setL, if_pos (by rw [single_one, c3, decide_eq_true ⟨c1, c2⟩]; rfl)]; rfl⟩
        · rw [Bool.eq_false_iff.2 c3]
          exact key (by simp [single, c3])
      · rw [if_neg c2]
        exact key (by simp only [single, Bool.and_eq_false_iff, decide_eq_false_iff_not]; omega)
    · rw [if_neg c1]
      exact key (by simp only [single, Bool.and_eq_false_iff, decide_eq_false_iff_not]; omega)
  · rw [if_neg c]
    refine key ?_
    unfold single
    split
    · simp at c
    · rfl
theorem setL_len (l : List S60) (h : St l) (hl : l.length ≤ 30) : (setL l).length ≤ 700 := by
  unfold setL
  split
  · simp
  · exact classL_len l h.2 hl
theorem setL_deep (l : List S60) (h : St l) : Deep (setL l) 0 := by
  unfold setL
  split
  · rename_i hs
    unfold single at hs
    split at hs
    · rename_i r
      simp only [Bool.and_eq_true, decide_eq_true_eq, plainB] at hs
      refine deep_plain _ ?_
      intro c hc
      rw [List.mem_singleton] at hc
      have e : (rd_T60 [r] 0).f0 = r.f0 := rfl
      rw [e] at hc
      subst hc
      unfold plain
      omega
    · cases hs
  · exact classL_deep l
def oftenL (lo hi : Int) : List Int := if lo = 0 ∧ hi = -1 then [42] else if lo = 1 ∧ hi = -1 then [43] else if lo = 0 ∧ hi = 1 then [63] else if hi = -1 then (123 :: textN lo.toNat) ++ [44, 125] else if hi = lo then (123 :: textN lo.toNat) ++ [125] else ((123 :: textN lo.toNat) ++ (44 :: textN hi.toNat)) ++ [125]
theorem textN_small (n : Int) (h0 : 0 ≤ n) (h1 : n ≤ 255) : (textN n.toNat).length ≤ 3 := textN_len 2 n.toNat (by omega)
theorem textI_pos (n : Int) (h0 : 0 ≤ n) : textI n = textN n.toNat := by unfold textI; rw [if_neg (by omega)]
def timesOk (lo hi : Int) : Prop := 0 ≤ lo ∧ lo ≤ 255 ∧ (hi = -1 ∨ (lo ≤ hi ∧ hi ≤ 255))
theorem times_ok {lo hi : Int} (h : (arena_times.f lo hi).getD false = true) : timesOk lo hi := by
  unfold arena_times.f at h
  unfold timesOk
  repeat' split at h
  all_goals (first | (simp at h; omega) | (simp at h))
theorem oftenL_len (lo hi : Int) (h : timesOk lo hi) : (oftenL lo hi).length ≤ 10 := by
  obtain ⟨h0, h1, h2⟩ := h
  have a := textN_small lo h0 h1
  unfold oftenL
  repeat' split
  all_goals (try (simp only [List.length_append, List.length_cons, List.length_nil]))
  all_goals (try omega)
  have b := textN_small hi (by omega) (by omega)
  omega
theorem oftenL_deep (lo hi : Int) : Deep (oftenL lo hi) 0 := by
  have hd : ∀ n c, c ∈ textN n → plain c := by
    intro n c hc
    have := textN_dig n c hc
    unfold dig at this
    unfold plain
    omega
  refine deep_plain _ ?_
  intro c hc
  unfold oftenL at hc
  repeat' split at hc
  all_goals (simp only [List.mem_append, List.mem_cons, List.not_mem_nil, or_false] at hc)
  · subst hc; exact ⟨by decide, by decide, by decide, by decide⟩
  · subst hc; exact ⟨by decide, by decide, by decide, by decide⟩
  · subst hc; exact ⟨by decide, by decide, by decide, by decide⟩
  · rcases hc with (h | h) | h | h
    · subst h; exact ⟨by decide, by decide, by decide, by decide⟩
    · exact hd _ _ h
    · subst h; exact ⟨by decide, by decide, by decide, by decide⟩
    · subst h; exact ⟨by decide, by decide, by decide, by decide⟩
  · rcases hc with (h | h) | h
    · subst h; exact ⟨by decide, by decide, by decide, by decide⟩
    · exact hd _ _ h
    · subst h; exact ⟨by decide, by decide, by decide, by decide⟩
  · rcases hc with ((h | h) | h | h) | h
    · subst h; exact ⟨by decide, by decide, by decide, by decide⟩
    · exact hd _ _ h
    · subst h; exact ⟨by decide, by decide, by decide, by decide⟩
    · exact hd _ _ h
    · subst h; exact ⟨by decide, by decide, by decide, by decide⟩
end Go.Proofs.YtlihkebmonfefaaDoor.PfP

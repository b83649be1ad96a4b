/- What the functions that tell a number's text tell, over plain lists of numbers. -/
import Derived.Test.YtifcpamliidabaaDoorPfD
namespace Go.Proofs.YtifcpamliidabaaDoor.PfD
open Go.RowKit Go.Proofs.YtifcpamliidabaaDoor.PS Go.Proofs.YtifcpamliidabaaDoorW.PrintWords Go.Proofs.YtifcpamliidabaaDoorW.PrintLast Go.Proofs.YtifcpamliidabaaDoor.PlD

theorem sign_at : ∀ n : Fin 16, rd tab_digit_signs ((n.val : Nat) : Int) = hx n.val := by decide +kernel
theorem sign_nat (n : Nat) (h : n < 16) : rd tab_digit_signs (n : Int) = hx n := sign_at ⟨n, h⟩
/-! ### the digits, turned round -/
theorem turn_l1 (l : List Int) (d : Nat) : ∀ (K i : Nat) (xs : List Int), l.length / 2 - i ≤ d → i ≤ l.length / 2 → d + 1 ≤ K → l.length ≤ 1000000 → xs.length = l.length →
    (∀ j, j < l.length → xs.getD j 0 = if j < i ∨ l.length - i ≤ j then l.getD (l.length - 1 - j) 0 else l.getD j 0) → (∀ x ∈ l, 0 ≤ x ∧ x < 256) →
    ∃ r, digit_Text.l1 K xs ((l.length / 2 : Nat) : Int) (i : Int) = some r ∧ L r = l.reverse := by
  induction d with
  | zero =>
    intro K i xs hd hi hK hl hx hj hr
    obtain ⟨k, rfl⟩ : ∃ k, K = k + 1 := ⟨K - 1, by omega⟩
    simp only [digit_Text.l1]
    rw [if_neg (by omega)]
    refine ⟨_, rfl, ?_⟩
    have e : xs = l.reverse := by
      apply List.ext_getElem
      · simp [hx]
      · intro j h1 h2
        have := hj j (by omega)
        rw [List.getD_eq_getElem?_getD, List.getElem?_eq_getElem h1, Option.getD_some] at this
        rw [this, List.getElem_reverse]
        split
        · rw [List.getD_eq_getElem?_getD, List.getElem?_eq_getElem (by omega), Option.getD_some]
        · rw [List.getD_eq_getElem?_getD, List.getElem?_eq_getElem (by omega), Option.getD_some]
          congr 1
          omega
    rw [e, L_nums]
    intro x hx
    exact hr x (List.mem_reverse.1 hx)
  | succ d ih =>
    intro K i xs hd hi hK hl hx hj hr
    by_cases hlt : i < l.length / 2
    · obtain ⟨k, rfl⟩ : ∃ k, K = k + 1 := ⟨K - 1, by omega⟩
      simp only [digit_Text.l1]
      have e1 : wrap64 (wrap64 ((xs.length : Int) - 1) - (i : Int)) = ((l.length - 1 - i : Nat) : Int) := by
        rw [hx, wrap_in (n := (l.length : Int) - 1) (by omega) (by omega), wrap_in (by omega) (by omega)]
        omega
      rw [if_pos (by omega), e1, if_pos (by omega), if_pos (by omega), if_pos (by omega), if_pos (by omega), wrap_in (n := (i : Int) + 1) (by omega) (by omega)]
      have := ih k (i + 1) ((xs.set (i : Int).toNat (rd xs ((l.length - 1 - i : Nat) : Int))).set ((l.length - 1 - i : Nat) : Int).toNat (rd xs (i : Int))) (by omega) (by omega) (by omega) hl (by simp [hx]) ?_ hr
      · exact this
      · intro j hjl
        simp only [Int.toNat_natCast, rd]
        rw [List.getD_eq_getElem?_getD, List.getElem?_set, List.getElem?_set]
        have a1 := hj i (by omega)
        have a2 := hj (l.length - 1 - i) (by omega)
        have a3 := hj j hjl
        rw [if_neg (by omega)] at a1 a2
        by_cases c1 : l.length - 1 - i = j
        · rw [if_pos c1, if_pos (by simp [hx]; omega), Option.getD_some, a1, if_pos (by omega), ← c1]
          congr 1
          omega
        · rw [if_neg c1]
          by_cases c2 : i = j
          · rw [if_pos c2, if_pos (by omega), Option.getD_some, a2, if_pos (by omega), ← c2]
          · rw [if_neg c2, ← List.getD_eq_getElem?_getD, a3]
            by_cases c3 : j < i ∨ l.length - i ≤ j
            · rw [if_pos c3, if_pos (by omega)]
            · rw [if_neg c3, if_neg (by omega)]
    · exact ih K i xs (by omega) hi (by omega) hl hx hj hr
theorem turn_j2 (l : List Int) (K : Nat) (hK : l.length + 2 ≤ K) (hl : l.length ≤ 1000000) (hr : ∀ x ∈ l, 0 ≤ x ∧ x < 256) : ∃ r, digit_Text.j2 K l = some r ∧ L r = l.reverse := by
  obtain ⟨k, rfl⟩ : ∃ k, K = k + 1 := ⟨K - 1, by omega⟩
  simp only [digit_Text.j2]
  rw [wrap_in (by omega) (by omega)]
  have := turn_l1 l (l.length / 2) k 0 l (by omega) (by omega) (by omega) hl rfl (fun j hj => ?_) hr
  · exact this
  · rw [if_neg (by omega)]
/-! ### a number's text -/
theorem digits_small (sg : Int) (a K : Nat) (out : List Int) (hs : sg = 1 ∨ sg = -1) (ha : a < 10) (hl : out.length ≤ 100) (hK : 200 ≤ K) (hr : ∀ x ∈ out, 0 ≤ x ∧ x < 256) :
    ∃ r, digit_Text.l0 K (sg * (a : Int)) sg out = some r ∧ L r = (if sg < 0 then [45] else []) ++ textN a ++ out.reverse := by
  obtain ⟨k, rfl⟩ : ∃ k, K = k + 1 := ⟨K - 1, by omega⟩
  have e1 : wrap64 (sg * Int.tmod (sg * (a : Int)) 10) = (a : Int) := by
    rcases hs with rfl | rfl
    · rw [Int.one_mul, Int.one_mul, show Int.tmod (a : Int) 10 = ((a % 10 : Nat) : Int) from rfl, wrap_in (by omega) (by omega)]; omega
    · rw [Int.neg_one_mul, Int.neg_one_mul, Int.neg_tmod, Int.neg_neg, show Int.tmod (a : Int) 10 = ((a % 10 : Nat) : Int) from rfl, wrap_in (by omega) (by omega)]; omega
  have e2 : wrap64 (Int.tdiv (sg * (a : Int)) 10) = 0 := by
    rcases hs with rfl | rfl
    · rw [Int.one_mul, show Int.tdiv (a : Int) 10 = ((a / 10 : Nat) : Int) from rfl, wrap_in (by omega) (by omega)]; omega
    · rw [Int.neg_one_mul, Int.neg_tdiv, show Int.tdiv (a : Int) 10 = ((a / 10 : Nat) : Int) from rfl, wrap_in (by omega) (by omega)]; omega
  have hq : ∀ x ∈ out ++ [48 + (a : Int)], 0 ≤ x ∧ x < 256 := by
    intro x hx
    rcases List.mem_append.1 hx with h | h
    · exact hr x h
    · simp at h; omega
  simp only [digit_Text.l0]
  rw [e1, e2, if_pos (by omega), if_pos (by omega), if_pos (by omega), sign_nat a (by omega), Option.bind_some, if_pos rfl, show hx a = 48 + (a : Int) by unfold hx; rw [if_pos ha], textN_lt ha]
  rcases hs with rfl | rfl
  · rw [if_neg (by omega)]
    obtain ⟨r, h1, h2⟩ := turn_j2 (out ++ [48 + (a : Int)]) k (by simp; omega) (by simp; omega) hq
    refine ⟨r, h1, ?_⟩
    rw [h2]; simp
  · rw [if_pos (by omega), if_pos (by simp; omega)]
    obtain ⟨r, h1, h2⟩ := turn_j2 (out ++ [48 + (a : Int)] ++ [45]) k (by simp; omega) (by simp; omega) (fun x hx => by
      rcases List.mem_append.1 hx with h | h
      · exact hq x h
      · simp at h; omega)
    refine ⟨r, h1, ?_⟩
    rw [h2]; simp
theorem digits_l0 (sg : Int) (m : Nat) : ∀ (a K : Nat) (out : List Int), sg = 1 ∨ sg = -1 → a < 10 ^ (m + 1) → a ≤ 9223372036854775808 → out.length + m ≤ 100 → m + 200 ≤ K → (∀ x ∈ out, 0 ≤ x ∧ x < 256) →
    ∃ r, digit_Text.l0 K (sg * (a : Int)) sg out = some r ∧ L r = (if sg < 0 then [45] else []) ++ textN a ++ out.reverse := by
  induction m with
  | zero =>
    intro a K out hs ha hb hl hK hr
    exact digits_small sg a K out hs (by simpa using ha) (by omega) (by omega) hr
  | succ m ih =>
    intro a K out hs ha hb hl hK hr
    by_cases h10 : a < 10
    · exact digits_small sg a K out hs h10 (by omega) (by omega) hr
    · obtain ⟨k, rfl⟩ : ∃ k, K = k + 1 := ⟨K - 1, by omega⟩
      have e1 : wrap64 (sg * Int.tmod (sg * (a : Int)) 10) = ((a % 10 : Nat) : Int) := by
        rcases hs with rfl | rfl
        · rw [Int.one_mul, Int.one_mul, show Int.tmod (a : Int) 10 = ((a % 10 : Nat) : Int) from rfl, wrap_in (by omega) (by omega)]
        · rw [Int.neg_one_mul, Int.neg_one_mul, Int.neg_tmod, Int.neg_neg, show Int.tmod (a : Int) 10 = ((a % 10 : Nat) : Int) from rfl, wrap_in (by omega) (by omega)]
      have e2 : wrap64 (Int.tdiv (sg * (a : Int)) 10) = sg * ((a / 10 : Nat) : Int) := by
        rcases hs with rfl | rfl
        · rw [Int.one_mul, Int.one_mul, show Int.tdiv (a : Int) 10 = ((a / 10 : Nat) : Int) from rfl, wrap_in (by omega) (by omega)]
        · rw [Int.neg_one_mul, Int.neg_one_mul, Int.neg_tdiv, show Int.tdiv (a : Int) 10 = ((a / 10 : Nat) : Int) from rfl, wrap_in (by omega) (by omega)]
      have hz : ¬ (sg * ((a / 10 : Nat) : Int) = 0) := by
        rcases hs with rfl | rfl <;> omega
      simp only [digit_Text.l0]
      rw [e1, e2, if_pos (by omega), if_pos (by omega), if_pos (by omega), sign_nat (a % 10) (by omega), Option.bind_some, if_neg hz, show hx (a % 10) = 48 + ((a % 10 : Nat) : Int) by unfold hx; rw [if_pos (by omega)]]
      obtain ⟨r, h1, h2⟩ := ih (a / 10) k (out ++ [48 + ((a % 10 : Nat) : Int)]) hs (by rw [Nat.div_lt_iff_lt_mul (by omega)]; rw [Nat.pow_succ] at ha; exact ha) (by omega) (by simp; omega) (by omega) (fun x hx => by
        rcases List.mem_append.1 hx with h | h
        · exact hr x h
        · simp at h; omega)
      refine ⟨r, h1, ?_⟩
      rw [h2, textN_ge (n := a) (by omega)]
      simp
/-- A number's text. -/
def textI (n : Int) : List Int := if n < 0 then 45 :: textN (-n).toNat else textN n.toNat
theorem Text_f (n : Int) (h1 : -9223372036854775808 ≤ n) (h2 : n ≤ 9223372036854775807) (K : Nat) (hK : 300 ≤ K) : ∃ r, digit_Text.f K n = some r ∧ L r = textI n := by
  obtain ⟨k, rfl⟩ : ∃ k, K = k + 1 := ⟨K - 1, by omega⟩
  unfold digit_Text.f textI
  simp only [digit_Text.j0]
  by_cases h : n < 0
  · rw [if_pos h, if_pos h]
    obtain ⟨r, e, l⟩ := digits_l0 (-1) 18 (-n).toNat k [] (.inr rfl) (by omega) (by omega) (by simp) (by omega) (by simp)
    rw [show (-1 : Int) * (((-n).toNat : Nat) : Int) = n by omega] at e
    exact ⟨r, e, by rw [l]; simp⟩
  · rw [if_neg h, if_neg h]
    obtain ⟨r, e, l⟩ := digits_l0 1 18 n.toNat k [] (.inl rfl) (by omega) (by omega) (by simp) (by omega) (by simp)
    rw [show (1 : Int) * ((n.toNat : Nat) : Int) = n by omega] at e
    exact ⟨r, e, by rw [l]; simp⟩
end Go.Proofs.YtifcpamliidabaaDoor.PfD

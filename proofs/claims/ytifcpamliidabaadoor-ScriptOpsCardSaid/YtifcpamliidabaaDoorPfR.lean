import Derived.Test.YtifcpamliidabaaDoorPSx11
import Derived.Test.YtifcpamliidabaaDoorPfO
import Derived.Test.YtifcpamliidabaaDoorPSx21
import Derived.Test.YtifcpamliidabaaDoorHandQuote
import Derived.Test.YtifcpamliidabaaDoorPSx9
import Derived.Test.YtifcpamliidabaaDoorPSx23
/- The document's example holds. -/
namespace Go.Proofs.YtifcpamliidabaaDoor.PfA
open Go.RowKit Go.Proofs.YtifcpamliidabaaDoor.PS Go.Proofs.YtifcpamliidabaaDoorW.PrintWords Go.Proofs.YtifcpamliidabaaDoorW.PrintLast
set_option maxRecDepth 100000 in
theorem alive_40 : spoollaw48_alive.f 40 = some true := by decide +kernel
theorem alive_f (K : Nat) (hK : 40 ≤ K) : spoollaw48_alive.f K = some true := by
  obtain ⟨d, rfl⟩ : ∃ d, K = 40 + d := ⟨K - 40, by omega⟩
  clear hK
  induction d with
  | zero => exact alive_40
  | succ d ih => exact spoollaw48_alive.mono _ _ ih
end Go.Proofs.YtifcpamliidabaaDoor.PfA

/- What the functions that tell a number's text tell, over plain lists of numbers. -/
namespace Go.Proofs.YtifcpamliidabaaDoor.PfD
open Go.RowKit Go.Proofs.YtifcpamliidabaaDoor.PS Go.Proofs.YtifcpamliidabaaDoorW.PrintWords Go.Proofs.YtifcpamliidabaaDoorW.PrintLast Go.Proofs.YtifcpamliidabaaDoor.PlD

theorem sign_at : ∀ n : Fin 16, rd tab_digit_signs ((n.val : Nat) : Int) = hx n.val := by decide +kernel
theorem sign_nat (n : Nat) (h : n < 16) : rd tab_digit_signs (n : Int) = hx n := sign_at ⟨n, h⟩
/-! ### the digits, turned round -/
theorem turn_l1 (l : List Int) (d : Nat) : ∀ (K i : Nat) (xs : List Int), l.length / 2 - i ≤ d → i ≤ l.length / 2 → d + 1 ≤ K → l.length ≤ 1000000 → xs.length = l.length →
    (∀ j, j < l.length → xs.getD j 0 = if j < i ∨ l.length - i ≤ j then l.getD (l.length - 1 - j) 0 else l.getD j 0) → (∀ x ∈ l, 0 ≤ x ∧ x < 256) →
    ∃ r, digit_Text.l1 K xs ((l.length / 2 : Nat) : Int) (i : Int) = some r ∧ L r = l.reverse := by
  induction d with
  | zero =>
    intro K i xs hd hi hK hl hx hj hr
    obtain ⟨k, rfl⟩ : ∃ k, K = k + 1 := ⟨K - 1, by omega⟩
    simp only [digit_Text.l1]
    rw [if_neg (by omega)]
    refine ⟨_, rfl, ?_⟩
    have e : xs = l.reverse := by
      apply List.ext_getElem
      · simp [hx]
      · intro j h1 h2
        have := hj j (by omega)
        rw [List.getD_eq_getElem?_getD, List.getElem?_eq_getElem h1, Option.getD_some] at this
        rw [this, List.getElem_reverse]
        split
        · rw [List.getD_eq_getElem?_getD, List.getElem?_eq_getElem (by omega), Option.getD_some]
        · rw [List.getD_eq_getElem?_getD, List.getElem?_eq_getElem (by omega), Option.getD_some]
          congr 1
          omega
    rw [e, L_nums]
    intro x hx
    exact hr x (List.mem_reverse.1 hx)
  | succ d ih =>
    intro K i xs hd hi hK hl hx hj hr
    by_cases hlt : i < l.length / 2
    · obtain ⟨k, rfl⟩ : ∃ k, K = k + 1 := ⟨K - 1, by omega⟩
      simp only [digit_Text.l1]
      have e1 : wrap64 (wrap64 ((xs.length : Int) - 1) - (i : Int)) = ((l.length - 1 - i : Nat) : Int) := by
        rw [hx, wrap_in (n := (l.length : Int) - 1) (by omega) (by omega), wrap_in (by omega) (by omega)]
        omega
      rw [if_pos (by omega), e1, if_pos (by omega), if_pos (by omega), if_pos (by omega), if_pos (by omega), wrap_in (n := (i : Int) + 1) (by omega) (by omega)]
      have := ih k (i + 1) ((xs.set (i : Int).toNat (rd xs ((l.length - 1 - i : Nat) : Int))).set ((l.length - 1 - i : Nat) : Int).toNat (rd xs (i : Int))) (by omega) (by omega) (by omega) hl (by simp [hx]) ?_ hr
      · exact this
      · intro j hjl
        simp only [Int.toNat_natCast, rd]
        rw [List.getD_eq_getElem?_getD, List.getElem?_set, List.getElem?_set]
        have a1 := hj i (by omega)
        have a2 := hj (l.length - 1 - i) (by omega)
        have a3 := hj j hjl
        rw [if_neg (by omega)] at a1 a2
        by_cases c1 : l.length - 1 - i = j
        · rw [if_pos c1, if_pos (by simp [hx]; omega), Option.getD_some, a1, if_pos (by omega), ← c1]
          congr 1
          omega
        · rw [if_neg c1]
          by_cases c2 : i = j
          · rw [if_pos c2, if_pos (by omega), Option.getD_some, a2, if_pos (by omega), ← c2]
          · rw [if_neg c2, ← List.getD_eq_getElem?_getD, a3]
            by_cases c3 : j < i ∨ l.length - i ≤ j
            · rw [if_pos c3, if_pos (by omega)]
            · rw [if_neg c3, if_neg (by omega)]
    · exact ih K i xs (by omega) hi (by omega) hl hx hj hr
theorem turn_j2 (l : List Int) (K : Nat) (hK : l.length + 2 ≤ K) (hl : l.length ≤ 1000000) (hr : ∀ x ∈ l, 0 ≤ x ∧ x < 256) : ∃ r, digit_Text.j2 K l = some r ∧ L r = l.reverse := by
  obtain ⟨k, rfl⟩ : ∃ k, K = k + 1 := ⟨K - 1, by omega⟩
  simp only [digit_Text.j2]
  rw [wrap_in (by omega) (by omega)]
  have := turn_l1 l (l.length / 2) k 0 l (by omega) (by omega) (by omega) hl rfl (fun j hj => ?_) hr
  · exact this
  · rw [if_neg (by omega)]
/-! ### a number's text -/
theorem digits_small (sg : Int) (a K : Nat) (out : List Int) (hs : sg = 1 ∨ sg = -1) (ha : a < 10) (hl : out.length ≤ 100) (hK : 200 ≤ K) (hr : ∀ x ∈ out, 0 ≤ x ∧ x < 256) :
    ∃ r, digit_Text.l0 K (sg * (a : Int)) sg out = some r ∧ L r = (if sg < 0 then [45] else []) ++ textN a ++ out.reverse := by
  obtain ⟨k, rfl⟩ : ∃ k, K = k + 1 := ⟨K - 1, by omega⟩
  have e1 : wrap64 (sg * Int.tmod (sg * (a : Int)) 10) = (a : Int) := by
    rcases hs with rfl | rfl
    · rw [Int.one_mul, Int.one_mul, show Int.tmod (a : Int) 10 = ((a % 10 : Nat) : Int) from rfl, wrap_in (by omega) (by omega)]; omega
    · rw [Int.neg_one_mul, Int.neg_one_mul, Int.neg_tmod, Int.neg_neg, show Int.tmod (a : Int) 10 = ((a % 10 : Nat) : Int) from rfl, wrap_in (by omega) (by omega)]; omega
  have e2 : wrap64 (Int.tdiv (sg * (a : Int)) 10) = 0 := by
    rcases hs with rfl | rfl
    · rw [Int.one_mul, show Int.tdiv (a : Int) 10 = ((a / 10 : Nat) : Int) from rfl, wrap_in (by omega) (by omega)]; omega
    · rw [Int.neg_one_mul, Int.neg_tdiv, show Int.tdiv (a : Int) 10 = ((a / 10 : Nat) : Int) from rfl, wrap_in (by omega) (by omega)]; omega
  have hq : ∀ x ∈ out ++ [48 + (a : Int)], 0 ≤ x ∧ x < 256 := by
    intro x hx
    rcases List.mem_append.1 hx with h | h
    · exact hr x h
    · simp at h; omega
  simp only [digit_Text.l0]
  rw [e1, e2, if_pos (by omega), if_pos (by omega), if_pos (by omega), sign_nat a (by omega), Option.bind_some, if_pos rfl, show hx a = 48 + (a : Int) by unfold hx; rw [if_pos ha], textN_lt ha]
  rcases hs with rfl | rfl
  · rw [if_neg (by omega)]
    obtain ⟨r, h1, h2⟩ := turn_j2 (out ++ [48 + (a : Int)]) k (by simp; omega) (by simp; omega) hq
    refine ⟨r, h1, ?_⟩
    rw [h2]; simp
  · rw [if_pos (by omega), if_pos (by simp; omega)]
    obtain ⟨r, h1, h2⟩ := turn_j2 (out ++ [48 + (a : Int)] ++ [45]) k (by simp; omega) (by simp; omega) (fun x hx => by
      rcases List.mem_append.1 hx with h | h
      · exact hq x h
      · simp at h; omega)
    refine ⟨r, h1, ?_⟩
    rw [h2]; simp
theorem digits_l0 (sg : Int) (m : Nat) : ∀ (a K : Nat) (out : List Int), sg = 1 ∨ sg = -1 → a < 10 ^ (m + 1) → a ≤ 9223372036854775808 → out.length + m ≤ 100 → m + 200 ≤ K → (∀ x ∈ out, 0 ≤ x ∧ x < 256) →
    ∃ r, digit_Text.l0 K (sg * (a : Int)) sg out = some r ∧ L r = (if sg < 0 then [45] else []) ++ textN a ++ out.reverse := by
  induction m with
  | zero =>
    intro a K out hs ha hb hl hK hr
    exact digits_small sg a K out hs (by simpa using ha) (by omega) (by omega) hr
  | succ m ih =>
    intro a K out hs ha hb hl hK hr
    by_cases h10 : a < 10
    · exact digits_small sg a K out hs h10 (by omega) (by omega) hr
    · obtain ⟨k, rfl⟩ : ∃ k, K = k + 1 := ⟨K - 1, by omega⟩
      have e1 : wrap64 (sg * Int.tmod (sg * (a : Int)) 10) = ((a % 10 : Nat) : Int) := by
        rcases hs with rfl | rfl
        · rw [Int.one_mul, Int.one_mul, show Int.tmod (a : Int) 10 = ((a % 10 : Nat) : Int) from rfl, wrap_in (by omega) (by omega)]
        · rw [Int.neg_one_mul, Int.neg_one_mul, Int.neg_tmod, Int.neg_neg, show Int.tmod (a : Int) 10 = ((a % 10 : Nat) : Int) from rfl, wrap_in (by omega) (by omega)]
      have e2 : wrap64 (Int.tdiv (sg * (a : Int)) 10) = sg * ((a / 10 : Nat) : Int) := by
        rcases hs with rfl | rfl
        · rw [Int.one_mul, Int.one_mul, show Int.tdiv (a : Int) 10 = ((a / 10 : Nat) : Int) from rfl, wrap_in (by omega) (by omega)]
        · rw [Int.neg_one_mul, Int.neg_one_mul, Int.neg_tdiv, show Int.tdiv (a : Int) 10 = ((a / 10 : Nat) : Int) from rfl, wrap_in (by omega) (by omega)]
      have hz : ¬ (sg * ((a / 10 : Nat) : Int) = 0) := by
        rcases hs with rfl | rfl <;> omega
      simp only [digit_Text.l0]
      rw [e1, e2, if_pos (by omega), if_pos (by omega), if_pos (by omega), sign_nat (a % 10) (by omega), Option.bind_some, if_neg hz, show hx (a % 10) = 48 + ((a % 10 : Nat) : Int) by unfold hx; rw [if_pos (by omega)]]
      obtain ⟨r, h1, h2⟩ := ih (a / 10) k (out ++ [48 + ((a % 10 : Nat) : Int)]) hs (by rw [Nat.div_lt_iff_lt_mul (by omega)]; rw [Nat.pow_succ] at ha; exact ha) (by omega) (by simp; omega) (by omega) (fun x hx => by
        rcases List.mem_append.1 hx with h | h
        · exact hr x h
        · simp at h; omega)
      refine ⟨r, h1, ?_⟩
      rw [h2, textN_ge (n := a) (by omega)]
      simp
/-- A number's text. -/
def textI (n : Int) : List Int := if n < 0 then 45 :: textN (-n).toNat else textN n.toNat
theorem Text_f (n : Int) (h1 : -9223372036854775808 ≤ n) (h2 : n ≤ 9223372036854775807) (K : Nat) (hK : 300 ≤ K) : ∃ r, digit_Text.f K n = some r ∧ L r = textI n := by
  obtain ⟨k, rfl⟩ : ∃ k, K = k + 1 := ⟨K - 1, by omega⟩
  unfold digit_Text.f textI
  simp only [digit_Text.j0]
  by_cases h : n < 0
  · rw [if_pos h, if_pos h]
    obtain ⟨r, e, l⟩ := digits_l0 (-1) 18 (-n).toNat k [] (.inr rfl) (by omega) (by omega) (by simp) (by omega) (by simp)
    rw [show (-1 : Int) * (((-n).toNat : Nat) : Int) = n by omega] at e
    exact ⟨r, e, by rw [l]; simp⟩
  · rw [if_neg h, if_neg h]
    obtain ⟨r, e, l⟩ := digits_l0 1 18 n.toNat k [] (.inl rfl) (by omega) (by omega) (by simp) (by omega) (by simp)
    rw [show (1 : Int) * ((n.toNat : Nat) : Int) = n by omega] at e
    exact ⟨r, e, by rw [l]; simp⟩
/-! ### digits of 16 -/
end Go.Proofs.YtifcpamliidabaaDoor.PfD

/- What telling data tells: the program and the reference at one; and data are read back. -/
set_option linter.unusedSimpArgs false
set_option linter.unusedVariables false
namespace Go.Proofs.YtifcpamliidabaaDoor.PfQ
open Go.RowKit Go.Proofs.YtifcpamliidabaaDoor.PS Go.Proofs.YtifcpamliidabaaDoorW.PrintWords Go.Proofs.YtifcpamliidabaaDoorW.PrintLast Go.Proofs.YtifcpamliidabaaDoor.PlD Go.Proofs.YtifcpamliidabaaDoor.PfD Go.Proofs.YtifcpamliidabaaDoor.PfU Go.Proofs.YtifcpamliidabaaDoor.HandQuote
def sixteen : ByteArray := ⟨#[48, 49, 50, 51, 52, 53, 54, 55, 56, 57, 97, 98, 99, 100, 101, 102]⟩
theorem sixteen_at : ∀ n : Fin 16, L (sixteen.extract n.val (n.val + 1)) = [hexd ((n.val : Nat) : Int)] := by decide +kernel
theorem L_one (s : ByteArray) (i : Nat) (h : i < s.size) : L (s.extract i (i + 1)) = [bt s (i : Int)] := by
  have hz : (s.extract i (i + 1)).size = 1 := by simp; omega
  have h0 := L_drop (s.extract i (i + 1)) 0 (by omega)
  rw [List.drop_zero] at h0
  rw [h0, List.drop_of_length_le (by rw [L_len]; omega)]
  have e := bt_sub s i (i + 1) 0 (by omega) (by omega)
  rw [e, Nat.add_zero]
theorem quoteB_esc {c : Int} (h : c = 34 ∨ c = 92) : quoteB c = [92, c] := by unfold quoteB; rw [if_pos h]
theorem quoteB_hex {c : Int} (h : c < 32 ∨ 126 < c) : quoteB c = [92, 120, hexd (c / 16), hexd (c % 16)] := by unfold quoteB; rw [if_neg (by omega), if_pos h]
theorem quoteB_one {c : Int} (h1 : ¬ (c = 34 ∨ c = 92)) (h2 : ¬ (c < 32 ∨ 126 < c)) : quoteB c = [c] := by unfold quoteB; rw [if_neg h1, if_neg h2]
set_option maxHeartbeats 1000000 in
theorem rQuote_l0 (s : ByteArray) (hs : s.size ≤ 10000000) (d : Nat) : ∀ (K i : Nat) (acc : ByteArray), s.size - i ≤ d → i ≤ s.size → acc.size ≤ 4 * i + 1 → 2 * d + 2 ≤ K →
    ∃ r, spoolref48_Quote.l0 K s sixteen acc (i : Int) = some r ∧ L r = L acc ++ ((L s).drop i).flatMap quoteB ++ [34] := by
  induction d with
  | zero =>
    intro K i acc hd hi ha hK
    obtain ⟨k, rfl⟩ : ∃ m, K = m + 1 := ⟨K - 1, by omega⟩
    simp only [spoolref48_Quote.l0]
    rw [if_neg (by omega), if_pos (by omega), List.drop_of_length_le (by rw [L_len]; omega)]
    exact ⟨_, rfl, by rw [L_append]; simp; rfl⟩
  | succ d ih =>
    intro K i acc hd hi ha hK
    obtain ⟨k, rfl⟩ : ∃ m, K = m + 2 := ⟨K - 2, by omega⟩
    simp only [spoolref48_Quote.l0]
    by_cases hlt : i < s.size
    · have hb := bt_r s (i : Int)
      have w1 : wrap64 ((i : Int) + 1) = ((i + 1 : Nat) : Int) := by rw [PlD.wrap_in (by omega) (by omega)]; omega
      have l1 := L_one s i hlt
      have z1 : (s.extract i (i + 1)).size = 1 := by rw [← L_len, l1]; rfl
      rw [if_pos (by omega), if_pos (by omega), L_drop s i hlt, List.flatMap_cons]
      by_cases hq : bt s (i : Int) = 34 ∨ bt s (i : Int) = 92
      · have hj : (if bt s (i : Int) = 34 then spoolref48_Quote.j1 (k + 1) s sixteen acc (i : Int) (bt s (i : Int)) true else spoolref48_Quote.j1 (k + 1) s sixteen acc (i : Int) (bt s (i : Int)) (bt s (i : Int) == 92)) = spoolref48_Quote.j1 (k + 1) s sixteen acc (i : Int) (bt s (i : Int)) true := by
          by_cases h : bt s (i : Int) = 34
          · rw [if_pos h]
          · rw [if_neg h, beq_iff_eq.mpr (hq.resolve_left h)]
        rw [hj]
        simp only [spoolref48_Quote.j1]
        have z2 : (acc ++ (⟨#[92]⟩ : ByteArray)).size = acc.size + 1 := by rw [ByteArray.size_append]; rfl
        rw [if_pos trivial, w1, Int.toNat_natCast, Int.toNat_natCast, z1, z2, if_pos (by omega), if_pos (by omega), if_pos (by omega), if_pos (by omega), if_pos (by omega)]
        obtain ⟨r, h1, h2⟩ := ih k (i + 1) (acc ++ (⟨#[92]⟩ : ByteArray) ++ s.extract i (i + 1)) (by omega) (by omega) (by rw [ByteArray.size_append, z1, z2]; omega) (by omega)
        refine ⟨r, h1, ?_⟩
        rw [h2, L_append, L_append, l1, quoteB_esc hq]
        simp [L]
      · have hj : (if bt s (i : Int) = 34 then spoolref48_Quote.j1 (k + 1) s sixteen acc (i : Int) (bt s (i : Int)) true else spoolref48_Quote.j1 (k + 1) s sixteen acc (i : Int) (bt s (i : Int)) (bt s (i : Int) == 92)) = spoolref48_Quote.j1 (k + 1) s sixteen acc (i : Int) (bt s (i : Int)) false := by
          rw [if_neg (fun h => hq (.inl h)), beq_eq_false_iff_ne.mpr (fun h => hq (.inr h))]
        rw [hj]
        simp only [spoolref48_Quote.j1]
        rw [if_neg Bool.false_ne_true]
        obtain ⟨c, hc⟩ : ∃ c : Nat, bt s (i : Int) = (c : Int) := ⟨(bt s (i : Int)).toNat, by omega⟩
        rw [hc] at hb l1 hq ⊢
        by_cases hx : (c : Int) < 32 ∨ 126 < (c : Int)
        · have t1 : Int.tdiv (c : Int) 16 % 256 = ((c / 16 : Nat) : Int) := by
            rw [show Int.tdiv (c : Int) 16 = ((c / 16 : Nat) : Int) from rfl]; omega
          have t2 : Int.tmod (c : Int) 16 = ((c % 16 : Nat) : Int) := rfl
          have t3 : (((c / 16 : Nat) : Int) + 1) % 256 = ((c / 16 + 1 : Nat) : Int) := by omega
          have t4 : (((c % 16 : Nat) : Int) + 1) % 256 = ((c % 16 + 1 : Nat) : Int) := by omega
          have y1 := sixteen_at ⟨c / 16, by omega⟩
          have y2 := sixteen_at ⟨c % 16, by omega⟩
          simp only at y1 y2
          have v1 : (sixteen.extract (c / 16) (c / 16 + 1)).size = 1 := by rw [← L_len, y1]; rfl
          have v2 : (sixteen.extract (c % 16) (c % 16 + 1)).size = 1 := by rw [← L_len, y2]; rfl
          have v3 : (acc ++ (⟨#[92, 120]⟩ : ByteArray)).size = acc.size + 2 := by rw [ByteArray.size_append]; rfl
          have v4 : (acc ++ (⟨#[92, 120]⟩ : ByteArray) ++ sixteen.extract (c / 16) (c / 16 + 1)).size = acc.size + 3 := by rw [ByteArray.size_append, v3, v1]
          have vs : sixteen.size = 16 := rfl
          rw [t1, t2, t3, t4, w1]
          simp only [Int.toNat_natCast]
          rw [v1, v2, v3, v4, vs]
          have hgo : ∃ r, spoolref48_Quote.l0 k s sixteen (acc ++ (⟨#[92, 120]⟩ : ByteArray) ++ sixteen.extract (c / 16) (c / 16 + 1) ++ sixteen.extract (c % 16) (c % 16 + 1)) ((i + 1 : Nat) : Int) = some r ∧ L r = L acc ++ (quoteB (c : Int) ++ ((L s).drop (i + 1)).flatMap quoteB) ++ [34] := by
            obtain ⟨r, h1, h2⟩ := ih k (i + 1) (acc ++ (⟨#[92, 120]⟩ : ByteArray) ++ sixteen.extract (c / 16) (c / 16 + 1) ++ sixteen.extract (c % 16) (c % 16 + 1)) (by omega) (by omega) (by rw [ByteArray.size_append, v4, v2]; omega) (by omega)
            refine ⟨r, h1, ?_⟩
            rw [h2, L_append, L_append, L_append, y1, y2, quoteB_hex hx]
            simp [L]
          by_cases h32 : (c : Int) ≥ 32
          · rw [if_pos h32, if_neg (by omega), if_pos (by omega), if_pos (by omega), if_pos (by omega), if_pos (by omega), if_pos (by omega), if_pos (by omega), if_pos (by omega), if_pos (by omega), if_pos (by omega)]
            exact hgo
          · rw [if_neg h32, if_pos (by omega), if_pos (by omega), if_pos (by omega), if_pos (by omega), if_pos (by omega), if_pos (by omega), if_pos (by omega), if_pos (by omega), if_pos (by omega)]
            exact hgo
        · rw [w1, Int.toNat_natCast, Int.toNat_natCast, z1, if_pos (by omega), if_pos (by omega), if_pos (by omega), if_pos (by omega), if_pos (by omega), if_pos (by omega)]
          obtain ⟨r, h1, h2⟩ := ih k (i + 1) (acc ++ s.extract i (i + 1)) (by omega) (by omega) (by rw [ByteArray.size_append, z1]; omega) (by omega)
          refine ⟨r, h1, ?_⟩
          rw [h2, L_append, l1, quoteB_one hq hx]
          simp
    · rw [if_neg (by omega), if_pos (by omega), List.drop_of_length_le (by rw [L_len]; omega)]
      exact ⟨_, rfl, by rw [L_append]; simp; rfl⟩
/-- A text's data. -/
def quoteN (s : ByteArray) : List Int := 34 :: ((L s).flatMap quoteB ++ [34])
theorem rQuote_f (s : ByteArray) (hs : s.size ≤ 10000000) (K : Nat) (hK : 2 * s.size + 2 ≤ K) : ∃ r, spoolref48_Quote.f K s = some r ∧ L r = quoteN s := by
  unfold spoolref48_Quote.f
  obtain ⟨r, h1, h2⟩ := rQuote_l0 s hs s.size K 0 (⟨#[34]⟩ : ByteArray) (by omega) (by omega) (by decide) hK
  exact ⟨r, h1, by rw [h2, List.drop_zero]; rfl⟩
theorem hexd_range (d : Int) (h0 : 0 ≤ d) (h1 : d < 16) : 48 ≤ hexd d ∧ hexd d ≤ 102 := by unfold hexd; split <;> omega
theorem quoteB_range (c : Int) (h0 : 0 ≤ c) (h1 : c < 256) : ∀ x ∈ quoteB c, 32 ≤ x ∧ x ≤ 126 := by
  have a := hexd_range (c / 16) (by omega) (by omega)
  have b := hexd_range (c % 16) (by omega) (by omega)
  unfold quoteB
  intro x hx
  split at hx
  · simp at hx; omega
  · split at hx
    · simp at hx; omega
    · simp at hx; omega
theorem quoteN_range (s : ByteArray) : ∀ x ∈ quoteN s, 32 ≤ x ∧ x ≤ 126 := by
  intro x hx
  unfold quoteN at hx
  simp only [List.mem_cons, List.mem_append, List.mem_flatMap, List.not_mem_nil, or_false] at hx
  rcases hx with h | ⟨c, hc, h⟩ | h
  · omega
  · have := L_byte s c hc
    exact quoteB_range c this.1 this.2 x h
  · omega
theorem Quote_f (s : ByteArray) (hs : s.size ≤ 10000000) : ∃ r, script_Quote.f s = some r ∧ L r = quoteN s := by
  unfold script_Quote.f
  rw [if_pos hs]
  refine ⟨_, rfl, ?_⟩
  have e : quoteL s = quoteN s := rfl
  rw [e]
  exact L_nums _ (fun x hx => by have := quoteN_range s x hx; omega)
theorem value_hexd (d : Int) (h0 : 0 ≤ d) (h1 : d < 16) : value (hexd d) = d := by
  unfold hexd value
  split <;> (repeat' split) <;> omega
theorem bt_L (t : ByteArray) (pre l : List Int) (x : Int) (i : Nat) (h : L t = pre ++ x :: l) (hi : i = pre.length) : bt t (i : Int) = x := by
  subst hi
  rw [← L_get, h, List.getD_eq_getElem?_getD, List.getElem?_append_right (Nat.le_refl _), Nat.sub_self]
  rfl
/-- Data are read back, whatever stands behind them. -/
theorem unq_back (t : ByteArray) (post : List Int) : ∀ (l pre acc : List Int) (d i : Nat), (∀ c ∈ l, 0 ≤ c ∧ c < 256) → L t = pre ++ (l.flatMap quoteB ++ 34 :: post) → i = pre.length → t.size < i + d →
    unqN t d acc i = (acc ++ l, ((i + (l.flatMap quoteB).length + 1 : Nat) : Int), -1) := by
  intro l
  induction l with
  | nil =>
    intro pre acc d i hl ht hi hd
    have hlen := L_len t
    rw [ht] at hlen
    simp only [List.flatMap_nil, List.nil_append, List.length_append, List.length_cons] at hlen ht
    obtain ⟨d, rfl⟩ : ∃ m, d = m + 1 := ⟨d - 1, by omega⟩
    unfold unqN
    rw [if_pos (by omega), if_pos (bt_L t pre post 34 i ht hi)]
    simp
  | cons c l ih =>
    intro pre acc d i hl ht hi hd
    have hc := hl c (by simp)
    have hl' : ∀ x ∈ l, 0 ≤ x ∧ x < 256 := fun x hx => hl x (by simp [hx])
    have hlen := L_len t
    rw [List.flatMap_cons, List.append_assoc] at ht
    rw [ht] at hlen
    rw [List.flatMap_cons]
    by_cases hq : c = 34 ∨ c = 92
    · rw [quoteB_esc hq] at ht hlen ⊢
      simp only [List.cons_append, List.nil_append, List.length_append, List.length_cons, List.length_nil] at ht hlen ⊢
      obtain ⟨d, rfl⟩ : ∃ m, d = m + 1 := ⟨d - 1, by omega⟩
      have b0 := bt_L t pre _ 92 i ht hi
      have b1 := bt_L t (pre ++ [92]) (l.flatMap quoteB ++ 34 :: post) c (i + 1) (by rw [ht]; simp) (by simp [hi])
      have he : esc t i = (c, 2) := by unfold esc; rw [b1, if_pos ⟨by omega, hq⟩]
      unfold unqN
      rw [if_pos (by omega), if_neg (by omega), if_pos b0, he, if_neg (show ¬ ((c, 2) : Int × Nat).2 = 0 from fun h => by cases h)]
      simp only
      rw [ih (pre ++ [92, c]) (acc ++ [c]) d (i + 2) hl' (by rw [ht]; simp) (by simp [hi]) (by omega)]
      simp
      omega
    · by_cases hx : c < 32 ∨ 126 < c
      · rw [quoteB_hex hx] at ht hlen ⊢
        simp only [List.cons_append, List.nil_append, List.length_append, List.length_cons, List.length_nil] at ht hlen ⊢
        obtain ⟨d, rfl⟩ : ∃ m, d = m + 1 := ⟨d - 1, by omega⟩
        have b0 := bt_L t pre _ 92 i ht hi
        have b1 := bt_L t (pre ++ [92]) (hexd (c / 16) :: hexd (c % 16) :: (l.flatMap quoteB ++ 34 :: post)) 120 (i + 1) (by rw [ht]; simp) (by simp [hi])
        have b2 := bt_L t (pre ++ [92, 120]) (hexd (c % 16) :: (l.flatMap quoteB ++ 34 :: post)) (hexd (c / 16)) (i + 2) (by rw [ht]; simp) (by simp [hi])
        have b3 := bt_L t (pre ++ [92, 120, hexd (c / 16)]) (l.flatMap quoteB ++ 34 :: post) (hexd (c % 16)) (i + 3) (by rw [ht]; simp) (by simp [hi])
        have v2 := value_hexd (c / 16) (by omega) (by omega)
        have v3 := value_hexd (c % 16) (by omega) (by omega)
        have he : esc t i = (c, 4) := by
          unfold esc
          rw [b1, b2, b3, v2, v3, if_neg (by omega), if_pos ⟨by omega, rfl, by omega, by omega⟩]
          congr 1
          omega
        unfold unqN
        rw [if_pos (by omega), if_neg (by omega), if_pos b0, he, if_neg (show ¬ ((c, 4) : Int × Nat).2 = 0 from fun h => by cases h)]
        simp only
        rw [ih (pre ++ [92, 120, hexd (c / 16), hexd (c % 16)]) (acc ++ [c]) d (i + 4) hl' (by rw [ht]; simp) (by simp [hi]) (by omega)]
        simp
        omega
      · rw [quoteB_one hq hx] at ht hlen ⊢
        simp only [List.cons_append, List.nil_append, List.length_append, List.length_cons, List.length_nil] at ht hlen ⊢
        obtain ⟨d, rfl⟩ : ∃ m, d = m + 1 := ⟨d - 1, by omega⟩
        have b0 := bt_L t pre _ c i ht hi
        unfold unqN
        rw [b0, if_pos (by omega), if_neg (by omega), if_neg (by omega), if_neg (by omega), ih (pre ++ [c]) (acc ++ [c]) d (i + 1) hl' (by rw [ht]; simp) (by simp [hi]) (by omega)]
        simp
        omega
theorem unqF_back (t s : ByteArray) (pre post : List Int) (i : Nat) (h : L t = pre ++ (quoteN s ++ post)) (hi : i = pre.length) : unqF t i = (L s, ((i + (quoteN s).length : Nat) : Int), -1) := by
  have hlen := L_len t
  rw [h] at hlen
  unfold quoteN at h hlen ⊢
  simp only [List.cons_append, List.length_append, List.length_cons, List.length_nil, List.append_assoc, List.nil_append] at h hlen ⊢
  unfold unqF
  have b0 := bt_L t pre _ 34 i h hi
  rw [if_neg (fun e => by rcases e with e | e; omega; exact e b0)]
  rw [unq_back t post (L s) (pre ++ [34]) [] t.size (i + 1) (L_byte s) (by rw [h]; simp) (by simp [hi]) (by omega)]
  simp
  omega
theorem str_L (s : ByteArray) : strOfNums (L s) = s := by
  have h := L_nums (L s) (L_byte s)
  have h2 := L_inj.2 h
  rw [ByteArray.toList_eq, ByteArray.toList_eq] at h2
  have h3 : (strOfNums (L s)).data = s.data := Array.toList_inj.1 h2
  have hx : ∀ a b : ByteArray, a.data = b.data → a = b := fun a b h => by cases a; cases b; simp_all
  exact hx _ _ h3
end Go.Proofs.YtifcpamliidabaaDoor.PfQ

/- An operation's words: told alike by the program and by the reference, and read back. -/
set_option linter.unusedSimpArgs false
set_option linter.unusedVariables false
namespace Go.Proofs.YtifcpamliidabaaDoor.PfR
open Go.RowKit Go.Proofs.YtifcpamliidabaaDoor.PS Go.Proofs.YtifcpamliidabaaDoorW.PrintWords Go.Proofs.YtifcpamliidabaaDoorW.PrintLast Go.Proofs.YtifcpamliidabaaDoor.PlD Go.Proofs.YtifcpamliidabaaDoor.PfD Go.Proofs.YtifcpamliidabaaDoor.PfU Go.Proofs.YtifcpamliidabaaDoor.Pl Go.Proofs.YtifcpamliidabaaDoor.PfW Go.Proofs.YtifcpamliidabaaDoor.PfO Go.Proofs.YtifcpamliidabaaDoor.PfQ Go.Proofs.YtifcpamliidabaaDoor.HandKind Go.Proofs.YtifcpamliidabaaDoor.HandRd Go.Proofs.YtifcpamliidabaaDoor.HandOpM Go.Proofs.YtifcpamliidabaaDoor.HandOp Go.Proofs.YtifcpamliidabaaDoor.HandQuote
/-! ### words at a place -/
theorem from_at (t : ByteArray) (pre post : List Int) (c : Int) (i : Nat) (hL : L t = pre ++ 32 :: c :: post) (hi : i = pre.length) (hc : bl c = false) : fromW t i = i + 1 := by
  have hlen := L_len t
  rw [hL] at hlen
  simp only [List.length_append, List.length_cons] at hlen
  have b0 := bt_L t pre _ 32 i hL hi
  have b1 := bt_L t (pre ++ [32]) post c (i + 1) (by rw [hL]; simp) (by simp [hi])
  refine run_eq bl t i (i + 1) (by omega) (by omega) (fun k h1 h2 => ?_) (fun _ => by rw [b1]; exact hc)
  rw [show k = i by omega, b0]
  rfl
theorem bt_mid (t : ByteArray) (pre w post : List Int) (k : Nat) (hL : L t = pre ++ (w ++ post)) (h1 : pre.length ≤ k) (h2 : k < pre.length + w.length) : bt t (k : Int) ∈ w := by
  rw [← L_get, hL, List.getD_eq_getElem?_getD, List.getElem?_append_right h1, List.getElem?_append_left (by omega), List.getElem?_eq_getElem (by omega), Option.getD_some]
  exact List.getElem_mem _
theorem L_sub (t : ByteArray) (a b : Nat) : L (t.extract a b) = ((L t).take b).drop a := by
  unfold L
  rw [ByteArray.data_extract, Array.toList_extract, List.extract_eq_take_drop, List.map_take, List.map_drop, List.drop_take]
theorem word_at (t : ByteArray) (pre w post : List Int) (i : Nat) (hL : L t = pre ++ 32 :: (w ++ 32 :: post)) (hi : i = pre.length) (hw : w ≠ []) (hnb : ∀ c ∈ w, bl c = false) :
    fromW t i = i + 1 ∧ toW t i = i + 1 + w.length ∧ L (t.extract (i + 1) (i + 1 + w.length)) = w := by
  have hlen := L_len t
  rw [hL] at hlen
  simp only [List.length_append, List.length_cons] at hlen
  obtain ⟨c, w', rfl⟩ : ∃ c w', w = c :: w' := by
    cases w with
    | nil => exact absurd rfl hw
    | cons c w' => exact ⟨c, w', rfl⟩
  have h1 := from_at t pre (w' ++ 32 :: post) c i (by rw [hL]; simp) hi (hnb c (by simp))
  refine ⟨h1, ?_, ?_⟩
  · unfold toW
    rw [h1]
    refine run_eq nb t (i + 1) (i + 1 + (c :: w').length) (by omega) (by simp only [List.length_cons] at hlen ⊢; omega) (fun k g1 g2 => ?_) (fun _ => ?_)
    · have := bt_mid t (pre ++ [32]) (c :: w') (32 :: post) k (by rw [hL]; simp) (by simp; omega) (by simp only [List.length_append, List.length_cons, List.length_nil] at g2 ⊢; omega)
      exact nb_of (hnb _ this)
    · have := bt_L t (pre ++ 32 :: (c :: w')) post 32 (i + 1 + (c :: w').length) (by rw [hL]; simp) (by simp [hi]; omega)
      rw [this]
      rfl
  · rw [L_sub, hL]
    have e : pre ++ 32 :: ((c :: w') ++ 32 :: post) = (pre ++ [32]) ++ ((c :: w') ++ 32 :: post) := by simp
    rw [e, List.take_append, List.drop_append]
    simp [hi]
/-! ### whether an operation may be told -/
def numd (k : Int) : Bool := k == 3 || k == 7 || k == 8 || k == 9
theorem numd_f (k : Int) : script_numbered.f k = some (numd k) := by
  unfold script_numbered.f numd
  by_cases a : k = 3
  · rw [if_pos a]; simp [a]
  · by_cases b : k = 7
    · rw [if_neg a, if_pos b]; simp [b]
    · by_cases c : k = 8
      · rw [if_neg a, if_neg b, if_pos c]; simp [c]
      · by_cases d : k = 9
        · rw [if_neg a, if_neg b, if_neg c, if_pos d]; simp [d]
        · rw [if_neg a, if_neg b, if_neg c, if_neg d]; simp [a, b, c, d]
def told (k n : Int) (d : ByteArray) : Bool := decide (1 ≤ k ∧ k ≤ 9) && (if numd k then decide (0 ≤ n ∧ n ≤ 999999999) && decide (d.size = 0) else (n == 0) && (decide (k = 1) || decide (d.size = 0)))
theorem nil_size (d : ByteArray) : (d.toList == ([] : List UInt8)) = decide (d.size = 0) := by
  by_cases h : d.size = 0
  · rw [decide_eq_true h, beq_iff_eq, L_nil]; exact List.eq_nil_of_length_eq_zero (by rw [L_len]; exact h)
  · rw [decide_eq_false h, beq_eq_false_iff_ne]; intro e; apply h; rw [← L_len, L_nil.1 e]; rfl
theorem right_f (k n : Int) (d : ByteArray) (K : Nat) (hK : 2 ≤ K) : script_right.f K k n d = some (told k n d) := by
  obtain ⟨m, rfl⟩ : ∃ m, K = m + 1 := ⟨K - 1, by omega⟩
  have dec : script_decimal.f n = some (decide (0 ≤ n ∧ n ≤ 999999999)) := by
    unfold script_decimal.f
    by_cases h : n ≥ 0
    · rw [if_pos h]; congr 1; apply decide_eq_decide.mpr; omega
    · rw [if_neg h]; congr 1; symm; apply decide_eq_false; omega
  unfold script_right.f told
  simp only [script_right.j0, numd_f, dec, nil_size, Option.bind_some]
  by_cases h1 : k < 1
  · rw [if_pos h1]; simp; omega
  · rw [if_neg h1]
    by_cases h9 : k > 9
    · rw [decide_eq_true h9]; simp; omega
    · rw [decide_eq_false h9, if_neg Bool.false_ne_true, show decide (1 ≤ k ∧ k ≤ 9) = true from decide_eq_true (by omega), Bool.true_and]
      cases hn : numd k with
      | true =>
        rw [if_pos rfl, if_pos rfl]
        by_cases hd : 0 ≤ n ∧ n ≤ 999999999
        · rw [decide_eq_true hd, if_pos rfl, Bool.true_and]
        · rw [decide_eq_false hd, if_neg Bool.false_ne_true, Bool.false_and]
      | false =>
        rw [if_neg Bool.false_ne_true, if_neg Bool.false_ne_true]
        by_cases h0 : n = 0
        · rw [if_pos h0, beq_iff_eq.mpr h0, Bool.true_and]
          by_cases k1 : k = 1
          · rw [if_pos k1, decide_eq_true k1]; rfl
          · rw [if_neg k1, decide_eq_false k1, Bool.false_or]
        · rw [if_neg h0, beq_eq_false_iff_ne.mpr h0, Bool.false_and]
theorem told_f (k n : Int) (d : ByteArray) (K : Nat) (hK : 3 ≤ K) : spoolref48_Told.f K k n d = some (told k n d) := by
  obtain ⟨m, rfl⟩ : ∃ m, K = m + 2 := ⟨K - 2, by omega⟩
  unfold spoolref48_Told.f told
  simp only [spoolref48_Told.j0, spoolref48_Told.j1, Numbered_f, numd_f, Option.bind_some]
  by_cases h1 : k < 1
  · rw [if_pos h1]; simp; omega
  · rw [if_neg h1]
    by_cases h9 : k > 9
    · rw [decide_eq_true h9]; simp; omega
    · rw [decide_eq_false h9, if_neg Bool.false_ne_true, show decide (1 ≤ k ∧ k ≤ 9) = true from decide_eq_true (by omega), Bool.true_and]
      have fin : (if numd k = true then (if n ≥ 0 then some (decide (n ≤ 999999999)) else some false) else some (n == 0)) = some (if numd k then decide (0 ≤ n ∧ n ≤ 999999999) else (n == 0)) := by
        cases hn : numd k with
        | true =>
          rw [if_pos rfl, if_pos rfl]
          by_cases h : n ≥ 0
          · rw [if_pos h]; congr 1; apply decide_eq_decide.mpr; omega
          · rw [if_neg h]; congr 1; symm; apply decide_eq_false; omega
        | false => rw [if_neg Bool.false_ne_true, if_neg Bool.false_ne_true]
      by_cases k1 : k = 1
      · rw [if_pos k1, if_neg Bool.false_ne_true, fin]
        have hn : numd k = false := by rw [k1]; rfl
        rw [hn, decide_eq_true k1]
        simp
      · rw [if_neg k1]
        by_cases hz : d.size = 0
        · rw [decide_eq_false (show ¬ (d.size : Int) > 0 by omega), if_neg Bool.false_ne_true, fin, decide_eq_true hz]
          simp
        · rw [decide_eq_true (show (d.size : Int) > 0 by omega), decide_eq_false hz, decide_eq_false k1]
          simp
/-! ### an operation's words -/
def nameL (k : Int) : List Int := L (rdOf ByteArray.empty tab_script_names k)
def opL (k n : Int) (d : ByteArray) : List Int := if k = 1 then nameL 1 ++ 32 :: quoteN d else if numd k then nameL k ++ 32 :: textN n.toNat else nameL k
theorem name_size (k : Int) (h1 : 1 ≤ k) (h9 : k ≤ 9) : (rdOf ByteArray.empty tab_script_names k).size ≤ 8 ∧ nameL k ≠ [] ∧ (∀ c ∈ nameL k, bl c = false) ∧ kindF (rdOf ByteArray.empty tab_script_names k) = k := by
  have key : ∀ j : Fin 9, (rdOf ByteArray.empty tab_script_names ((j.val + 1 : Nat) : Int)).size ≤ 8 ∧ nameL ((j.val + 1 : Nat) : Int) ≠ [] ∧ (∀ c ∈ nameL ((j.val + 1 : Nat) : Int), bl c = false) ∧ kindF (rdOf ByteArray.empty tab_script_names ((j.val + 1 : Nat) : Int)) = ((j.val + 1 : Nat) : Int) := by decide +kernel
  have := key ⟨(k - 1).toNat, by omega⟩
  rwa [show (((k - 1).toNat + 1 : Nat) : Int) = k by omega] at this
theorem L_32 : L (⟨#[32]⟩ : ByteArray) = [32] := rfl
theorem quote_size (d : ByteArray) : (quoteN d).length ≤ 4 * d.size + 2 := by
  have := flat_len (L d)
  rw [L_len] at this
  simp only [quoteN, List.length_cons, List.length_append, List.length_nil]
  omega
theorem OpText_f (k n : Int) (d : ByteArray) (hd : d.size ≤ 10000000) (h : told k n d = true) (K : Nat) (hK : 400 ≤ K) : ∃ r, script_OpText.f K k n d = some (r, true) ∧ L r = opL k n d := by
  unfold script_OpText.f
  rw [right_f k n d K (by omega), h, Option.bind_some, if_pos rfl]
  unfold told at h
  simp only [Bool.and_eq_true, decide_eq_true_eq] at h
  obtain ⟨⟨h1, h9⟩, h2⟩ := h
  obtain ⟨z1, z2, z3, z4⟩ := name_size k h1 h9
  have z32 : ((rdOf ByteArray.empty tab_script_names k) ++ (⟨#[32]⟩ : ByteArray)).size = (rdOf ByteArray.empty tab_script_names k).size + 1 := by rw [ByteArray.size_append]; rfl
  unfold opL
  by_cases k1 : k = 1
  · obtain ⟨q, e1, e2⟩ := Quote_f d hd
    have hq := quote_size d
    rw [← e2, L_len] at hq
    rw [if_pos k1, if_pos k1, if_pos (by omega), if_pos (by omega), if_pos (by omega), e1, Option.bind_some, z32, if_pos (by omega)]
    refine ⟨_, rfl, ?_⟩
    rw [L_append, L_append, e2, L_32, k1]
    simp [nameL]
  · rw [if_neg k1, if_neg k1, numd_f, Option.bind_some]
    cases hn : numd k with
    | true =>
      rw [hn] at h2
      simp only [if_true, Bool.and_eq_true, decide_eq_true_eq] at h2
      obtain ⟨r, e1, e2⟩ := Text_f n (by omega) (by omega) K (by omega)
      have hr : r.size ≤ 20 := by
        rw [← L_len, e2, textI, if_neg (by omega)]
        have := textN_len 18 n.toNat (by have : n.toNat ≤ 999999999 := by omega
                                         exact Nat.lt_of_le_of_lt this (by decide))
        omega
      rw [if_pos rfl, if_pos rfl, if_pos (by omega), if_pos (by omega), if_pos (by omega), e1, Option.bind_some, z32, if_pos (by omega)]
      refine ⟨_, rfl, ?_⟩
      rw [L_append, L_append, e2, L_32, textI, if_neg (by omega)]
      simp [nameL]
    | false =>
      rw [if_neg Bool.false_ne_true, if_neg Bool.false_ne_true, if_pos (by omega), if_pos (by omega)]
      exact ⟨_, rfl, rfl⟩
theorem OpText_no (k n : Int) (d : ByteArray) (h : told k n d = false) (K : Nat) (hK : 400 ≤ K) : script_OpText.f K k n d = some (⟨#[]⟩, false) := by
  unfold script_OpText.f
  rw [right_f k n d K (by omega), h, Option.bind_some, if_neg Bool.false_ne_true]
theorem Text_r (k n : Int) (d : ByteArray) (hd : d.size ≤ 10000000) (h : told k n d = true) (K : Nat) (hK : 400 + 2 * d.size ≤ K) : ∃ r, spoolref48_Text.f K k n d = some r ∧ L r = opL k n d := by
  unfold spoolref48_Text.f
  unfold told at h
  simp only [Bool.and_eq_true, decide_eq_true_eq] at h
  obtain ⟨⟨h1, h9⟩, h2⟩ := h
  obtain ⟨z1, z2, z3, z4⟩ := name_size k h1 h9
  have z32 : ((rdOf ByteArray.empty tab_script_names k) ++ (⟨#[32]⟩ : ByteArray)).size = (rdOf ByteArray.empty tab_script_names k).size + 1 := by rw [ByteArray.size_append]; rfl
  have hN : spoolref48_Name.f k = some (rdOf ByteArray.empty tab_script_names k) := by
    unfold spoolref48_Name.f
    rw [Option.bind_some, if_pos (by omega), if_pos (by simp; omega)]
    rfl
  unfold opL
  by_cases k1 : k = 1
  · obtain ⟨q, e1, e2⟩ := rQuote_f d hd K (by omega)
    have hq := quote_size d
    rw [← e2, L_len] at hq
    rw [if_pos k1, if_pos k1, e1, Option.bind_some, if_pos (by omega)]
    refine ⟨_, rfl, ?_⟩
    rw [L_append, e2]
    rfl
  · rw [if_neg k1, if_neg k1, Numbered_f, numd_f, Option.bind_some]
    cases hn : numd k with
    | true =>
      rw [hn] at h2
      simp only [if_true, Bool.and_eq_true, decide_eq_true_eq] at h2
      obtain ⟨r, e1, e2⟩ := rText_f 9 n.toNat K (by have : n.toNat ≤ 999999999 := by omega
                                                    exact Nat.lt_of_le_of_lt this (by decide)) (by omega) (by omega) (by omega)
      rw [show ((n.toNat : Nat) : Int) = n by omega] at e1
      have hr : r.size ≤ 20 := by
        rw [← L_len, e2]
        have := textN_len 18 n.toNat (by have : n.toNat ≤ 999999999 := by omega
                                         exact Nat.lt_of_le_of_lt this (by decide))
        omega
      rw [if_pos rfl, if_pos rfl, hN, Option.bind_some, if_pos (by omega), e1, Option.bind_some, z32, if_pos (by omega)]
      refine ⟨_, rfl, ?_⟩
      rw [L_append, L_append, e2, L_32]
      simp [nameL]
    | false =>
      rw [if_neg Bool.false_ne_true, if_neg Bool.false_ne_true, hN, Option.bind_some]
      exact ⟨_, rfl, rfl⟩
/-! ### read back -/
theorem empty_of {d : ByteArray} (h : d.size = 0) : d = ⟨#[]⟩ := by
  refine str_eq.1 (L_inj.2 ?_)
  have h1 : L d = [] := List.eq_nil_of_length_eq_zero (by rw [L_len]; exact h)
  rw [h1]
  rfl
theorem of_L {a b : ByteArray} (h : L a = L b) : a = b := str_eq.1 (L_inj.2 h)
theorem digs_nb (n : Nat) : ∀ c ∈ textN n, bl c = false := by
  intro c hc
  have := textN_dig n c hc
  unfold dig at this
  unfold bl
  rw [beq_eq_false_iff_ne.mpr (by omega), beq_eq_false_iff_ne.mpr (by omega)]
  rfl
theorem op_back (t : ByteArray) (pre post : List Int) (k n : Int) (d : ByteArray) (h : told k n d = true) (i : Nat) (hi : i = pre.length) (hL : L t = pre ++ 32 :: (opL k n d ++ 32 :: post)) (hs : t.size ≤ 140737488351232) (K : Nat) (hK : 5 * t.size + 60 ≤ K) :
    opF K t (i : Int) 0 0 = some (k, n, d, ((i + 1 + (opL k n d).length : Nat) : Int), 0, 0) := by
  have hlen := L_len t
  rw [hL] at hlen
  simp only [List.length_append, List.length_cons] at hlen
  unfold told at h
  simp only [Bool.and_eq_true, decide_eq_true_eq] at h
  obtain ⟨⟨h1, h9⟩, h2⟩ := h
  obtain ⟨z1, z2, z3, z4⟩ := name_size k h1 h9
  have k0 : ¬ k = 0 := by omega
  unfold opF
  rw [word_f t hs i (by omega) K (by omega), Option.bind_some]
  simp only
  unfold opL at hL hlen ⊢
  by_cases k1 : k = 1
  · rw [if_pos k1] at hL hlen ⊢
    subst k1
    obtain ⟨g1, g2, g3⟩ := word_at t pre (nameL 1) (quoteN d ++ 32 :: post) i (by rw [hL]; simp) hi z2 z3
    have e1 : t.extract (fromW t i) (toW t i) = rdOf ByteArray.empty tab_script_names 1 := of_L (by rw [g1, g2, g3]; rfl)
    rw [e1, z4, if_neg (by decide), if_pos rfl]
    have hto : toW t i ≤ t.size := toW_le t i (by omega)
    have hf : fromW t (toW t i) = toW t i + 1 := from_at t (pre ++ 32 :: nameL 1) ((L d).flatMap quoteB ++ [34] ++ 32 :: post) 34 (toW t i) (by rw [hL]; simp [quoteN]) (by rw [g2]; simp [hi]; omega) rfl
    have hu := unqF_back t d (pre ++ 32 :: (nameL 1 ++ [32])) (32 :: post) (toW t i + 1) (by rw [hL]; simp) (by rw [g2]; simp [hi]; omega)
    unfold dataF
    rw [next_f t hs (toW t i) hto K (by omega) _ (by unfold mn mx; repeat' split <;> omega), Option.bind_some, hf]
    simp only
    rw [Unquote_f t hs (toW t i + 1) (by rw [g2]; simp only [List.length_append, List.length_cons] at hlen; omega) K (by omega), Option.bind_some, hu]
    unfold asP
    rw [if_pos (show (-1 : Int) < 0 by decide)]
    simp only
    rw [if_pos trivial, str_L, Option.bind_some, g2]
    simp only at h2
    have hn : n = 0 := by
      have : numd 1 = false := rfl
      rw [this] at h2
      simp at h2
      exact h2
    rw [hn]
    simp
    omega
  · rw [if_neg k1] at hL hlen ⊢
    cases hn : numd k with
    | true =>
      rw [hn] at h2 hL hlen
      simp only [if_true, Bool.and_eq_true, decide_eq_true_eq] at h2 hL hlen
      rw [if_pos rfl]
      obtain ⟨g1, g2, g3⟩ := word_at t pre (nameL k) (textN n.toNat ++ 32 :: post) i (by rw [hL]; simp) hi z2 z3
      have e1 : t.extract (fromW t i) (toW t i) = rdOf ByteArray.empty tab_script_names k := of_L (by rw [g1, g2, g3]; rfl)
      have hto : toW t i ≤ t.size := toW_le t i (by omega)
      obtain ⟨q1, q2, q3⟩ := word_at t (pre ++ 32 :: nameL k) (textN n.toNat) post (toW t i) (by rw [hL]; simp) (by rw [g2]; simp [hi]; omega) (textN_ne _) (digs_nb _)
      rw [e1, z4, if_neg k0, if_neg k1, numd_f, hn, Option.bind_some, if_pos rfl]
      unfold numberF
      rw [word_f t hs (toW t i) hto K (by omega), Option.bind_some]
      simp only
      have e3 : L (t.extract (fromW t (toW t i)) (toW t (toW t i))) = textN n.toNat := by rw [q1, q2]; exact q3
      have hz : (t.extract (fromW t (toW t i)) (toW t (toW t i))).size ≤ t.size := by
        have := toW_le t (toW t i) hto
        simp
        omega
      rw [Parse_f _ (by omega) K (by omega), e3, parseL_text n.toNat (by omega), Option.bind_some]
      rw [if_neg (fun e => textN_ne n.toNat (by rw [← e3]; exact L_nil.1 e))]
      simp only
      rw [if_neg (by simp), Option.bind_some, empty_of h2.2, q2, g2, show ((n.toNat : Nat) : Int) = n by omega]
      simp
      omega
    | false =>
      rw [hn] at h2 hL hlen
      simp only [Bool.false_eq_true, if_false, Bool.and_eq_true, beq_iff_eq, Bool.or_eq_true, decide_eq_true_eq] at h2 hL hlen
      rw [if_neg Bool.false_ne_true]
      obtain ⟨g1, g2, g3⟩ := word_at t pre (nameL k) post i hL hi z2 z3
      have e1 : t.extract (fromW t i) (toW t i) = rdOf ByteArray.empty tab_script_names k := of_L (by rw [g1, g2, g3]; rfl)
      rw [e1, z4, if_neg k0, if_neg k1, numd_f, hn, Option.bind_some, if_neg Bool.false_ne_true, empty_of (h2.2.resolve_left k1), h2.1, g2]
end Go.Proofs.YtifcpamliidabaaDoor.PfR

import Derived.Test.YtifcpamliidabaaDoorPfQ
import Derived.Test.YtifcpamliidabaaDoorPfO
import Derived.Test.YtifcpamliidabaaDoorPSx9
import Derived.Test.YtifcpamliidabaaDoorPSx0
import Derived.Test.YtifcpamliidabaaDoorPSx2
import Derived.Test.YtifcpamliidabaaDoorPSx7
/- An operation's words: told alike by the program and by the reference, and read back. -/
set_option linter.unusedSimpArgs false
set_option linter.unusedVariables false
namespace Go.Proofs.YtifcpamliidabaaDoor.PfR
open Go.RowKit Go.Proofs.YtifcpamliidabaaDoor.PS Go.Proofs.YtifcpamliidabaaDoorW.PrintWords Go.Proofs.YtifcpamliidabaaDoorW.PrintLast Go.Proofs.YtifcpamliidabaaDoor.PlD Go.Proofs.YtifcpamliidabaaDoor.PfD Go.Proofs.YtifcpamliidabaaDoor.PfU Go.Proofs.YtifcpamliidabaaDoor.Pl Go.Proofs.YtifcpamliidabaaDoor.PfW Go.Proofs.YtifcpamliidabaaDoor.PfO Go.Proofs.YtifcpamliidabaaDoor.PfQ Go.Proofs.YtifcpamliidabaaDoor.HandKind Go.Proofs.YtifcpamliidabaaDoor.HandRd Go.Proofs.YtifcpamliidabaaDoor.HandOpM Go.Proofs.YtifcpamliidabaaDoor.HandOp Go.Proofs.YtifcpamliidabaaDoor.HandQuote
/-! ### words at a place -/
theorem from_at (t : ByteArray) (pre post : List Int) (c : Int) (i : Nat) (hL : L t = pre ++ 32 :: c :: post) (hi : i = pre.length) (hc : bl c = false) : fromW t i = i + 1 := by
  have hlen := L_len t
  rw [hL] at hlen
  simp only [List.length_append, List.length_cons] at hlen
  have b0 := bt_L t pre _ 32 i hL hi
  have b1 := bt_L t (pre ++ [32]) post c (i + 1) (by rw [hL]; simp) (by simp [hi])
  refine run_eq bl t i (i + 1) (by omega) (by omega) (fun k h1 h2 => ?_) (fun _ => by rw [b1]; exact hc)
  rw [show k = i by omega, b0]
  rfl
theorem bt_mid (t : ByteArray) (pre w post : List Int) (k : Nat) (hL : L t = pre ++ (w ++ post)) (h1 : pre.length ≤ k) (h2 : k < pre.length + w.length) : bt t (k : Int) ∈ w := by
  rw [← L_get, hL, List.getD_eq_getElem?_getD, List.getElem?_append_right h1, List.getElem?_append_left (by omega), List.getElem?_eq_getElem (by omega), Option.getD_some]
  exact List.getElem_mem _
theorem L_sub (t : ByteArray) (a b : Nat) : L (t.extract a b) = ((L t).take b).drop a := by
  unfold L
  rw [ByteArray.data_extract, Array.toList_extract, List.extract_eq_take_drop, List.map_take, List.map_drop, List.drop_take]
/-! ### whether an operation may be told -/
def numd (k : Int) : Bool := k == 3 || k == 7 || k == 8 || k == 9
theorem numd_f (k : Int) : script_numbered.f k = some (numd k) := by
  unfold script_numbered.f numd
  by_cases a : k = 3
  · rw [if_pos a]; simp [a]
  · by_cases b : k = 7
    · rw [if_neg a, if_pos b]; simp [b]
    · by_cases c : k = 8
      · rw [if_neg a, if_neg b, if_pos c]; simp [c]
      · by_cases d : k = 9
        · rw [if_neg a, if_neg b, if_neg c, if_pos d]; simp [d]
        · rw [if_neg a, if_neg b, if_neg c, if_neg d]; simp [a, b, c, d]
def told (k n : Int) (d : ByteArray) : Bool := decide (1 ≤ k ∧ k ≤ 9) && (if numd k then decide (0 ≤ n ∧ n ≤ 999999999) && decide (d.size = 0) else (n == 0) && (decide (k = 1) || decide (d.size = 0)))
theorem nil_size (d : ByteArray) : (d.toList == ([] : List UInt8)) = decide (d.size = 0) := by
  by_cases h : d.size = 0
  · rw [decide_eq_true h, beq_iff_eq, L_nil]; exact List.eq_nil_of_length_eq_zero (by rw [L_len]; exact h)
  · rw [decide_eq_false h, beq_eq_false_iff_ne]; intro e; apply h; rw [← L_len, L_nil.1 e]; rfl
theorem right_f (k n : Int) (d : ByteArray) (K : Nat) (hK : 2 ≤ K) : script_right.f K k n d = some (told k n d) := by
  obtain ⟨m, rfl⟩ : ∃ m, K = m + 1 := ⟨K - 1, by omega⟩
  have dec : script_decimal.f n = some (decide (0 ≤ n ∧ n ≤ 999999999)) := by
    unfold script_decimal.f
    by_cases h : n ≥ 0
    · rw [if_pos h]; congr 1; apply decide_eq_decide.mpr; omega
    · rw [if_neg h]; congr 1; symm; apply decide_eq_false; omega
  unfold script_right.f told
  simp only [script_right.j0, numd_f, dec, nil_size, Option.bind_some]
  by_cases h1 : k < 1
  · rw [if_pos h1]; simp; omega
  · rw [if_neg h1]
    by_cases h9 : k > 9
    · rw [decide_eq_true h9]; simp; omega
    · rw [decide_eq_false h9, if_neg Bool.false_ne_true, show decide (1 ≤ k ∧ k ≤ 9) = true from decide_eq_true (by omega), Bool.true_and]
      cases hn : numd k with
      | true =>
        rw [if_pos rfl, if_pos rfl]
        by_cases hd : 0 ≤ n ∧ n ≤ 999999999
        · rw [decide_eq_true hd, if_pos rfl, Bool.true_and]
        · rw [decide_eq_false hd, if_neg Bool.false_ne_true, Bool.false_and]
      | false =>
        rw [if_neg Bool.false_ne_true, if_neg Bool.false_ne_true]
        by_cases h0 : n = 0
        · rw [if_pos h0, beq_iff_eq.mpr h0, Bool.true_and]
          by_cases k1 : k = 1
          · rw [if_pos k1, decide_eq_true k1]; rfl
          · rw [if_neg k1, decide_eq_false k1, Bool.false_or]
        · rw [if_neg h0, beq_eq_false_iff_ne.mpr h0, Bool.false_and]
/-! ### an operation's words -/
def nameL (k : Int) : List Int := L (rdOf ByteArray.empty tab_script_names k)
def opL (k n : Int) (d : ByteArray) : List Int := if k = 1 then nameL 1 ++ 32 :: quoteN d else if numd k then nameL k ++ 32 :: textN n.toNat else nameL k
theorem name_size (k : Int) (h1 : 1 ≤ k) (h9 : k ≤ 9) : (rdOf ByteArray.empty tab_script_names k).size ≤ 8 ∧ nameL k ≠ [] ∧ (∀ c ∈ nameL k, bl c = false) ∧ kindF (rdOf ByteArray.empty tab_script_names k) = k := by
  have key : ∀ j : Fin 9, (rdOf ByteArray.empty tab_script_names ((j.val + 1 : Nat) : Int)).size ≤ 8 ∧ nameL ((j.val + 1 : Nat) : Int) ≠ [] ∧ (∀ c ∈ nameL ((j.val + 1 : Nat) : Int), bl c = false) ∧ kindF (rdOf ByteArray.empty tab_script_names ((j.val + 1 : Nat) : Int)) = ((j.val + 1 : Nat) : Int) := by decide +kernel
  have := key ⟨(k - 1).toNat, by omega⟩
  rwa [show (((k - 1).toNat + 1 : Nat) : Int) = k by omega] at this
theorem L_32 : L (⟨#[32]⟩ : ByteArray) = [32] := rfl
theorem quote_size (d : ByteArray) : (quoteN d).length ≤ 4 * d.size + 2 := by
  have := flat_len (L d)
  rw [L_len] at this
  simp only [quoteN, List.length_cons, List.length_append, List.length_nil]
  omega
theorem OpText_f (k n : Int) (d : ByteArray) (hd : d.size ≤ 10000000) (h : told k n d = true) (K : Nat) (hK : 400 ≤ K) : ∃ r, script_OpText.f K k n d = some (r, true) ∧ L r = opL k n d := by
  unfold script_OpText.f
  rw [right_f k n d K (by omega), h, Option.bind_some, if_pos rfl]
  unfold told at h
  simp only [Bool.and_eq_true, decide_eq_true_eq] at h
  obtain ⟨⟨h1, h9⟩, h2⟩ := h
  obtain ⟨z1, z2, z3, z4⟩ := name_size k h1 h9
  have z32 : ((rdOf ByteArray.empty tab_script_names k) ++ (⟨#[32]⟩ : ByteArray)).size = (rdOf ByteArray.empty tab_script_names k).size + 1 := by rw [ByteArray.size_append]; rfl
  unfold opL
  by_cases k1 : k = 1
  · obtain ⟨q, e1, e2⟩ := Quote_f d hd
    have hq := quote_size d
    rw [← e2, L_len] at hq
    rw [if_pos k1, if_pos k1, if_pos (by omega), if_pos (by omega), if_pos (by omega), e1, Option.bind_some, z32, if_pos (by omega)]
    refine ⟨_, rfl, ?_⟩
    rw [L_append, L_append, e2, L_32, k1]
    simp [nameL]
  · rw [if_neg k1, if_neg k1, numd_f, Option.bind_some]
    cases hn : numd k with
    | true =>
      rw [hn] at h2
      simp only [if_true, Bool.and_eq_true, decide_eq_true_eq] at h2
      obtain ⟨r, e1, e2⟩ := Text_f n (by omega) (by omega) K (by omega)
      have hr : r.size ≤ 20 := by
        rw [← L_len, e2, textI, if_neg (by omega)]
        have := textN_len 18 n.toNat (by have : n.toNat ≤ 999999999 := by omega
                                         exact Nat.lt_of_le_of_lt this (by decide))
        omega
      rw [if_pos rfl, if_pos rfl, if_pos (by omega), if_pos (by omega), if_pos (by omega), e1, Option.bind_some, z32, if_pos (by omega)]
      refine ⟨_, rfl, ?_⟩
      rw [L_append, L_append, e2, L_32, textI, if_neg (by omega)]
      simp [nameL]
    | false =>
      rw [if_neg Bool.false_ne_true, if_neg Bool.false_ne_true, if_pos (by omega), if_pos (by omega)]
      exact ⟨_, rfl, rfl⟩
theorem OpText_no (k n : Int) (d : ByteArray) (h : told k n d = false) (K : Nat) (hK : 400 ≤ K) : script_OpText.f K k n d = some (⟨#[]⟩, false) := by
  unfold script_OpText.f
  rw [right_f k n d K (by omega), h, Option.bind_some, if_neg Bool.false_ne_true]
/-! ### read back -/
theorem empty_of {d : ByteArray} (h : d.size = 0) : d = ⟨#[]⟩ := by
  refine str_eq.1 (L_inj.2 ?_)
  have h1 : L d = [] := List.eq_nil_of_length_eq_zero (by rw [L_len]; exact h)
  rw [h1]
  rfl
theorem of_L {a b : ByteArray} (h : L a = L b) : a = b := str_eq.1 (L_inj.2 h)
theorem digs_nb (n : Nat) : ∀ c ∈ textN n, bl c = false := by
  intro c hc
  have := textN_dig n c hc
  unfold dig at this
  unfold bl
  rw [beq_eq_false_iff_ne.mpr (by omega), beq_eq_false_iff_ne.mpr (by omega)]
  rfl
end Go.Proofs.YtifcpamliidabaaDoor.PfR

/- Whether an item may be told: the program and the reference at one. -/
set_option linter.unusedSimpArgs false
set_option linter.unusedVariables false
namespace Go.Proofs.YtifcpamliidabaaDoor.PfV
open Go.RowKit Go.Proofs.YtifcpamliidabaaDoor.PS Go.Proofs.YtifcpamliidabaaDoorW.PrintWords Go.Proofs.YtifcpamliidabaaDoorW.PrintLast Go.Proofs.YtifcpamliidabaaDoor.PfR
def dec (c : Int) : Bool := decide (0 ≤ c ∧ c ≤ 999999999)
def none3 (a b : Int) (d : ByteArray) : Bool := a == 0 && (b == 0 && (d.toList == ([] : List UInt8)))
/-- An item that may be told. -/
def rightI (h c a b : Int) (d : ByteArray) : Bool :=
  if h = 1 then dec c && told a b d else if h = 2 then dec c && none3 a b d else if h = 3 ∨ h = 4 ∨ h = 5 then (c == 0) && none3 a b d else false
theorem dec_f (c : Int) : script_decimal.f c = some (dec c) := by
  unfold script_decimal.f dec
  by_cases h : c ≥ 0
  · rw [if_pos h]; congr 1; apply decide_eq_decide.mpr; omega
  · rw [if_neg h]; congr 1; symm; apply decide_eq_false; omega
theorem Right_f (h c a b : Int) (d : ByteArray) (K : Nat) (hK : 4 ≤ K) : script_Right.f K h c a b d = some (rightI h c a b d) := by
  unfold script_Right.f rightI
  rw [dec_f, right_f a b d K (by omega)]
  simp only [Option.bind_some]
  by_cases h1 : h = 1
  · rw [if_pos h1, if_pos h1]; cases dec c <;> simp
  · rw [if_neg h1, if_neg h1]
    by_cases h2 : h = 2
    · rw [if_pos h2, if_pos h2]; cases dec c <;> simp [none3]
    · rw [if_neg h2, if_neg h2]
      by_cases h3 : h = 3
      · rw [if_pos h3, if_pos (show h = 3 ∨ h = 4 ∨ h = 5 from .inl h3)]
        by_cases hc : c = 0
        · rw [if_pos hc, beq_iff_eq.mpr hc]; rfl
        · rw [if_neg hc, beq_eq_false_iff_ne.mpr hc]; rfl
      · rw [if_neg h3]
        by_cases h4 : h = 4
        · rw [if_pos h4, if_pos (show h = 3 ∨ h = 4 ∨ h = 5 from .inr (.inl h4))]
          by_cases hc : c = 0
          · rw [if_pos hc, beq_iff_eq.mpr hc]; rfl
          · rw [if_neg hc, beq_eq_false_iff_ne.mpr hc]; rfl
        · rw [if_neg h4]
          by_cases h5 : h = 5
          · rw [if_pos h5, if_pos (show h = 3 ∨ h = 4 ∨ h = 5 from .inr (.inr h5))]
            by_cases hc : c = 0
            · rw [if_pos hc, beq_iff_eq.mpr hc]; rfl
            · rw [if_neg hc, beq_eq_false_iff_ne.mpr hc]; rfl
          · rw [if_neg h5, if_neg (show ¬ (h = 3 ∨ h = 4 ∨ h = 5) by omega)]
end Go.Proofs.YtifcpamliidabaaDoor.PfV

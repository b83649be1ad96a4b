import Derived.Test.YtbgoaigbkfibbaaHandAt
import Derived.Test.YtbgoaigbkfibbaaPlS
import Derived.Test.YtbgoaigbkfibbaaPAx0
import Derived.Test.YtbgoaigbkfibbaaPAx2
import Derived.Test.YtbgoaigbkfibbaaPAx13
import Derived.Test.YtbgoaigbkfibbaaPAx3
/- Trees in plain words: whether two nodes are the same, a node's size; the same sets. Conditions: nodes that may be, bounds on lengths. -/
set_option linter.unusedSimpArgs false
set_option linter.unusedVariables false
namespace Go.Proofs.Ytbgoaigbkfibbaa.PfT
open Go.RowKit Go.Proofs.Ytbgoaigbkfibbaa.PA Go.Proofs.Ytbgoaigbkfibbaa.Sets Go.Proofs.YtbgoaigbkfibbaaW.PrintWords Go.Proofs.YtbgoaigbkfibbaaW.PrintLast Go.Proofs.Ytbgoaigbkfibbaa.HandRight Go.Proofs.Ytbgoaigbkfibbaa.HandTwin Go.Proofs.Ytbgoaigbkfibbaa.HandAt
theorem wn (x : Int) (h0 : -9223372036854775808 ≤ x) (h1 : x < 9223372036854775808) : wrap64 x = x := by unfold wrap64; omega
theorem wj (j : Nat) (h : j < 4611686018427387904) : wrap64 ((j : Int) + 1) = ((j + 1 : Nat) : Int) := by rw [wn _ (by omega) (by omega)]; omega
theorem rdG (l : List S55) (j : Nat) : rd_T55 l (j : Int) = G l j := rfl
theorem drop_nil {α : Type} (l : List α) (j : Nat) (h : l.length = j + 0) : l.drop j = [] := List.drop_of_length_le (by omega)
theorem drop_G (l : List S55) (j : Nat) (h : j < l.length) : l.drop j = G l j :: l.drop (j + 1) := by
  rw [List.drop_eq_getElem_cons h]
  simp [G, List.getD_eq_getElem?_getD, h]
/-! ### the same sets -/
def sameL : List S55 → List S55 → Bool
  | [], [] => true
  | x :: a, y :: b => (x.f0 == y.f0 && x.f1 == y.f1) && sameL a b
  | _, _ => false
theorem sameL_iff (a : List S55) : ∀ b, sameL a b = true ↔ a = b := by
  induction a with
  | nil => intro b; cases b <;> simp [sameL]
  | cons x a ih =>
    intro b
    cases b with
    | nil => simp [sameL]
    | cons y b =>
      rw [sameL, Bool.and_eq_true, ih, Bool.and_eq_true, beq_iff_eq, beq_iff_eq]
      constructor
      · rintro ⟨⟨h1, h2⟩, rfl⟩
        cases x; cases y; cases h1; cases h2; rfl
      · intro h
        cases h
        exact ⟨⟨rfl, rfl⟩, rfl⟩
theorem sameL_len (a b : List S55) (h : a.length ≠ b.length) : sameL a b = false := by
  rw [Bool.eq_false_iff]
  intro h2
  rw [(sameL_iff a b).mp h2] at h
  exact h rfl
theorem Same_l0 (a b : List S55) (hab : a.length = b.length) (hl : a.length < 4611686018427387904) : ∀ (d k j : Nat), a.length = j + d → d < k → spoolref05_Same.l0 k a b (j : Int) = some (sameL (a.drop j) (b.drop j)) := by
  intro d
  induction d with
  | zero =>
    intro k j h hk
    obtain ⟨k, rfl⟩ : ∃ k', k = k' + 1 := ⟨k - 1, by omega⟩
    rw [spoolref05_Same.l0, if_neg (by omega), drop_nil a j h, drop_nil b j (by omega)]
    rfl
  | succ d ih =>
    intro k j h hk
    obtain ⟨k, rfl⟩ : ∃ k', k = k' + 1 := ⟨k - 1, by omega⟩
    rw [spoolref05_Same.l0, if_pos (by omega), if_pos (by omega), if_pos (by omega), drop_G a j (by omega), drop_G b j (by omega), sameL, rdG, rdG, wj j (by omega), ih k (j + 1) (by omega) (by omega)]
    cases h1 : ((G a j).f0 == (G b j).f0) <;> cases h2 : ((G a j).f1 == (G b j).f1) <;> simp
theorem Same_f (a b : List S55) (hl : a.length < 4611686018427387904) (k : Nat) (hk : a.length < k) : spoolref05_Same.f k a b = some (sameL a b) := by
  unfold spoolref05_Same.f
  by_cases h : a.length = b.length
  · rw [if_pos (by omega)]
    exact Same_l0 a b h hl a.length k 0 (by omega) hk
  · rw [if_neg (by omega), sameL_len a b h]
theorem Eq_l0 (a b : List S55) (hab : a.length = b.length) (hl : a.length < 4611686018427387904) : ∀ (d k j : Nat), a.length = j + d → d < k → api_Range_46.l0 k a b (a.length : Int) (j : Int) = some (sameL (a.drop j) (b.drop j)) := by
  intro d
  induction d with
  | zero =>
    intro k j h hk
    obtain ⟨k, rfl⟩ : ∃ k', k = k' + 1 := ⟨k - 1, by omega⟩
    rw [api_Range_46.l0, if_neg (by omega), drop_nil a j h, drop_nil b j (by omega)]
    rfl
  | succ d ih =>
    intro k j h hk
    obtain ⟨k, rfl⟩ : ∃ k', k = k' + 1 := ⟨k - 1, by omega⟩
    rw [api_Range_46.l0, if_pos (by omega), if_pos (by omega), if_pos (by omega), if_pos (by omega), drop_G a j (by omega), drop_G b j (by omega), sameL, rdG, rdG, wj j (by omega), ih k (j + 1) (by omega) (by omega)]
    cases h1 : ((G a j).f0 == (G b j).f0) <;> cases h2 : ((G a j).f1 == (G b j).f1) <;> simp
theorem Eq_f (a b : List S55) (hl : a.length < 4611686018427387904) (k : Nat) (hk : a.length < k) : api_Range_46.f k a b = some (sameL a b) := by
  unfold api_Range_46.f
  by_cases h : a.length = b.length
  · rw [if_pos (by omega)]
    exact Eq_l0 a b h hl a.length k 0 (by omega) hk
  · rw [if_neg (by omega), sameL_len a b h]
/-! ### the same nodes, and a node's size -/
def sameN (la lb : List S41) (sa sb : List (List S55)) : Nat → Int → Int → Bool
  | 0, _, _ => false
  | k + 1, x, y => if (rd_T41 la x).f0 = (rd_T41 lb y).f0 ∧ (rd_T41 la x).f3 = (rd_T41 lb y).f3 ∧ (rd_T41 la x).f4 = (rd_T41 lb y).f4 then
      (if (rd_T41 la x).f0 = 2 then sameL (rd_L3 sa (rd_T41 la x).f5) (rd_L3 sb (rd_T41 lb y).f5)
       else if (rd_T41 la x).f0 = 3 ∨ (rd_T41 la x).f0 = 4 then sameN la lb sa sb k (rd_T41 la x).f1 (rd_T41 lb y).f1 && sameN la lb sa sb k (rd_T41 la x).f2 (rd_T41 lb y).f2
       else if (rd_T41 la x).f0 = 5 then sameN la lb sa sb k (rd_T41 la x).f1 (rd_T41 lb y).f1 else true) else false
def sizeN (lb : List S41) : Nat → Int → Nat
  | 0, _ => 1
  | k + 1, y => if (rd_T41 lb y).f0 = 3 ∨ (rd_T41 lb y).f0 = 4 then sizeN lb k (rd_T41 lb y).f1 + sizeN lb k (rd_T41 lb y).f2 + 1 else if (rd_T41 lb y).f0 = 5 then sizeN lb k (rd_T41 lb y).f1 + 1 else 1
/-- All nodes may be. -/
def RightT (l : List S41) (m : Nat) : Prop := ∀ i : Int, 0 ≤ i → i < (l.length : Int) → rightN (rd_T41 l i) i (m : Int) = true
theorem right_34 {n : S41} {i m : Int} (h : rightN n i m = true) (ho : n.f0 = 3 ∨ n.f0 = 4) : (0 ≤ n.f1 ∧ n.f1 < i) ∧ (0 ≤ n.f2 ∧ n.f2 < i) := by
  cases n
  exact right34 ho h
theorem right_5 {n : S41} {i m : Int} (h : rightN n i m = true) (ho : n.f0 = 5) : 0 ≤ n.f1 ∧ n.f1 < i := by
  cases n
  simp only at ho
  subst ho
  exact right5 h
theorem right_2 {n : S41} {i m : Int} (h : rightN n i m = true) (ho : n.f0 = 2) : 0 ≤ n.f5 ∧ n.f5 < m := by
  cases n
  simp only at ho
  subst ho
  exact right2 h
theorem sameN_stable (la lb : List S41) (sa sb : List (List S55)) (hr : RightT la sa.length) : ∀ (k k' : Nat) (x y : Int), 0 ≤ x → x < (la.length : Int) → x < (k : Int) → x < (k' : Int) → sameN la lb sa sb k x y = sameN la lb sa sb k' x y := by
  intro k
  induction k with
  | zero => intro k' x y h0 _ h1; omega
  | succ k ih =>
    intro k' x y h0 hl h1 h2
    cases k' with
    | zero => omega
    | succ k' =>
      rw [sameN, sameN]
      by_cases hc : (rd_T41 la x).f0 = (rd_T41 lb y).f0 ∧ (rd_T41 la x).f3 = (rd_T41 lb y).f3 ∧ (rd_T41 la x).f4 = (rd_T41 lb y).f4
      · rw [if_pos hc, if_pos hc]
        by_cases h2' : (rd_T41 la x).f0 = 2
        · rw [if_pos h2', if_pos h2']
        · rw [if_neg h2', if_neg h2']
          by_cases h3 : (rd_T41 la x).f0 = 3 ∨ (rd_T41 la x).f0 = 4
          · have hb := right_34 (hr x h0 hl) h3
            rw [if_pos h3, if_pos h3, ih k' _ _ hb.1.1 (by omega) (by omega) (by omega), ih k' _ _ hb.2.1 (by omega) (by omega) (by omega)]
          · rw [if_neg h3, if_neg h3]
            by_cases h5 : (rd_T41 la x).f0 = 5
            · have hb := right_5 (hr x h0 hl) h5
              rw [if_pos h5, if_pos h5, ih k' _ _ hb.1 (by omega) (by omega) (by omega)]
            · rw [if_neg h5, if_neg h5]
      · rw [if_neg hc, if_neg hc]
theorem sizeN_stable (l : List S41) (m : Nat) (hr : RightT l m) : ∀ (k k' : Nat) (x : Int), 0 ≤ x → x < (l.length : Int) → x < (k : Int) → x < (k' : Int) → sizeN l k x = sizeN l k' x := by
  intro k
  induction k with
  | zero => intro k' x h0 _ h1; omega
  | succ k ih =>
    intro k' x h0 hl h1 h2
    cases k' with
    | zero => omega
    | succ k' =>
      rw [sizeN, sizeN]
      by_cases h3 : (rd_T41 l x).f0 = 3 ∨ (rd_T41 l x).f0 = 4
      · have hb := right_34 (hr x h0 hl) h3
        rw [if_pos h3, if_pos h3, ih k' _ hb.1.1 (by omega) (by omega) (by omega), ih k' _ hb.2.1 (by omega) (by omega) (by omega)]
      · rw [if_neg h3, if_neg h3]
        by_cases h5 : (rd_T41 l x).f0 = 5
        · have hb := right_5 (hr x h0 hl) h5
          rw [if_pos h5, if_pos h5, ih k' _ hb.1 (by omega) (by omega) (by omega)]
        · rw [if_neg h5, if_neg h5]
/-- Two nodes are the same; a node's size. -/
def T (la lb : List S41) (sa sb : List (List S55)) (x y : Int) : Bool := sameN la lb sa sb la.length x y
def C (lb : List S41) (y : Int) : Nat := sizeN lb lb.length y
theorem T_eq (la lb : List S41) (sa sb : List (List S55)) (hr : RightT la sa.length) (x y : Int) (h0 : 0 ≤ x) (hl : x < (la.length : Int)) : T la lb sa sb x y =
    if (rd_T41 la x).f0 = (rd_T41 lb y).f0 ∧ (rd_T41 la x).f3 = (rd_T41 lb y).f3 ∧ (rd_T41 la x).f4 = (rd_T41 lb y).f4 then
      (if (rd_T41 la x).f0 = 2 then sameL (rd_L3 sa (rd_T41 la x).f5) (rd_L3 sb (rd_T41 lb y).f5)
       else if (rd_T41 la x).f0 = 3 ∨ (rd_T41 la x).f0 = 4 then T la lb sa sb (rd_T41 la x).f1 (rd_T41 lb y).f1 && T la lb sa sb (rd_T41 la x).f2 (rd_T41 lb y).f2
       else if (rd_T41 la x).f0 = 5 then T la lb sa sb (rd_T41 la x).f1 (rd_T41 lb y).f1 else true) else false := by
  unfold T
  rw [sameN_stable la lb sa sb hr la.length (la.length + 1) x y h0 hl hl (by omega), sameN]
theorem C_eq (l : List S41) (m : Nat) (hr : RightT l m) (y : Int) (h0 : 0 ≤ y) (hl : y < (l.length : Int)) : C l y =
    if (rd_T41 l y).f0 = 3 ∨ (rd_T41 l y).f0 = 4 then C l (rd_T41 l y).f1 + C l (rd_T41 l y).f2 + 1 else if (rd_T41 l y).f0 = 5 then C l (rd_T41 l y).f1 + 1 else 1 := by
  unfold C
  rw [sizeN_stable l m hr l.length (l.length + 1) y h0 hl hl (by omega), sizeN]
/-- A tree that may be, with sets that are not too long. -/
structure TreeOK (l : List S41) (s : List (List S55)) : Prop where
  nodes : l.length ≤ 4096
  right : RightT l s.length
  short : ∀ x, x ∈ s → x.length < 2 ^ 31
theorem TreeOK.set {l : List S41} {s : List (List S55)} (h : TreeOK l s) (i : Int) : (rd_L3 s i).length < 4611686018427387904 := by
  unfold rd_L3
  rw [List.getD_eq_getElem?_getD]
  cases e : s[i.toNat]? with
  | none => simp
  | some x =>
    have := h.short x (List.mem_of_getElem? e)
    simp only [Option.getD_some]
    omega
/-- The twin of two trees that may be. -/
theorem tw_ok (V : Tw) (hg : V.w0.heap.size ≤ V.g) (hm : V.w0.heap.size ≤ V.mb) (ha : TreeOK V.la V.sa) (hb : TreeOK V.lb V.sb) (a0 : Kd.C k41 V.w0 V.A0 V.la.length V.la) (a1 : Kd.C (Kd.slice 55 k55) V.w0 V.A1 V.sa.length V.sa)
    (b0 : Kd.C k41 V.w0 V.B0 V.lb.length V.lb) (b1 : Kd.C (Kd.slice 55 k55) V.w0 V.B1 V.sb.length V.sb) (hT : V.T = T V.la V.lb V.sa V.sb) (hC : V.C = C V.lb) : Tw.Ok V := by
  constructor
  case hg => exact hg
  case hm => exact hm
  case a0 => exact a0
  case a1 => exact a1
  case b0 => exact b0
  case b1 => exact b1
  case la4 => exact ha.nodes
  case lb4 => exact hb.nodes
  case ra => exact ha.right
  case rb => exact hb.right
  case t0 =>
    intro x y h0 h1 _ _ h
    rw [hT, T_eq _ _ _ _ ha.right x y h0 h1, if_neg h]
  case t2 =>
    intro x y h0 h1 _ _ e0 e3 e4 e2
    rw [hT, T_eq _ _ _ _ ha.right x y h0 h1, if_pos ⟨e0, e3, e4⟩, if_pos e2]
    exact ⟨_, Eq_f _ _ (ha.set _) _ (Nat.lt_succ_self _)⟩
  case t3 =>
    intro x y h0 h1 _ _ e0 e3 e4 e2
    rw [hT, T_eq _ _ _ _ ha.right x y h0 h1, if_pos ⟨e0, e3, e4⟩, if_neg (by omega), if_pos e2]
  case t5 =>
    intro x y h0 h1 _ _ e0 e3 e4 e2
    rw [hT, T_eq _ _ _ _ ha.right x y h0 h1, if_pos ⟨e0, e3, e4⟩, if_neg (by omega), if_neg (by omega), if_pos e2]
  case t1 =>
    intro x y h0 h1 _ _ e0 e3 e4 e2
    rw [hT, T_eq _ _ _ _ ha.right x y h0 h1, if_pos ⟨e0, e3, e4⟩, if_neg (by omega), if_neg (by omega), if_neg (by omega)]
  case u3 =>
    intro y h0 h1 e
    rw [hC, C_eq _ _ hb.right y h0 h1, if_pos e]
    exact Nat.le_refl _
  case u5 =>
    intro y h0 h1 e
    rw [hC, C_eq _ _ hb.right y h0 h1, if_neg (by omega), if_pos e]
    exact Nat.le_refl _
  case u1 =>
    intro y h0 h1
    rw [hC, C_eq _ _ hb.right y h0 h1]
    split
    · omega
    · split <;> omega
/-- The walk of any pair. -/
theorem all_at (V : Tw) (hV : Tw.Ok V) (N : Nat) : ∀ x y : Int, 0 ≤ x → x < (V.la.length : Int) → 0 ≤ y → y < (V.lb.length : Int) → y < (N : Int) → AtC V x y := by
  induction N with
  | zero => intro x y _ _ _ _ h; omega
  | succ N ih =>
    intro x y x0 x1 y0 y1 hN
    exact at_calls V hV x y x0 x1 y0 y1 (fun x' y' a b c d e => ih x' y' a b c d (by omega))
end Go.Proofs.Ytbgoaigbkfibbaa.PfT

/- Which trees the document calls too great: what is known of one that is not. Condition: bounds on the fuel. -/
set_option linter.unusedSimpArgs false
set_option linter.unusedVariables false
namespace Go.Proofs.Ytbgoaigbkfibbaa.PfF
open Go.RowKit Go.Proofs.Ytbgoaigbkfibbaa.PA Go.Proofs.Ytbgoaigbkfibbaa.Sets Go.Proofs.YtbgoaigbkfibbaaW.PrintWords Go.Proofs.YtbgoaigbkfibbaaW.PrintLast Go.Proofs.Ytbgoaigbkfibbaa.HandRight Go.Proofs.Ytbgoaigbkfibbaa.PfT
theorem rd_app (l : List Int) (v : Int) (i : Int) (h0 : 0 ≤ i) (h1 : i < (l.length : Int)) : rd (l ++ [v]) i = rd l i := by
  unfold rd
  rw [List.getD_eq_getElem?_getD, List.getD_eq_getElem?_getD, List.getElem?_append_left (by omega)]
theorem rd_last (l : List Int) (v : Int) (i : Int) (h : i = (l.length : Int)) : rd (l ++ [v]) i = v := by
  subst h
  unfold rd
  simp [List.getD_eq_getElem?_getD]
theorem far_l1 (l : List S41) (s : List (List S55)) (r : Int) (hs : s.length < 1000000) : ∀ (d j k : Nat), s.length = j + d → d < k → ∃ b, spoolref10_Far.l1 k (j : Int) l s r = some b ∧ (b = false → ∀ i : Nat, j ≤ i → i < s.length → (rd_L3 s (i : Int)).length ≤ 30) := by
  intro d
  induction d with
  | zero =>
    intro j k h hk
    obtain ⟨k, rfl⟩ : ∃ k', k = k' + 1 := ⟨k - 1, by omega⟩
    rw [spoolref10_Far.l1, if_neg (by omega)]
    exact ⟨false, rfl, fun _ i h1 h2 => by omega⟩
  | succ d ih =>
    intro j k h hk
    obtain ⟨k, rfl⟩ : ∃ k', k = k' + 1 := ⟨k - 1, by omega⟩
    rw [spoolref10_Far.l1, if_pos (by omega), if_pos (by omega)]
    by_cases c : ((rd_L3 s (j : Int)).length : Int) > 30
    · rw [if_pos c]
      exact ⟨true, rfl, fun h => by cases h⟩
    · rw [if_neg c, wj j (by omega)]
      obtain ⟨b, hb, hq⟩ := ih (j + 1) k (by omega) (by omega)
      refine ⟨b, hb, fun h i h1 h2 => ?_⟩
      by_cases e : i = j
      · subst e; omega
      · exact hq h i (by omega) h2
/-- What is known of the numbers so far. -/
def Inv (l : List S41) (m : Nat) (x : List Int) (j : Nat) : Prop := x.length = j ∧ (∀ i : Int, 0 ≤ i → i < (j : Int) → 1 ≤ rd x i ∧ rd x i ≤ 3000) ∧ (RightT l m → ∀ i : Int, 0 ≤ i → i < (j : Int) → (C l i : Int) ≤ rd x i)
theorem inv_push {l : List S41} {m : Nat} {x : List Int} {j : Nat} (h : Inv l m x j) (hj : j < l.length) (v : Int) (hv : v ≤ 3000)
    (hva : v = (1 + (if 0 ≤ (rd_T41 l (j : Int)).f1 ∧ (rd_T41 l (j : Int)).f1 < (j : Int) then rd x (rd_T41 l (j : Int)).f1 else 0)) + (if 0 ≤ (rd_T41 l (j : Int)).f2 ∧ (rd_T41 l (j : Int)).f2 < (j : Int) then rd x (rd_T41 l (j : Int)).f2 else 0)) : Inv l m (x ++ [v]) (j + 1) := by
  obtain ⟨h1, h2, h3⟩ := h
  have hnn : ∀ i : Int, 0 ≤ (if 0 ≤ i ∧ i < (j : Int) then rd x i else 0) := by
    intro i
    split
    · rename_i c; have := (h2 i c.1 c.2).1; omega
    · omega
  have hA := hnn (rd_T41 l (j : Int)).f1
  have hB := hnn (rd_T41 l (j : Int)).f2
  refine ⟨by simp [h1], fun i i0 i1 => ?_, fun hr i i0 i1 => ?_⟩
  · by_cases e : i = (j : Int)
    · rw [rd_last x v i (by omega)]; omega
    · rw [rd_app x v i i0 (by omega)]; exact h2 i i0 (by omega)
  · by_cases e : i = (j : Int)
    · subst e
      rw [rd_last x v _ (by omega), C_eq l m hr (j : Int) (by omega) (by omega)]
      by_cases c3 : (rd_T41 l (j : Int)).f0 = 3 ∨ (rd_T41 l (j : Int)).f0 = 4
      · have hb := right_34 (hr (j : Int) (by omega) (by omega)) c3
        rw [if_pos c3]
        rw [if_pos hb.1, if_pos hb.2] at hva
        have q1 := h3 hr _ hb.1.1 hb.1.2
        have q2 := h3 hr _ hb.2.1 hb.2.2
        omega
      · rw [if_neg c3]
        by_cases c5 : (rd_T41 l (j : Int)).f0 = 5
        · have hb := right_5 (hr (j : Int) (by omega) (by omega)) c5
          rw [if_pos c5]
          rw [if_pos hb] at hva
          have q1 := h3 hr _ hb.1 hb.2
          omega
        · rw [if_neg c5]
          omega
    · rw [rd_app x v i i0 (by omega)]
      exact h3 hr i i0 (by omega)
theorem far_l0 (l : List S41) (s : List (List S55)) (r : Int) (m : Nat) (hl : l.length ≤ 60) (hs : s.length ≤ 60) : ∀ (d j k : Nat) (x : List Int), l.length = j + d → 4 * d + s.length + 2 < k → Inv l m x j → ∃ b, spoolref10_Far.l0 k x (j : Int) l s r = some b ∧ (b = false → (RightT l m → ∀ i : Int, 0 ≤ i → i < (l.length : Int) → (C l i : Int) ≤ 3000) ∧ ∀ i : Nat, i < s.length → (rd_L3 s (i : Int)).length ≤ 30) := by
  intro d
  induction d with
  | zero =>
    intro j k x h hk hI
    obtain ⟨k, rfl⟩ : ∃ k', k = k' + 1 := ⟨k - 1, by omega⟩
    rw [spoolref10_Far.l0, if_neg (by omega)]
    obtain ⟨b, hb, hq⟩ := far_l1 l s r (by omega) s.length 0 k (by omega) (by omega)
    refine ⟨b, hb, fun e => ⟨fun hr i i0 i1 => ?_, fun i hi => hq e i (Nat.zero_le _) hi⟩⟩
    have h1 := hI.2.2 hr i i0 (by omega)
    have h2 := (hI.2.1 i i0 (by omega)).2
    omega
  | succ d ih =>
    intro j k x h hk hI
    obtain ⟨k, rfl⟩ : ∃ k', k = k' + 1 + 1 + 1 + 1 := ⟨k - 4, by omega⟩
    obtain ⟨n0, n1, n2, n3, n4, n5, hn⟩ : ∃ n0 n1 n2 n3 n4 n5, rd_T41 l (j : Int) = ⟨n0, n1, n2, n3, n4, n5⟩ := ⟨_, _, _, _, _, _, rfl⟩
    have hx := hI.1
    have hp := fun v hv hva => inv_push (v := v) hI (by omega) hv hva
    rw [hn] at hp
    simp only at hp
    have hr1 : ∀ i : Int, 0 ≤ i → i < (j : Int) → 1 ≤ rd x i ∧ rd x i ≤ 3000 := hI.2.1
    rw [spoolref10_Far.l0, if_pos (by omega), if_pos (by omega), hn]
    simp only
    have fin : ∀ v : Int, v = (1 + (if 0 ≤ n1 ∧ n1 < (j : Int) then rd x n1 else 0)) + (if 0 ≤ n2 ∧ n2 < (j : Int) then rd x n2 else 0) → ∃ b, (if v > 3000 then some true else if x.length < 17592186044416 then spoolref10_Far.l0 k (x ++ [v]) (wrap64 ((j : Int) + 1)) l s r else none) = some b ∧ (b = false → (RightT l m → ∀ i : Int, 0 ≤ i → i < (l.length : Int) → (C l i : Int) ≤ 3000) ∧ ∀ i : Nat, i < s.length → (rd_L3 s (i : Int)).length ≤ 30) := by
      intro v hv
      by_cases c : v > 3000
      · rw [if_pos c]
        exact ⟨true, rfl, fun h => by cases h⟩
      · rw [if_neg c, if_pos (by omega), wj j (by omega)]
        exact ih (j + 1) k (x ++ [v]) (by omega) (by omega) (hp v (by omega) hv)
    have second : ∀ v : Int, v = (1 + (if 0 ≤ n1 ∧ n1 < (j : Int) then rd x n1 else 0)) → 1 ≤ v → v ≤ 3001 → ∃ b, spoolref10_Far.j3 (k + 1 + 1) x (j : Int) v l s r n0 n1 n2 n3 n4 n5 = some b ∧ (b = false → (RightT l m → ∀ i : Int, 0 ≤ i → i < (l.length : Int) → (C l i : Int) ≤ 3000) ∧ ∀ i : Nat, i < s.length → (rd_L3 s (i : Int)).length ≤ 30) := by
      intro v hv v1 v2
      rw [spoolref10_Far.j3]
      by_cases c2 : n2 ≥ 0
      · rw [if_pos c2]
        by_cases c3 : n2 < (j : Int)
        · have hq := hr1 n2 c2 c3
          rw [decide_eq_true c3, spoolref10_Far.j4, if_pos rfl, if_pos c2, if_pos (by omega), wn _ (by omega) (by omega)]
          exact fin _ (by rw [if_pos (c := 0 ≤ n2 ∧ n2 < (j : Int)) ⟨c2, c3⟩, hv])
        · rw [decide_eq_false c3, spoolref10_Far.j4, if_neg (by decide)]
          exact fin _ (by rw [if_neg (c := 0 ≤ n2 ∧ n2 < (j : Int)) (fun h => c3 h.2), hv, Int.add_zero])
      · rw [if_neg c2, spoolref10_Far.j4, if_neg (by decide)]
        exact fin _ (by rw [if_neg (c := 0 ≤ n2 ∧ n2 < (j : Int)) (fun h => c2 h.1), hv, Int.add_zero])
    by_cases c0 : n1 ≥ 0
    · rw [if_pos c0]
      by_cases c1 : n1 < (j : Int)
      · have hq := hr1 n1 c0 c1
        rw [decide_eq_true c1, spoolref10_Far.j2, if_pos rfl, if_pos c0, if_pos (by omega), wn _ (by omega) (by omega)]
        exact second _ (by rw [if_pos ⟨c0, c1⟩]) (by omega) (by omega)
      · rw [decide_eq_false c1, spoolref10_Far.j2, if_neg (by decide)]
        exact second _ (by rw [if_neg (c := 0 ≤ n1 ∧ n1 < (j : Int)) (fun h => c1 h.2), Int.add_zero]) (by omega) (by omega)
    · rw [if_neg c0, spoolref10_Far.j2, if_neg (by decide)]
      exact second _ (by rw [if_neg (c := 0 ≤ n1 ∧ n1 < (j : Int)) (fun h => c0 h.1), Int.add_zero]) (by omega) (by omega)
/-- A tree that is not too great. -/
structure Near (l : List S41) (s : List (List S55)) : Prop where
  n : l.length ≤ 60
  m : s.length ≤ 60
  c : RightT l s.length → ∀ i : Int, 0 ≤ i → i < (l.length : Int) → (C l i : Int) ≤ 3000
  s : ∀ x, x ∈ s → x.length ≤ 30
theorem far_f (l : List S41) (s : List (List S55)) (r : Int) (k : Nat) (hk : 400 ≤ k) : ∃ b, spoolref10_Far.f k l s r = some b ∧ (b = false → Near l s) := by
  obtain ⟨k, rfl⟩ : ∃ k', k = k' + 1 := ⟨k - 1, by omega⟩
  unfold spoolref10_Far.f
  by_cases c : (l.length : Int) > 60
  · rw [if_pos c, spoolref10_Far.j0, if_pos rfl]
    exact ⟨true, rfl, fun h => by cases h⟩
  · rw [if_neg c]
    by_cases c2 : (s.length : Int) > 60
    · rw [decide_eq_true c2, spoolref10_Far.j0, if_pos rfl]
      exact ⟨true, rfl, fun h => by cases h⟩
    · rw [decide_eq_false c2, spoolref10_Far.j0, if_neg (by decide)]
      obtain ⟨b, hb, hq⟩ := far_l0 l s r s.length (by omega) (by omega) l.length 0 k [] (by omega) (by omega) ⟨rfl, fun i i0 i1 => by omega, fun _ i i0 i1 => by omega⟩
      refine ⟨b, hb, fun e => ⟨by omega, by omega, (hq e).1, fun x hx => ?_⟩⟩
      obtain ⟨i, hi, rfl⟩ := List.mem_iff_getElem.1 hx
      have := (hq e).2 i hi
      simpa [rd_L3, List.getD_eq_getElem?_getD, hi] using this
end Go.Proofs.Ytbgoaigbkfibbaa.PfF

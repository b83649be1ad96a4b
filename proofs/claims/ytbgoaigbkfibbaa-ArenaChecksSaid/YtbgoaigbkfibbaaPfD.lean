import Derived.Test.YtbgoaigbkfibbaaPfF
import Derived.Test.YtbgoaigbkfibbaaPfR
import Derived.Test.YtbgoaigbkfibbaaPAx0
import Derived.Test.YtbgoaigbkfibbaaPAx2
import Derived.Test.YtbgoaigbkfibbaaPAx5
import Derived.Test.YtbgoaigbkfibbaaPAx13
import Derived.Test.YtbgoaigbkfibbaaPAx14
import Derived.Test.YtbgoaigbkfibbaaPAx15
import Derived.Test.YtbgoaigbkfibbaaPAx6
import Derived.Test.YtbgoaigbkfibbaaPAx7
import Derived.Test.YtbgoaigbkfibbaaPAx16
/- What Check, and the document's, tell of a tree: the same. Conditions: bounds on lengths, and on the fuel. -/
set_option linter.unusedSimpArgs false
set_option linter.unusedVariables false
namespace Go.Proofs.Ytbgoaigbkfibbaa.PfC
open Go.RowKit Go.Proofs.Ytbgoaigbkfibbaa.PA Go.Proofs.Ytbgoaigbkfibbaa.Sets Go.Proofs.YtbgoaigbkfibbaaW.PrintWords Go.Proofs.YtbgoaigbkfibbaaW.PrintLast Go.Proofs.Ytbgoaigbkfibbaa.HandRight Go.Proofs.Ytbgoaigbkfibbaa.PfT Go.Proofs.Ytbgoaigbkfibbaa.PfF
theorem times_eq (lo hi : Int) : spoolref10_Times.f lo hi = arena_times.f lo hi := by
  unfold spoolref10_Times.f arena_times.f
  (repeat' split) <;> first | rfl | (exfalso; omega) | (congr 1; rw [decide_eq_decide]; omega) | (congr 1; simp; omega)
theorem times_get (lo hi : Int) : ((spoolref10_Times.f lo hi).bind fun t => some t) = some ((arena_times.f lo hi).getD false) := by
  rw [times_eq]
  obtain ⟨r, h⟩ := times_some lo hi
  rw [h]
  rfl
theorem node_f (l : List S41) (s : List (List S55)) (r i : Int) (h0 : 0 ≤ i) (h1 : i < (l.length : Int)) (k : Nat) (hk : 2 ≤ k) : spoolref10_Node.f k l s r i = some (rightN (rd_T41 l i) i (s.length : Int)) := by
  obtain ⟨k, rfl⟩ : ∃ k', k = k' + 1 + 1 := ⟨k - 2, by omega⟩
  obtain ⟨n0, n1, n2, n3, n4, n5, hn⟩ : ∃ n0 n1 n2 n3 n4 n5, rd_T41 l i = ⟨n0, n1, n2, n3, n4, n5⟩ := ⟨_, _, _, _, _, _, rfl⟩
  unfold spoolref10_Node.f
  rw [if_pos h0, if_pos h1, hn]
  simp only
  have key : ∀ b : Bool, b = decide ((0 ≤ n1 ∧ n1 < i) ∧ (0 ≤ n2 ∧ n2 < i)) → spoolref10_Node.j0 (k + 1 + 1) i b l s r n0 n1 n2 n3 n4 n5 = some (rightN ⟨n0, n1, n2, n3, n4, n5⟩ i (s.length : Int)) := by
    intro b hb
    rw [spoolref10_Node.j0]
    unfold rightN
    simp only
    by_cases c1 : n0 = 1
    · rw [if_pos c1, if_pos c1]
      (repeat' split) <;> simp_all
    rw [if_neg c1, if_neg c1]
    by_cases c2 : n0 = 2
    · rw [if_pos c2, if_pos c2]
      (repeat' split) <;> simp_all <;> intros <;> omega
    rw [if_neg c2, if_neg c2]
    have h34 : ∀ q : Bool, q = decide (n0 = 3 ∨ n0 = 4) → spoolref10_Node.j1 (k + 1) i b n0 q n0 n1 n2 n3 n4 n5 = some (if n0 = 3 ∨ n0 = 4 then (n3 == 0 && (n4 == 0 && (n5 == 0))) && (decide (0 ≤ n1 ∧ n1 < i) && decide (0 ≤ n2 ∧ n2 < i))
        else if n0 = 5 then (n2 == 0 && (n5 == 0)) && (decide (0 ≤ n1 ∧ n1 < i) && (arena_times.f n3 n4).getD false) else false) := by
      intro q hq
      rw [spoolref10_Node.j1]
      by_cases c34 : n0 = 3 ∨ n0 = 4
      · rw [hq, decide_eq_true c34, if_pos rfl, if_pos c34, hb]
        by_cases e1 : 0 ≤ n1 ∧ n1 < i <;> by_cases e2 : 0 ≤ n2 ∧ n2 < i <;> by_cases e3 : n3 = 0 <;> by_cases e4 : n4 = 0 <;> simp [e1, e2, e3, e4]
      · rw [hq, decide_eq_false c34, if_neg (by decide), if_neg c34]
        by_cases c5 : n0 = 5
        · rw [if_pos c5, if_pos c5, times_get]
          by_cases e1 : n1 ≥ 0 <;> by_cases e2 : n1 < i <;> by_cases e3 : n2 = 0 <;> by_cases e4 : n5 = 0 <;> simp [e1, e2, e3, e4] <;> intros <;> omega
        · rw [if_neg c5, if_neg c5]
    by_cases c3 : n0 = 3
    · rw [if_pos c3]
      exact h34 _ (by simp [c3])
    · rw [if_neg c3]
      exact h34 _ (by simp [c3]; rfl)
  by_cases e1 : n1 ≥ 0
  · rw [if_pos e1]
    by_cases e2 : n1 < i
    · rw [if_pos e2]
      by_cases e3 : n2 ≥ 0
      · rw [if_pos e3]
        exact key _ (by simp [e1, e2, e3])
      · rw [if_neg e3]
        exact key _ (by simp [e3])
    · rw [if_neg e2]
      exact key _ (by simp [e2])
  · rw [if_neg e1]
    exact key _ (by simp [e1])
/-! ### Check -/
def nodesFrom (l : List S41) (m : Nat) (j : Nat) : Prop := ∀ i : Nat, j ≤ i → i < l.length → rightN (rd_T41 l (i : Int)) (i : Int) (m : Int) = true
def setsFrom (s : List (List S55)) (j : Nat) : Prop := ∀ i : Nat, j ≤ i → i < s.length → rightL 0 (rd_L3 s (i : Int)) = true
theorem nodes_end {l : List S41} {m j : Nat} (h : l.length ≤ j) : nodesFrom l m j := fun i h1 h2 => by omega
theorem nodes_step {l : List S41} {m j : Nat} (h : j < l.length) : nodesFrom l m j ↔ rightN (rd_T41 l (j : Int)) (j : Int) (m : Int) = true ∧ nodesFrom l m (j + 1) := by
  constructor
  · exact fun hn => ⟨hn j (Nat.le_refl _) h, fun i h1 h2 => hn i (by omega) h2⟩
  · rintro ⟨h1, h2⟩ i i1 i2
    by_cases e : i = j
    · subst e; exact h1
    · exact h2 i (by omega) i2
theorem sets_end {s : List (List S55)} {j : Nat} (h : s.length ≤ j) : setsFrom s j := fun i h1 h2 => by omega
theorem sets_step {s : List (List S55)} {j : Nat} (h : j < s.length) : setsFrom s j ↔ rightL 0 (rd_L3 s (j : Int)) = true ∧ setsFrom s (j + 1) := by
  constructor
  · exact fun hn => ⟨hn j (Nat.le_refl _) h, fun i h1 h2 => hn i (by omega) h2⟩
  · rintro ⟨h1, h2⟩ i i1 i2
    by_cases e : i = j
    · subst e; exact h1
    · exact h2 i (by omega) i2
theorem a_l1 (l : List S41) (s : List (List S55)) (r : Int) (hl : l.length ≤ 60) : ∀ (d j k : Nat), l.length = j + d → d < k → ∃ e, arena_Check.l1 k (l.length : Int) (j : Int) l s r = some e ∧ (e = 0 ∨ e = 3) ∧ (e = 0 ↔ nodesFrom l s.length j) := by
  intro d
  induction d with
  | zero =>
    intro j k h hk
    obtain ⟨k, rfl⟩ : ∃ k', k = k' + 1 := ⟨k - 1, by omega⟩
    rw [arena_Check.l1, if_neg (by omega)]
    exact ⟨0, rfl, .inl rfl, fun _ => nodes_end (by omega), fun _ => rfl⟩
  | succ d ih =>
    intro j k h hk
    obtain ⟨k, rfl⟩ : ∃ k', k = k' + 1 := ⟨k - 1, by omega⟩
    rw [arena_Check.l1, if_pos (by omega)]
    have e1 : arena_right.f l s r (j : Int) = some (rightN (rd_T41 l (j : Int)) (j : Int) (s.length : Int)) := if_pos ⟨by omega, by omega⟩
    rw [e1]
    simp only [Option.bind_some]
    by_cases c : rightN (rd_T41 l (j : Int)) (j : Int) (s.length : Int) = true
    · rw [if_pos c, wj j (by omega)]
      obtain ⟨e, he, hor, hiff⟩ := ih (j + 1) k (by omega) (by omega)
      exact ⟨e, he, hor, by rw [nodes_step (by omega), hiff]; simp [c]⟩
    · rw [if_neg c]
      exact ⟨3, rfl, .inr rfl, by rw [nodes_step (by omega)]; simp [c]⟩
theorem a_l0 (l : List S41) (s : List (List S55)) (r : Int) (hl : l.length ≤ 60) (hs : s.length ≤ 60) (hss : ∀ x, x ∈ s → x.length ≤ 30) : ∀ (d j k : Nat), s.length = j + d → d + l.length + 40 < k → ∃ e, arena_Check.l0 k s (s.length : Int) (j : Int) l s r = some e ∧ (e = 0 ∨ e = 3) ∧ (e = 0 ↔ setsFrom s j ∧ nodesFrom l s.length 0) := by
  intro d
  induction d with
  | zero =>
    intro j k h hk
    obtain ⟨k, rfl⟩ : ∃ k', k = k' + 1 := ⟨k - 1, by omega⟩
    rw [arena_Check.l0, if_neg (by omega)]
    obtain ⟨e, he, hor, hiff⟩ := a_l1 l s r hl l.length 0 k (by omega) (by omega)
    exact ⟨e, he, hor, by rw [hiff]; exact ⟨fun h => ⟨sets_end (by omega), h⟩, fun h => h.2⟩⟩
  | succ d ih =>
    intro j k h hk
    obtain ⟨k, rfl⟩ : ∃ k', k = k' + 1 := ⟨k - 1, by omega⟩
    have hx : (rd_L3 s (j : Int)).length ≤ 30 := hss _ (by simp [rd_L3, List.getD_eq_getElem?_getD, show j < s.length by omega])
    rw [arena_Check.l0, if_pos (by omega), if_pos (by omega), if_pos (by omega), PfR.Right_f _ (by omega) k (by omega)]
    simp only [Option.bind_some]
    by_cases c : rightL 0 (rd_L3 s (j : Int)) = true
    · rw [if_pos c, wj j (by omega)]
      obtain ⟨e, he, hor, hiff⟩ := ih (j + 1) k (by omega) (by omega)
      exact ⟨e, he, hor, by rw [sets_step (by omega), hiff]; simp [c]⟩
    · rw [if_neg c]
      exact ⟨3, rfl, .inr rfl, by rw [sets_step (by omega)]; simp [c]⟩
def good (l : List S41) (s : List (List S55)) (r : Int) : Prop := (0 ≤ r ∧ r < (l.length : Int)) ∧ setsFrom s 0 ∧ nodesFrom l s.length 0
theorem check_a (l : List S41) (s : List (List S55)) (r : Int) (h : Near l s) (k : Nat) (hk : 500 ≤ k) : ∃ e, arena_Check.f k l s r = some e ∧ (e = 0 ∨ e = 3) ∧ (e = 0 ↔ good l s r) := by
  obtain ⟨k, rfl⟩ : ∃ k', k = k' + 1 + 1 := ⟨k - 2, by omega⟩
  have hn := h.n
  have hm := h.m
  unfold arena_Check.f
  rw [if_neg (by omega), decide_eq_false (by omega), arena_Check.j0, if_neg (by decide)]
  by_cases c0 : r < 0
  · rw [if_pos c0, arena_Check.j1, if_pos rfl]
    exact ⟨3, rfl, .inr rfl, ⟨fun q => (by cases q), fun q => (by have := q.1; omega)⟩⟩
  · rw [if_neg c0]
    by_cases c1 : r ≥ (l.length : Int)
    · rw [decide_eq_true c1, arena_Check.j1, if_pos rfl]
      exact ⟨3, rfl, .inr rfl, ⟨fun q => (by cases q), fun q => (by have := q.1; omega)⟩⟩
    · rw [decide_eq_false c1, arena_Check.j1, if_neg (by decide)]
      obtain ⟨e, he, hor, hiff⟩ := a_l0 l s r hn hm h.s s.length 0 k (by omega) (by omega)
      exact ⟨e, he, hor, by rw [hiff]; exact ⟨fun q => ⟨⟨by omega, by omega⟩, q⟩, fun q => q.2⟩⟩
theorem r_l1 (l : List S41) (s : List (List S55)) (r : Int) (hl : l.length ≤ 60) : ∀ (d j k : Nat) (ok : Bool), l.length = j + d → d + 4 < k → ∃ e, spoolref10_Check.l1 k ok (j : Int) l s r = some e ∧ (e = 0 ∨ e = 3) ∧ (e = 0 ↔ ok = true ∧ nodesFrom l s.length j) := by
  intro d
  induction d with
  | zero =>
    intro j k ok h hk
    obtain ⟨k, rfl⟩ : ∃ k', k = k' + 1 := ⟨k - 1, by omega⟩
    rw [spoolref10_Check.l1, if_neg (by omega)]
    cases ok with
    | true => exact ⟨0, rfl, .inl rfl, fun _ => ⟨rfl, nodes_end (by omega)⟩, fun _ => rfl⟩
    | false => exact ⟨3, rfl, .inr rfl, fun q => (by cases q), fun q => (by cases q.1)⟩
  | succ d ih =>
    intro j k ok h hk
    obtain ⟨k, rfl⟩ : ∃ k', k = k' + 1 := ⟨k - 1, by omega⟩
    rw [spoolref10_Check.l1, if_pos (by omega), wj j (by omega)]
    cases ok with
    | true =>
      rw [if_pos rfl, node_f l s r (j : Int) (by omega) (by omega) k (by omega)]
      simp only [Option.bind_some]
      obtain ⟨e, he, hor, hiff⟩ := ih (j + 1) k (rightN (rd_T41 l (j : Int)) (j : Int) (s.length : Int)) (by omega) (by omega)
      exact ⟨e, he, hor, by rw [nodes_step (by omega), hiff]; simp⟩
    | false =>
      rw [if_neg (by decide)]
      obtain ⟨e, he, hor, hiff⟩ := ih (j + 1) k false (by omega) (by omega)
      exact ⟨e, he, hor, by rw [hiff]; simp⟩
theorem r_l0 (l : List S41) (s : List (List S55)) (r : Int) (hl : l.length ≤ 60) (hs : s.length ≤ 60) (hss : ∀ x, x ∈ s → x.length ≤ 30) : ∀ (d j k : Nat) (ok : Bool), s.length = j + d → d + l.length + 400 < k → ∃ e, spoolref10_Check.l0 k ok (j : Int) l s r = some e ∧ (e = 0 ∨ e = 3) ∧ (e = 0 ↔ ok = true ∧ setsFrom s j ∧ nodesFrom l s.length 0) := by
  intro d
  induction d with
  | zero =>
    intro j k ok h hk
    obtain ⟨k, rfl⟩ : ∃ k', k = k' + 1 := ⟨k - 1, by omega⟩
    rw [spoolref10_Check.l0, if_neg (by omega)]
    obtain ⟨e, he, hor, hiff⟩ := r_l1 l s r hl l.length 0 k ok (by omega) (by omega)
    exact ⟨e, he, hor, by rw [hiff]; exact ⟨fun q => ⟨q.1, sets_end (by omega), q.2⟩, fun q => ⟨q.1, q.2.2⟩⟩⟩
  | succ d ih =>
    intro j k ok h hk
    obtain ⟨k, rfl⟩ : ∃ k', k = k' + 1 := ⟨k - 1, by omega⟩
    have hx : (rd_L3 s (j : Int)).length ≤ 30 := hss _ (by simp [rd_L3, List.getD_eq_getElem?_getD, show j < s.length by omega])
    rw [spoolref10_Check.l0, if_pos (by omega), wj j (by omega)]
    cases ok with
    | true =>
      rw [if_pos rfl, if_pos (by omega), PfR.RRight_f _ (by omega) k (by omega)]
      simp only [Option.bind_some]
      obtain ⟨e, he, hor, hiff⟩ := ih (j + 1) k (rightL 0 (rd_L3 s (j : Int))) (by omega) (by omega)
      exact ⟨e, he, hor, by rw [sets_step (by omega), hiff]; simp [and_assoc]⟩
    | false =>
      rw [if_neg (by decide)]
      obtain ⟨e, he, hor, hiff⟩ := ih (j + 1) k false (by omega) (by omega)
      exact ⟨e, he, hor, by rw [hiff]; simp⟩
theorem check_r (l : List S41) (s : List (List S55)) (r : Int) (h : Near l s) (k : Nat) (hk : 800 ≤ k) : ∃ e, spoolref10_Check.f k l s r = some e ∧ (e = 0 ∨ e = 3) ∧ (e = 0 ↔ good l s r) := by
  obtain ⟨k, rfl⟩ : ∃ k', k = k' + 1 + 1 := ⟨k - 2, by omega⟩
  have hn := h.n
  have hm := h.m
  unfold spoolref10_Check.f
  rw [if_neg (by omega), decide_eq_false (by omega), spoolref10_Check.j0, if_neg (by decide)]
  have fin : ∀ b : Bool, b = decide (0 ≤ r ∧ r < (l.length : Int)) → ∃ e, spoolref10_Check.j1 (k + 1) b l s r = some e ∧ (e = 0 ∨ e = 3) ∧ (e = 0 ↔ good l s r) := by
    intro b hb
    rw [spoolref10_Check.j1]
    obtain ⟨e, he, hor, hiff⟩ := r_l0 l s r hn hm h.s s.length 0 k b (by omega) (by omega)
    exact ⟨e, he, hor, by rw [hiff, hb, decide_eq_true_eq]; rfl⟩
  by_cases c0 : r ≥ 0
  · rw [if_pos c0]
    exact fin _ (by simp [c0])
  · rw [if_neg c0]
    exact fin _ (by simp [c0])
theorem good_right {l : List S41} {s : List (List S55)} {r : Int} (h : good l s r) : RightT l s.length := by
  intro i i0 i1
  have := h.2.2 i.toNat (Nat.zero_le _) (by omega)
  rwa [show ((i.toNat : Nat) : Int) = i by omega] at this
theorem good_tree {l : List S41} {s : List (List S55)} {r : Int} (h : good l s r) (hn : Near l s) : TreeOK l s := ⟨by have := hn.n; omega, good_right h, fun x hx => by have := hn.s x hx; omega⟩
end Go.Proofs.Ytbgoaigbkfibbaa.PfC

/- What Depth and Size, and the document's, tell of a tree: the same. Conditions: bounds on lengths and sizes, and on the fuel. -/
set_option linter.unusedSimpArgs false
set_option linter.unusedVariables false
namespace Go.Proofs.Ytbgoaigbkfibbaa.PfD
open Go.RowKit Go.Proofs.Ytbgoaigbkfibbaa.PA Go.Proofs.Ytbgoaigbkfibbaa.Sets Go.Proofs.YtbgoaigbkfibbaaW.PrintWords Go.Proofs.YtbgoaigbkfibbaaW.PrintLast Go.Proofs.Ytbgoaigbkfibbaa.HandRight Go.Proofs.Ytbgoaigbkfibbaa.PfT Go.Proofs.Ytbgoaigbkfibbaa.PfF Go.Proofs.Ytbgoaigbkfibbaa.PfC
def depthN (l : List S41) : Nat → Int → Nat
  | 0, _ => 1
  | k + 1, y => if (rd_T41 l y).f0 = 3 ∨ (rd_T41 l y).f0 = 4 then max (depthN l k (rd_T41 l y).f1) (depthN l k (rd_T41 l y).f2) + 1 else if (rd_T41 l y).f0 = 5 then depthN l k (rd_T41 l y).f1 + 1 else 1
theorem depthN_stable (l : List S41) (m : Nat) (hr : RightT l m) : ∀ (k k' : Nat) (x : Int), 0 ≤ x → x < (l.length : Int) → x < (k : Int) → x < (k' : Int) → depthN l k x = depthN l k' x := by
  intro k
  induction k with
  | zero => intro k' x h0 _ h1; omega
  | succ k ih =>
    intro k' x h0 hl h1 h2
    cases k' with
    | zero => omega
    | succ k' =>
      rw [depthN, depthN]
      by_cases h3 : (rd_T41 l x).f0 = 3 ∨ (rd_T41 l x).f0 = 4
      · have hb := right_34 (hr x h0 hl) h3
        rw [if_pos h3, if_pos h3, ih k' _ hb.1.1 (by omega) (by omega) (by omega), ih k' _ hb.2.1 (by omega) (by omega) (by omega)]
      · rw [if_neg h3, if_neg h3]
        by_cases h5 : (rd_T41 l x).f0 = 5
        · have hb := right_5 (hr x h0 hl) h5
          rw [if_pos h5, if_pos h5, ih k' _ hb.1 (by omega) (by omega) (by omega)]
        · rw [if_neg h5, if_neg h5]
def D (l : List S41) (y : Int) : Nat := depthN l l.length y
theorem D_eq (l : List S41) (m : Nat) (hr : RightT l m) (y : Int) (h0 : 0 ≤ y) (hl : y < (l.length : Int)) : D l y =
    if (rd_T41 l y).f0 = 3 ∨ (rd_T41 l y).f0 = 4 then max (D l (rd_T41 l y).f1) (D l (rd_T41 l y).f2) + 1 else if (rd_T41 l y).f0 = 5 then D l (rd_T41 l y).f1 + 1 else 1 := by
  unfold D
  rw [depthN_stable l m hr l.length (l.length + 1) y h0 hl hl (by omega), depthN]
theorem D_le (l : List S41) (m : Nat) (hr : RightT l m) (n : Nat) : ∀ y : Int, 0 ≤ y → y < (l.length : Int) → y < (n : Int) → 1 ≤ D l y ∧ (D l y : Int) ≤ y + 1 := by
  induction n with
  | zero => intro y _ _ h; omega
  | succ n ih =>
    intro y h0 hl hn
    rw [D_eq l m hr y h0 hl]
    by_cases h3 : (rd_T41 l y).f0 = 3 ∨ (rd_T41 l y).f0 = 4
    · have hb := right_34 (hr y h0 hl) h3
      have q1 := ih _ hb.1.1 (by omega) (by omega)
      have q2 := ih _ hb.2.1 (by omega) (by omega)
      rw [if_pos h3]
      omega
    · rw [if_neg h3]
      by_cases h5 : (rd_T41 l y).f0 = 5
      · have hb := right_5 (hr y h0 hl) h5
        have q1 := ih _ hb.1 (by omega) (by omega)
        rw [if_pos h5]
        omega
      · rw [if_neg h5]
        omega
theorem ref_depth (l : List S41) (s : List (List S55)) (r : Int) (hr : RightT l s.length) (hl : l.length ≤ 60) (n : Nat) : ∀ (i : Int) (k : Nat), 0 ≤ i → i < (l.length : Int) → i < (n : Int) → 2 * n + 2 ≤ k → spoolref10_Depth.f k l s r i = some (D l i : Int) := by
  induction n with
  | zero => intro i k _ _ h; omega
  | succ n ih =>
    intro i k h0 h1 hn hk
    obtain ⟨k, rfl⟩ : ∃ k', k = k' + 1 + 1 := ⟨k - 2, by omega⟩
    rw [spoolref10_Depth.f, if_pos h0, if_pos h1]
    have key : ∀ b : Bool, b = decide ((rd_T41 l i).f0 = 3 ∨ (rd_T41 l i).f0 = 4) → spoolref10_Depth.j0 (k + 1) (rd_T41 l i).f0 b l s r (rd_T41 l i).f0 (rd_T41 l i).f1 (rd_T41 l i).f2 (rd_T41 l i).f3 (rd_T41 l i).f4 (rd_T41 l i).f5 = some (D l i : Int) := by
      intro b hb
      rw [spoolref10_Depth.j0, D_eq l s.length hr i h0 h1]
      by_cases h3 : (rd_T41 l i).f0 = 3 ∨ (rd_T41 l i).f0 = 4
      · have hx := right_34 (hr i h0 h1) h3
        have q1 := D_le l s.length hr (n + 1) _ hx.1.1 (by omega) (by omega)
        have q2 := D_le l s.length hr (n + 1) _ hx.2.1 (by omega) (by omega)
        rw [hb, decide_eq_true h3, if_pos rfl, if_pos h3, ih _ k hx.1.1 (by omega) (by omega) (by omega), ih _ k hx.2.1 (by omega) (by omega) (by omega)]
        simp only [Option.bind_some]
        split
        · rw [wn _ (by omega) (by omega)]; congr 1; omega
        · rw [wn _ (by omega) (by omega)]; congr 1; omega
      · rw [hb, decide_eq_false h3, if_neg (by decide), if_neg h3]
        by_cases h5 : (rd_T41 l i).f0 = 5
        · have hx := right_5 (hr i h0 h1) h5
          have q1 := D_le l s.length hr (n + 1) _ hx.1 (by omega) (by omega)
          rw [if_pos h5, if_pos h5, ih _ k hx.1 (by omega) (by omega) (by omega)]
          simp only [Option.bind_some]
          rw [wn _ (by omega) (by omega)]; congr 1
        · rw [if_neg h5, if_neg h5]; rfl
    by_cases c3 : (rd_T41 l i).f0 = 3
    · rw [if_pos c3]
      exact key _ (by simp [c3])
    · rw [if_neg c3]
      exact key _ (by simp [c3]; rfl)
theorem ref_size (l : List S41) (s : List (List S55)) (r : Int) (hr : RightT l s.length) (hC : ∀ i : Int, 0 ≤ i → i < (l.length : Int) → (C l i : Int) ≤ 3000) (hl : l.length ≤ 60) (n : Nat) : ∀ (i : Int) (k : Nat), 0 ≤ i → i < (l.length : Int) → i < (n : Int) → 2 * n + 2 ≤ k → spoolref10_Size.f k l s r i = some (C l i : Int) := by
  induction n with
  | zero => intro i k _ _ h; omega
  | succ n ih =>
    intro i k h0 h1 hn hk
    obtain ⟨k, rfl⟩ : ∃ k', k = k' + 1 + 1 := ⟨k - 2, by omega⟩
    rw [spoolref10_Size.f, if_pos h0, if_pos h1]
    have key : ∀ b : Bool, b = decide ((rd_T41 l i).f0 = 3 ∨ (rd_T41 l i).f0 = 4) → spoolref10_Size.j0 (k + 1) (rd_T41 l i).f0 b l s r (rd_T41 l i).f0 (rd_T41 l i).f1 (rd_T41 l i).f2 (rd_T41 l i).f3 (rd_T41 l i).f4 (rd_T41 l i).f5 = some (C l i : Int) := by
      intro b hb
      rw [spoolref10_Size.j0, C_eq l s.length hr i h0 h1]
      by_cases h3 : (rd_T41 l i).f0 = 3 ∨ (rd_T41 l i).f0 = 4
      · have hx := right_34 (hr i h0 h1) h3
        have q1 := hC _ hx.1.1 (by omega)
        have q2 := hC _ hx.2.1 (by omega)
        rw [hb, decide_eq_true h3, if_pos rfl, if_pos h3, ih _ k hx.1.1 (by omega) (by omega) (by omega), ih _ k hx.2.1 (by omega) (by omega) (by omega)]
        simp only [Option.bind_some]
        rw [wn (1 + _) (by omega) (by omega), wn _ (by omega) (by omega)]; congr 1; omega
      · rw [hb, decide_eq_false h3, if_neg (by decide), if_neg h3]
        by_cases h5 : (rd_T41 l i).f0 = 5
        · have hx := right_5 (hr i h0 h1) h5
          have q1 := hC _ hx.1 (by omega)
          rw [if_pos h5, if_pos h5, ih _ k hx.1 (by omega) (by omega) (by omega)]
          simp only [Option.bind_some]
          rw [wn _ (by omega) (by omega)]; congr 1; omega
        · rw [if_neg h5, if_neg h5]; rfl
    by_cases c3 : (rd_T41 l i).f0 = 3
    · rw [if_pos c3]
      exact key _ (by simp [c3])
    · rw [if_neg c3]
      exact key _ (by simp [c3]; rfl)
theorem rd_set (x : List Int) (j : Nat) (v i : Int) (hj : j < x.length) (h0 : 0 ≤ i) : rd (x.set j v) i = if i = (j : Int) then v else rd x i := by
  unfold rd
  rw [List.getD_eq_getElem?_getD, List.getD_eq_getElem?_getD, List.getElem?_set]
  by_cases c : j = i.toNat
  · rw [if_pos c, if_pos hj, if_pos (by omega)]; rfl
  · rw [if_neg c, if_neg (by omega)]
theorem deeper_two (a b : Int) (k : Nat) (hk : 3 ≤ k) : arena_deeper.f k [a, b] = some (wrap64 (mx (mx 0 a) b + 1)) := by
  obtain ⟨k, rfl⟩ : ∃ k', k = k' + 1 + 1 + 1 := ⟨k - 3, by omega⟩
  kernel_rfl
theorem deeper_one (a : Int) (k : Nat) (hk : 3 ≤ k) : arena_deeper.f k [a] = some (wrap64 (mx 0 a + 1)) := by
  obtain ⟨k, rfl⟩ : ∃ k', k = k' + 1 + 1 + 1 := ⟨k - 3, by omega⟩
  kernel_rfl
theorem deeper_none (k : Nat) (hk : 3 ≤ k) : arena_deeper.f k [] = some 1 := by
  obtain ⟨k, rfl⟩ : ∃ k', k = k' + 1 + 1 + 1 := ⟨k - 3, by omega⟩
  kernel_rfl
theorem more_two (a b : Int) (k : Nat) (hk : 3 ≤ k) : arena_more.f k [a, b] = some (mn (wrap64 (wrap64 (1 + a) + b)) 1048576) := by
  obtain ⟨k, rfl⟩ : ∃ k', k = k' + 1 + 1 + 1 := ⟨k - 3, by omega⟩
  kernel_rfl
theorem more_one (a : Int) (k : Nat) (hk : 3 ≤ k) : arena_more.f k [a] = some (mn (wrap64 (1 + a)) 1048576) := by
  obtain ⟨k, rfl⟩ : ∃ k', k = k' + 1 + 1 + 1 := ⟨k - 3, by omega⟩
  kernel_rfl
theorem more_none (k : Nat) (hk : 3 ≤ k) : arena_more.f k [] = some 1 := by
  obtain ⟨k, rfl⟩ : ∃ k', k = k' + 1 + 1 + 1 := ⟨k - 3, by omega⟩
  kernel_rfl
theorem meas_deeper (l : List S41) (s : List (List S55)) (root : Int) (val : Int → Int) (hr : RightT l s.length) (hl : l.length ≤ 60) (r0 : 0 ≤ root) (r1 : root < (l.length : Int))
    (h2 : ∀ i : Int, 0 ≤ i → i < (l.length : Int) → (rd_T41 l i).f0 = 3 ∨ (rd_T41 l i).f0 = 4 → ∀ k, 3 ≤ k → arena_deeper.f k [val (rd_T41 l i).f1, val (rd_T41 l i).f2] = some (val i))
    (h1 : ∀ i : Int, 0 ≤ i → i < (l.length : Int) → (rd_T41 l i).f0 = 5 → ∀ k, 3 ≤ k → arena_deeper.f k [val (rd_T41 l i).f1] = some (val i))
    (h0 : ∀ i : Int, 0 ≤ i → i < (l.length : Int) → ¬ ((rd_T41 l i).f0 = 3 ∨ (rd_T41 l i).f0 = 4) → (rd_T41 l i).f0 ≠ 5 → val i = 1) :
    ∀ (d j k : Nat) (x : List Int), l.length = j + d → 2 * d + 6 < k → x.length = l.length → (∀ i : Int, 0 ≤ i → i < (j : Int) → rd x i = val i) → arena_measure_arena_deeper.l0 k x l (l.length : Int) (j : Int) l s root = some (val root) := by
  intro d
  induction d with
  | zero =>
    intro j k x h hk hx hv
    obtain ⟨k, rfl⟩ : ∃ k', k = k' + 1 := ⟨k - 1, by omega⟩
    rw [arena_measure_arena_deeper.l0, if_neg (by omega), if_pos r0, if_pos (by omega), hv root r0 (by omega)]
  | succ d ih =>
    intro j k x h hk hx hv
    obtain ⟨k, rfl⟩ : ∃ k', k = k' + 1 + 1 := ⟨k - 2, by omega⟩
    have j0 : 0 ≤ (j : Int) := by omega
    have j1 : (j : Int) < (l.length : Int) := by omega
    rw [arena_measure_arena_deeper.l0, if_pos j1, if_pos j0, if_pos j1]
    have next : ∀ v : Int, v = val (j : Int) → (if 0 ≤ (j : Int) then (if (j : Int) < (x.length : Int) then arena_measure_arena_deeper.l0 k (x.set ((j : Int)).toNat v) l (l.length : Int) (wrap64 ((j : Int) + 1)) l s root else none) else none) = some (val root) := by
      intro v hvv
      rw [if_pos j0, if_pos (by omega), wj j (by omega), Int.toNat_natCast]
      refine ih (j + 1) k _ (by omega) (by omega) (by simp [hx]) (fun i i0 i1 => ?_)
      rw [rd_set x j v i (by omega) i0]
      split
      · rename_i e; rw [hvv, e]
      · exact hv i i0 (by omega)
    have key : ∀ b : Bool, b = decide ((rd_T41 l (j : Int)).f0 = 3 ∨ (rd_T41 l (j : Int)).f0 = 4) → arena_measure_arena_deeper.j1 (k + 1) x (j : Int) l (l.length : Int) (j : Int) (rd_T41 l (j : Int)).f0 b l s root (rd_T41 l (j : Int)).f0 (rd_T41 l (j : Int)).f1 (rd_T41 l (j : Int)).f2 (rd_T41 l (j : Int)).f3 (rd_T41 l (j : Int)).f4 (rd_T41 l (j : Int)).f5 = some (val root) := by
      intro b hb
      rw [arena_measure_arena_deeper.j1]
      by_cases h3 : (rd_T41 l (j : Int)).f0 = 3 ∨ (rd_T41 l (j : Int)).f0 = 4
      · have hq := right_34 (hr (j : Int) j0 j1) h3
        rw [hb, decide_eq_true h3, if_pos rfl, if_pos hq.1.1, if_pos (by omega), if_pos hq.2.1, if_pos (by omega), hv _ hq.1.1 hq.1.2, hv _ hq.2.1 hq.2.2, h2 (j : Int) j0 j1 h3 k (by omega)]
        exact next _ rfl
      · rw [hb, decide_eq_false h3, if_neg (by decide)]
        by_cases h5 : (rd_T41 l (j : Int)).f0 = 5
        · have hq := right_5 (hr (j : Int) j0 j1) h5
          rw [if_pos h5, if_pos hq.1, if_pos (by omega), hv _ hq.1 hq.2, h1 (j : Int) j0 j1 h5 k (by omega)]
          exact next _ rfl
        · rw [if_neg h5, deeper_none k (by omega)]
          exact next _ (h0 (j : Int) j0 j1 h3 h5).symm
    by_cases c3 : (rd_T41 l (j : Int)).f0 = 3
    · rw [if_pos c3]
      exact key _ (by simp [c3])
    · rw [if_neg c3]
      exact key _ (by simp [c3]; rfl)
theorem meas_more (l : List S41) (s : List (List S55)) (root : Int) (val : Int → Int) (hr : RightT l s.length) (hl : l.length ≤ 60) (r0 : 0 ≤ root) (r1 : root < (l.length : Int))
    (h2 : ∀ i : Int, 0 ≤ i → i < (l.length : Int) → (rd_T41 l i).f0 = 3 ∨ (rd_T41 l i).f0 = 4 → ∀ k, 3 ≤ k → arena_more.f k [val (rd_T41 l i).f1, val (rd_T41 l i).f2] = some (val i))
    (h1 : ∀ i : Int, 0 ≤ i → i < (l.length : Int) → (rd_T41 l i).f0 = 5 → ∀ k, 3 ≤ k → arena_more.f k [val (rd_T41 l i).f1] = some (val i))
    (h0 : ∀ i : Int, 0 ≤ i → i < (l.length : Int) → ¬ ((rd_T41 l i).f0 = 3 ∨ (rd_T41 l i).f0 = 4) → (rd_T41 l i).f0 ≠ 5 → val i = 1) :
    ∀ (d j k : Nat) (x : List Int), l.length = j + d → 2 * d + 6 < k → x.length = l.length → (∀ i : Int, 0 ≤ i → i < (j : Int) → rd x i = val i) → arena_measure_arena_more.l0 k x l (l.length : Int) (j : Int) l s root = some (val root) := by
  intro d
  induction d with
  | zero =>
    intro j k x h hk hx hv
    obtain ⟨k, rfl⟩ : ∃ k', k = k' + 1 := ⟨k - 1, by omega⟩
    rw [arena_measure_arena_more.l0, if_neg (by omega), if_pos r0, if_pos (by omega), hv root r0 (by omega)]
  | succ d ih =>
    intro j k x h hk hx hv
    obtain ⟨k, rfl⟩ : ∃ k', k = k' + 1 + 1 := ⟨k - 2, by omega⟩
    have j0 : 0 ≤ (j : Int) := by omega
    have j1 : (j : Int) < (l.length : Int) := by omega
    rw [arena_measure_arena_more.l0, if_pos j1, if_pos j0, if_pos j1]
    have next : ∀ v : Int, v = val (j : Int) → (if 0 ≤ (j : Int) then (if (j : Int) < (x.length : Int) then arena_measure_arena_more.l0 k (x.set ((j : Int)).toNat v) l (l.length : Int) (wrap64 ((j : Int) + 1)) l s root else none) else none) = some (val root) := by
      intro v hvv
      rw [if_pos j0, if_pos (by omega), wj j (by omega), Int.toNat_natCast]
      refine ih (j + 1) k _ (by omega) (by omega) (by simp [hx]) (fun i i0 i1 => ?_)
      rw [rd_set x j v i (by omega) i0]
      split
      · rename_i e; rw [hvv, e]
      · exact hv i i0 (by omega)
    have key : ∀ b : Bool, b = decide ((rd_T41 l (j : Int)).f0 = 3 ∨ (rd_T41 l (j : Int)).f0 = 4) → arena_measure_arena_more.j1 (k + 1) x (j : Int) l (l.length : Int) (j : Int) (rd_T41 l (j : Int)).f0 b l s root (rd_T41 l (j : Int)).f0 (rd_T41 l (j : Int)).f1 (rd_T41 l (j : Int)).f2 (rd_T41 l (j : Int)).f3 (rd_T41 l (j : Int)).f4 (rd_T41 l (j : Int)).f5 = some (val root) := by
      intro b hb
      rw [arena_measure_arena_more.j1]
      by_cases h3 : (rd_T41 l (j : Int)).f0 = 3 ∨ (rd_T41 l (j : Int)).f0 = 4
      · have hq := right_34 (hr (j : Int) j0 j1) h3
        rw [hb, decide_eq_true h3, if_pos rfl, if_pos hq.1.1, if_pos (by omega), if_pos hq.2.1, if_pos (by omega), hv _ hq.1.1 hq.1.2, hv _ hq.2.1 hq.2.2, h2 (j : Int) j0 j1 h3 k (by omega)]
        exact next _ rfl
      · rw [hb, decide_eq_false h3, if_neg (by decide)]
        by_cases h5 : (rd_T41 l (j : Int)).f0 = 5
        · have hq := right_5 (hr (j : Int) j0 j1) h5
          rw [if_pos h5, if_pos hq.1, if_pos (by omega), hv _ hq.1 hq.2, h1 (j : Int) j0 j1 h5 k (by omega)]
          exact next _ rfl
        · rw [if_neg h5, more_none k (by omega)]
          exact next _ (h0 (j : Int) j0 j1 h3 h5).symm
    by_cases c3 : (rd_T41 l (j : Int)).f0 = 3
    · rw [if_pos c3]
      exact key _ (by simp [c3])
    · rw [if_neg c3]
      exact key _ (by simp [c3]; rfl)
theorem depth_f (l : List S41) (s : List (List S55)) (r : Int) (h : Near l s) (hg : good l s r) (k : Nat) (hk : 500 ≤ k) : arena_Depth.f k l s r = some (D l r : Int) := by
  have hn := h.n
  have hr := good_right hg
  obtain ⟨e, he, _, hiff⟩ := check_a l s r h k hk
  have e0 := hiff.2 hg
  subst e0
  unfold arena_Depth.f arena_measure_arena_deeper.f
  rw [he]
  simp only [Option.bind_some]
  rw [if_pos trivial, if_pos (by omega), if_pos (by omega), Int.toNat_natCast]
  have hb := fun i i0 i1 => D_le l s.length hr l.length i i0 i1 i1
  suffices hm : arena_measure_arena_deeper.l0 k (List.replicate l.length 0) l (l.length : Int) 0 l s r = some (D l r : Int) by
    rw [hm]
    rfl
  refine meas_deeper l s r (fun i => (D l i : Int)) hr hn hg.1.1 hg.1.2 ?_ ?_ ?_ l.length 0 k _ (by omega) (by omega) (by simp) (fun i i0 i1 => by omega)
  · intro i i0 i1 h3 k hk
    have hq := right_34 (hr i i0 i1) h3
    have q1 := hb _ hq.1.1 (by omega)
    have q2 := hb _ hq.2.1 (by omega)
    rw [deeper_two _ _ k hk, D_eq l s.length hr i i0 i1, if_pos h3]
    congr 1
    unfold mx
    (repeat' split) <;> (rw [wn _ (by omega) (by omega)]; omega)
  · intro i i0 i1 h5 k hk
    have hq := right_5 (hr i i0 i1) h5
    have q1 := hb _ hq.1 (by omega)
    rw [deeper_one _ k hk, D_eq l s.length hr i i0 i1, if_neg (by omega), if_pos h5]
    congr 1
    unfold mx
    (repeat' split) <;> (rw [wn _ (by omega) (by omega)]; omega)
  · intro i i0 i1 h3 h5
    show (D l i : Int) = 1
    rw [D_eq l s.length hr i i0 i1, if_neg h3, if_neg h5]
    rfl
theorem size_f (l : List S41) (s : List (List S55)) (r : Int) (h : Near l s) (hg : good l s r) (k : Nat) (hk : 500 ≤ k) : arena_Size.f k l s r = some (C l r : Int) := by
  have hn := h.n
  have hr := good_right hg
  obtain ⟨e, he, _, hiff⟩ := check_a l s r h k hk
  have e0 := hiff.2 hg
  subst e0
  unfold arena_Size.f arena_measure_arena_more.f
  rw [he]
  simp only [Option.bind_some]
  rw [if_pos trivial, if_pos (by omega), if_pos (by omega), Int.toNat_natCast]
  have hb := h.c hr
  suffices hm : arena_measure_arena_more.l0 k (List.replicate l.length 0) l (l.length : Int) 0 l s r = some (C l r : Int) by
    rw [hm]
    rfl
  refine meas_more l s r (fun i => (C l i : Int)) hr hn hg.1.1 hg.1.2 ?_ ?_ ?_ l.length 0 k _ (by omega) (by omega) (by simp) (fun i i0 i1 => by omega)
  · intro i i0 i1 h3 k hk
    have hq := right_34 (hr i i0 i1) h3
    have q0 := hb i i0 i1
    have q1 := hb _ hq.1.1 (by omega)
    have q2 := hb _ hq.2.1 (by omega)
    rw [C_eq l s.length hr i i0 i1, if_pos h3] at q0
    rw [more_two _ _ k hk, C_eq l s.length hr i i0 i1, if_pos h3, wn (1 + _) (by omega) (by omega), wn _ (by omega) (by omega)]
    congr 1
    unfold mn
    split <;> omega
  · intro i i0 i1 h5 k hk
    have hq := right_5 (hr i i0 i1) h5
    have q0 := hb i i0 i1
    have q1 := hb _ hq.1 (by omega)
    rw [C_eq l s.length hr i i0 i1, if_neg (by omega), if_pos h5] at q0
    rw [more_one _ k hk, C_eq l s.length hr i i0 i1, if_neg (by omega), if_pos h5, wn _ (by omega) (by omega)]
    congr 1
    unfold mn
    split <;> omega
  · intro i i0 i1 h3 h5
    show (C l i : Int) = 1
    rw [C_eq l s.length hr i i0 i1, if_neg h3, if_neg h5]
    rfl
end Go.Proofs.Ytbgoaigbkfibbaa.PfD

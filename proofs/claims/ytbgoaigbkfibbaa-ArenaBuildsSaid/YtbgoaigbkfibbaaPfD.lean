import Derived.Test.YtbgoaigbkfibbaaPfF
import Derived.Test.YtbgoaigbkfibbaaPfR
import Derived.Test.YtbgoaigbkfibbaaPAx0
import Derived.Test.YtbgoaigbkfibbaaPAx2
import Derived.Test.YtbgoaigbkfibbaaPAx5
import Derived.Test.YtbgoaigbkfibbaaPAx13
import Derived.Test.YtbgoaigbkfibbaaPAx14
import Derived.Test.YtbgoaigbkfibbaaPAx15
import Derived.Test.YtbgoaigbkfibbaaPAx6
import Derived.Test.YtbgoaigbkfibbaaPAx7
/- What Check, and the document's, tell of a tree: the same. Conditions: bounds on lengths, and on the fuel. -/
set_option linter.unusedSimpArgs false
set_option linter.unusedVariables false
namespace Go.Proofs.Ytbgoaigbkfibbaa.PfC
open Go.RowKit Go.Proofs.Ytbgoaigbkfibbaa.PA Go.Proofs.Ytbgoaigbkfibbaa.Sets Go.Proofs.YtbgoaigbkfibbaaW.PrintWords Go.Proofs.YtbgoaigbkfibbaaW.PrintLast Go.Proofs.Ytbgoaigbkfibbaa.HandRight Go.Proofs.Ytbgoaigbkfibbaa.PfT Go.Proofs.Ytbgoaigbkfibbaa.PfF
theorem times_eq (lo hi : Int) : spoolref10_Times.f lo hi = arena_times.f lo hi := by
  unfold spoolref10_Times.f arena_times.f
  (repeat' split) <;> first | rfl | (exfalso; omega) | (congr 1; rw [decide_eq_decide]; omega) | (congr 1; simp; omega)
theorem times_get (lo hi : Int) : ((spoolref10_Times.f lo hi).bind fun t => some t) = some ((arena_times.f lo hi).getD false) := by
  rw [times_eq]
  obtain ⟨r, h⟩ := times_some lo hi
  rw [h]
  rfl
theorem node_f (l : List S41) (s : List (List S55)) (r i : Int) (h0 : 0 ≤ i) (h1 : i < (l.length : Int)) (k : Nat) (hk : 2 ≤ k) : spoolref10_Node.f k l s r i = some (rightN (rd_T41 l i) i (s.length : Int)) := by
  obtain ⟨k, rfl⟩ : ∃ k', k = k' + 1 + 1 := ⟨k - 2, by omega⟩
  obtain ⟨n0, n1, n2, n3, n4, n5, hn⟩ : ∃ n0 n1 n2 n3 n4 n5, rd_T41 l i = ⟨n0, n1, n2, n3, n4, n5⟩ := ⟨_, _, _, _, _, _, rfl⟩
  unfold spoolref10_Node.f
  rw [if_pos h0, if_pos h1, hn]
  simp only
  have key : ∀ b : Bool, b = decide ((0 ≤ n1 ∧ n1 < i) ∧ (0 ≤ n2 ∧ n2 < i)) → spoolref10_Node.j0 (k + 1 + 1) i b l s r n0 n1 n2 n3 n4 n5 = some (rightN ⟨n0, n1, n2, n3, n4, n5⟩ i (s.length : Int)) := by
    intro b hb
    rw [spoolref10_Node.j0]
    unfold rightN
    simp only
    by_cases c1 : n0 = 1
    · rw [if_pos c1, if_pos c1]
      (repeat' split) <;> simp_all
    rw [if_neg c1, if_neg c1]
    by_cases c2 : n0 = 2
    · rw [if_pos c2, if_pos c2]
      (repeat' split) <;> simp_all <;> intros <;> omega
    rw [if_neg c2, if_neg c2]
    have h34 : ∀ q : Bool, q = decide (n0 = 3 ∨ n0 = 4) → spoolref10_Node.j1 (k + 1) i b n0 q n0 n1 n2 n3 n4 n5 = some (if n0 = 3 ∨ n0 = 4 then (n3 == 0 && (n4 == 0 && (n5 == 0))) && (decide (0 ≤ n1 ∧ n1 < i) && decide (0 ≤ n2 ∧ n2 < i))
        else if n0 = 5 then (n2 == 0 && (n5 == 0)) && (decide (0 ≤ n1 ∧ n1 < i) && (arena_times.f n3 n4).getD false) else false) := by
      intro q hq
      rw [spoolref10_Node.j1]
      by_cases c34 : n0 = 3 ∨ n0 = 4
      · rw [hq, decide_eq_true c34, if_pos rfl, if_pos c34, hb]
        by_cases e1 : 0 ≤ n1 ∧ n1 < i <;> by_cases e2 : 0 ≤ n2 ∧ n2 < i <;> by_cases e3 : n3 = 0 <;> by_cases e4 : n4 = 0 <;> simp [e1, e2, e3, e4]
      · rw [hq, decide_eq_false c34, if_neg (by decide), if_neg c34]
        by_cases c5 : n0 = 5
        · rw [if_pos c5, if_pos c5, times_get]
          by_cases e1 : n1 ≥ 0 <;> by_cases e2 : n1 < i <;> by_cases e3 : n2 = 0 <;> by_cases e4 : n5 = 0 <;> simp [e1, e2, e3, e4] <;> intros <;> omega
        · rw [if_neg c5, if_neg c5]
    by_cases c3 : n0 = 3
    · rw [if_pos c3]
      exact h34 _ (by simp [c3])
    · rw [if_neg c3]
      exact h34 _ (by simp [c3]; rfl)
  by_cases e1 : n1 ≥ 0
  · rw [if_pos e1]
    by_cases e2 : n1 < i
    · rw [if_pos e2]
      by_cases e3 : n2 ≥ 0
      · rw [if_pos e3]
        exact key _ (by simp [e1, e2, e3])
      · rw [if_neg e3]
        exact key _ (by simp [e3])
    · rw [if_neg e2]
      exact key _ (by simp [e2])
  · rw [if_neg e1]
    exact key _ (by simp [e1])
/-! ### Check -/
def nodesFrom (l : List S41) (m : Nat) (j : Nat) : Prop := ∀ i : Nat, j ≤ i → i < l.length → rightN (rd_T41 l (i : Int)) (i : Int) (m : Int) = true
def setsFrom (s : List (List S55)) (j : Nat) : Prop := ∀ i : Nat, j ≤ i → i < s.length → rightL 0 (rd_L3 s (i : Int)) = true
theorem nodes_end {l : List S41} {m j : Nat} (h : l.length ≤ j) : nodesFrom l m j := fun i h1 h2 => by omega
theorem nodes_step {l : List S41} {m j : Nat} (h : j < l.length) : nodesFrom l m j ↔ rightN (rd_T41 l (j : Int)) (j : Int) (m : Int) = true ∧ nodesFrom l m (j + 1) := by
  constructor
  · exact fun hn => ⟨hn j (Nat.le_refl _) h, fun i h1 h2 => hn i (by omega) h2⟩
  · rintro ⟨h1, h2⟩ i i1 i2
    by_cases e : i = j
    · subst e; exact h1
    · exact h2 i (by omega) i2
theorem sets_end {s : List (List S55)} {j : Nat} (h : s.length ≤ j) : setsFrom s j := fun i h1 h2 => by omega
theorem sets_step {s : List (List S55)} {j : Nat} (h : j < s.length) : setsFrom s j ↔ rightL 0 (rd_L3 s (j : Int)) = true ∧ setsFrom s (j + 1) := by
  constructor
  · exact fun hn => ⟨hn j (Nat.le_refl _) h, fun i h1 h2 => hn i (by omega) h2⟩
  · rintro ⟨h1, h2⟩ i i1 i2
    by_cases e : i = j
    · subst e; exact h1
    · exact h2 i (by omega) i2
theorem a_l1 (l : List S41) (s : List (List S55)) (r : Int) (hl : l.length ≤ 60) : ∀ (d j k : Nat), l.length = j + d → d < k → ∃ e, arena_Check.l1 k (l.length : Int) (j : Int) l s r = some e ∧ (e = 0 ∨ e = 3) ∧ (e = 0 ↔ nodesFrom l s.length j) := by
  intro d
  induction d with
  | zero =>
    intro j k h hk
    obtain ⟨k, rfl⟩ : ∃ k', k = k' + 1 := ⟨k - 1, by omega⟩
    rw [arena_Check.l1, if_neg (by omega)]
    exact ⟨0, rfl, .inl rfl, fun _ => nodes_end (by omega), fun _ => rfl⟩
  | succ d ih =>
    intro j k h hk
    obtain ⟨k, rfl⟩ : ∃ k', k = k' + 1 := ⟨k - 1, by omega⟩
    rw [arena_Check.l1, if_pos (by omega)]
    have e1 : arena_right.f l s r (j : Int) = some (rightN (rd_T41 l (j : Int)) (j : Int) (s.length : Int)) := if_pos ⟨by omega, by omega⟩
    rw [e1]
    simp only [Option.bind_some]
    by_cases c : rightN (rd_T41 l (j : Int)) (j : Int) (s.length : Int) = true
    · rw [if_pos c, wj j (by omega)]
      obtain ⟨e, he, hor, hiff⟩ := ih (j + 1) k (by omega) (by omega)
      exact ⟨e, he, hor, by rw [nodes_step (by omega), hiff]; simp [c]⟩
    · rw [if_neg c]
      exact ⟨3, rfl, .inr rfl, by rw [nodes_step (by omega)]; simp [c]⟩
theorem a_l0 (l : List S41) (s : List (List S55)) (r : Int) (hl : l.length ≤ 60) (hs : s.length ≤ 60) (hss : ∀ x, x ∈ s → x.length ≤ 30) : ∀ (d j k : Nat), s.length = j + d → d + l.length + 40 < k → ∃ e, arena_Check.l0 k s (s.length : Int) (j : Int) l s r = some e ∧ (e = 0 ∨ e = 3) ∧ (e = 0 ↔ setsFrom s j ∧ nodesFrom l s.length 0) := by
  intro d
  induction d with
  | zero =>
    intro j k h hk
    obtain ⟨k, rfl⟩ : ∃ k', k = k' + 1 := ⟨k - 1, by omega⟩
    rw [arena_Check.l0, if_neg (by omega)]
    obtain ⟨e, he, hor, hiff⟩ := a_l1 l s r hl l.length 0 k (by omega) (by omega)
    exact ⟨e, he, hor, by rw [hiff]; exact ⟨fun h => ⟨sets_end (by omega), h⟩, fun h => h.2⟩⟩
  | succ d ih =>
    intro j k h hk
    obtain ⟨k, rfl⟩ : ∃ k', k = k' + 1 := ⟨k - 1, by omega⟩
    have hx : (rd_L3 s (j : Int)).length ≤ 30 := hss _ (by simp [rd_L3, List.getD_eq_getElem?_getD, show j < s.length by omega])
    rw [arena_Check.l0, if_pos (by omega), if_pos (by omega), if_pos (by omega), PfR.Right_f _ (by omega) k (by omega)]
    simp only [Option.bind_some]
    by_cases c : rightL 0 (rd_L3 s (j : Int)) = true
    · rw [if_pos c, wj j (by omega)]
      obtain ⟨e, he, hor, hiff⟩ := ih (j + 1) k (by omega) (by omega)
      exact ⟨e, he, hor, by rw [sets_step (by omega), hiff]; simp [c]⟩
    · rw [if_neg c]
      exact ⟨3, rfl, .inr rfl, by rw [sets_step (by omega)]; simp [c]⟩
def good (l : List S41) (s : List (List S55)) (r : Int) : Prop := (0 ≤ r ∧ r < (l.length : Int)) ∧ setsFrom s 0 ∧ nodesFrom l s.length 0
theorem check_a (l : List S41) (s : List (List S55)) (r : Int) (h : Near l s) (k : Nat) (hk : 500 ≤ k) : ∃ e, arena_Check.f k l s r = some e ∧ (e = 0 ∨ e = 3) ∧ (e = 0 ↔ good l s r) := by
  obtain ⟨k, rfl⟩ : ∃ k', k = k' + 1 + 1 := ⟨k - 2, by omega⟩
  have hn := h.n
  have hm := h.m
  unfold arena_Check.f
  rw [if_neg (by omega), decide_eq_false (by omega), arena_Check.j0, if_neg (by decide)]
  by_cases c0 : r < 0
  · rw [if_pos c0, arena_Check.j1, if_pos rfl]
    exact ⟨3, rfl, .inr rfl, ⟨fun q => (by cases q), fun q => (by have := q.1; omega)⟩⟩
  · rw [if_neg c0]
    by_cases c1 : r ≥ (l.length : Int)
    · rw [decide_eq_true c1, arena_Check.j1, if_pos rfl]
      exact ⟨3, rfl, .inr rfl, ⟨fun q => (by cases q), fun q => (by have := q.1; omega)⟩⟩
    · rw [decide_eq_false c1, arena_Check.j1, if_neg (by decide)]
      obtain ⟨e, he, hor, hiff⟩ := a_l0 l s r hn hm h.s s.length 0 k (by omega) (by omega)
      exact ⟨e, he, hor, by rw [hiff]; exact ⟨fun q => ⟨⟨by omega, by omega⟩, q⟩, fun q => q.2⟩⟩
theorem r_l1 (l : List S41) (s : List (List S55)) (r : Int) (hl : l.length ≤ 60) : ∀ (d j k : Nat) (ok : Bool), l.length = j + d → d + 4 < k → ∃ e, spoolref10_Check.l1 k ok (j : Int) l s r = some e ∧ (e = 0 ∨ e = 3) ∧ (e = 0 ↔ ok = true ∧ nodesFrom l s.length j) := by
  intro d
  induction d with
  | zero =>
    intro j k ok h hk
    obtain ⟨k, rfl⟩ : ∃ k', k = k' + 1 := ⟨k - 1, by omega⟩
    rw [spoolref10_Check.l1, if_neg (by omega)]
    cases ok with
    | true => exact ⟨0, rfl, .inl rfl, fun _ => ⟨rfl, nodes_end (by omega)⟩, fun _ => rfl⟩
    | false => exact ⟨3, rfl, .inr rfl, fun q => (by cases q), fun q => (by cases q.1)⟩
  | succ d ih =>
    intro j k ok h hk
    obtain ⟨k, rfl⟩ : ∃ k', k = k' + 1 := ⟨k - 1, by omega⟩
    rw [spoolref10_Check.l1, if_pos (by omega), wj j (by omega)]
    cases ok with
    | true =>
      rw [if_pos rfl, node_f l s r (j : Int) (by omega) (by omega) k (by omega)]
      simp only [Option.bind_some]
      obtain ⟨e, he, hor, hiff⟩ := ih (j + 1) k (rightN (rd_T41 l (j : Int)) (j : Int) (s.length : Int)) (by omega) (by omega)
      exact ⟨e, he, hor, by rw [nodes_step (by omega), hiff]; simp⟩
    | false =>
      rw [if_neg (by decide)]
      obtain ⟨e, he, hor, hiff⟩ := ih (j + 1) k false (by omega) (by omega)
      exact ⟨e, he, hor, by rw [hiff]; simp⟩
theorem r_l0 (l : List S41) (s : List (List S55)) (r : Int) (hl : l.length ≤ 60) (hs : s.length ≤ 60) (hss : ∀ x, x ∈ s → x.length ≤ 30) : ∀ (d j k : Nat) (ok : Bool), s.length = j + d → d + l.length + 400 < k → ∃ e, spoolref10_Check.l0 k ok (j : Int) l s r = some e ∧ (e = 0 ∨ e = 3) ∧ (e = 0 ↔ ok = true ∧ setsFrom s j ∧ nodesFrom l s.length 0) := by
  intro d
  induction d with
  | zero =>
    intro j k ok h hk
    obtain ⟨k, rfl⟩ : ∃ k', k = k' + 1 := ⟨k - 1, by omega⟩
    rw [spoolref10_Check.l0, if_neg (by omega)]
    obtain ⟨e, he, hor, hiff⟩ := r_l1 l s r hl l.length 0 k ok (by omega) (by omega)
    exact ⟨e, he, hor, by rw [hiff]; exact ⟨fun q => ⟨q.1, sets_end (by omega), q.2⟩, fun q => ⟨q.1, q.2.2⟩⟩⟩
  | succ d ih =>
    intro j k ok h hk
    obtain ⟨k, rfl⟩ : ∃ k', k = k' + 1 := ⟨k - 1, by omega⟩
    have hx : (rd_L3 s (j : Int)).length ≤ 30 := hss _ (by simp [rd_L3, List.getD_eq_getElem?_getD, show j < s.length by omega])
    rw [spoolref10_Check.l0, if_pos (by omega), wj j (by omega)]
    cases ok with
    | true =>
      rw [if_pos rfl, if_pos (by omega), PfR.RRight_f _ (by omega) k (by omega)]
      simp only [Option.bind_some]
      obtain ⟨e, he, hor, hiff⟩ := ih (j + 1) k (rightL 0 (rd_L3 s (j : Int))) (by omega) (by omega)
      exact ⟨e, he, hor, by rw [sets_step (by omega), hiff]; simp [and_assoc]⟩
    | false =>
      rw [if_neg (by decide)]
      obtain ⟨e, he, hor, hiff⟩ := ih (j + 1) k false (by omega) (by omega)
      exact ⟨e, he, hor, by rw [hiff]; simp⟩
theorem check_r (l : List S41) (s : List (List S55)) (r : Int) (h : Near l s) (k : Nat) (hk : 800 ≤ k) : ∃ e, spoolref10_Check.f k l s r = some e ∧ (e = 0 ∨ e = 3) ∧ (e = 0 ↔ good l s r) := by
  obtain ⟨k, rfl⟩ : ∃ k', k = k' + 1 + 1 := ⟨k - 2, by omega⟩
  have hn := h.n
  have hm := h.m
  unfold spoolref10_Check.f
  rw [if_neg (by omega), decide_eq_false (by omega), spoolref10_Check.j0, if_neg (by decide)]
  have fin : ∀ b : Bool, b = decide (0 ≤ r ∧ r < (l.length : Int)) → ∃ e, spoolref10_Check.j1 (k + 1) b l s r = some e ∧ (e = 0 ∨ e = 3) ∧ (e = 0 ↔ good l s r) := by
    intro b hb
    rw [spoolref10_Check.j1]
    obtain ⟨e, he, hor, hiff⟩ := r_l0 l s r hn hm h.s s.length 0 k b (by omega) (by omega)
    exact ⟨e, he, hor, by rw [hiff, hb, decide_eq_true_eq]; rfl⟩
  by_cases c0 : r ≥ 0
  · rw [if_pos c0]
    exact fin _ (by simp [c0])
  · rw [if_neg c0]
    exact fin _ (by simp [c0])
end Go.Proofs.Ytbgoaigbkfibbaa.PfC

/- What Depth and Size, and the document's, tell of a tree: the same. Conditions: bounds on lengths and sizes, and on the fuel. -/
set_option linter.unusedSimpArgs false
set_option linter.unusedVariables false
namespace Go.Proofs.Ytbgoaigbkfibbaa.PfD
open Go.RowKit Go.Proofs.Ytbgoaigbkfibbaa.PA Go.Proofs.Ytbgoaigbkfibbaa.Sets Go.Proofs.YtbgoaigbkfibbaaW.PrintWords Go.Proofs.YtbgoaigbkfibbaaW.PrintLast Go.Proofs.Ytbgoaigbkfibbaa.HandRight Go.Proofs.Ytbgoaigbkfibbaa.PfT Go.Proofs.Ytbgoaigbkfibbaa.PfF Go.Proofs.Ytbgoaigbkfibbaa.PfC
def depthN (l : List S41) : Nat → Int → Nat
  | 0, _ => 1
  | k + 1, y => if (rd_T41 l y).f0 = 3 ∨ (rd_T41 l y).f0 = 4 then max (depthN l k (rd_T41 l y).f1) (depthN l k (rd_T41 l y).f2) + 1 else if (rd_T41 l y).f0 = 5 then depthN l k (rd_T41 l y).f1 + 1 else 1
def D (l : List S41) (y : Int) : Nat := depthN l l.length y
end Go.Proofs.Ytbgoaigbkfibbaa.PfD

import Derived.Test.YtlihkebmonfefaaDoorHandRight
import Derived.Test.YtlihkebmonfefaaDoorPlS
import Derived.Test.YtlihkebmonfefaaDoorHandNode
import Derived.Test.YtlihkebmonfefaaDoorPGx0
import Derived.Test.YtlihkebmonfefaaDoorPGx13
import Derived.Test.YtlihkebmonfefaaDoorPfR
import Derived.Test.YtlihkebmonfefaaDoorPGx2
import Derived.Test.YtlihkebmonfefaaDoorPGx10
import Derived.Test.YtlihkebmonfefaaDoorPGx11
import Derived.Test.YtlihkebmonfefaaDoorPGx12
import Derived.Test.YtlihkebmonfefaaDoorPGx15
import Derived.Test.YtlihkebmonfefaaDoorPGx14
/- Trees in plain words: whether two nodes are the same, a node's size; the same sets. Conditions: nodes that may be, bounds on lengths. -/
set_option linter.unusedSimpArgs false
set_option linter.unusedVariables false
namespace Go.Proofs.YtlihkebmonfefaaDoor.PfT
open Go.RowKit Go.Proofs.YtlihkebmonfefaaDoor.PG Go.Proofs.YtlihkebmonfefaaDoor.Sets Go.Proofs.YtlihkebmonfefaaDoorW.PrintWords Go.Proofs.YtlihkebmonfefaaDoorW.PrintLast Go.Proofs.YtlihkebmonfefaaDoor.HandRight
open Go.Proofs.YtlihkebmonfefaaDoor.HandNode (right2 right34 right5)
theorem wn (x : Int) (h0 : -9223372036854775808 ≤ x) (h1 : x < 9223372036854775808) : wrap64 x = x := by unfold wrap64; omega
theorem wj (j : Nat) (h : j < 4611686018427387904) : wrap64 ((j : Int) + 1) = ((j + 1 : Nat) : Int) := by rw [wn _ (by omega) (by omega)]; omega
def sizeN (lb : List S48) : Nat → Int → Nat
  | 0, _ => 1
  | k + 1, y => if (rd_T48 lb y).f0 = 3 ∨ (rd_T48 lb y).f0 = 4 then sizeN lb k (rd_T48 lb y).f1 + sizeN lb k (rd_T48 lb y).f2 + 1 else if (rd_T48 lb y).f0 = 5 then sizeN lb k (rd_T48 lb y).f1 + 1 else 1
def RightT (l : List S48) (m : Nat) : Prop := ∀ i : Int, 0 ≤ i → i < (l.length : Int) → rightN (rd_T48 l i) i (m : Int) = true
theorem right_34 {n : S48} {i m : Int} (h : rightN n i m = true) (ho : n.f0 = 3 ∨ n.f0 = 4) : (0 ≤ n.f1 ∧ n.f1 < i) ∧ (0 ≤ n.f2 ∧ n.f2 < i) := by
  cases n
  exact right34 ho h
theorem right_5 {n : S48} {i m : Int} (h : rightN n i m = true) (ho : n.f0 = 5) : 0 ≤ n.f1 ∧ n.f1 < i := by
  cases n
  simp only at ho
  subst ho
  exact right5 h
theorem right_2 {n : S48} {i m : Int} (h : rightN n i m = true) (ho : n.f0 = 2) : 0 ≤ n.f5 ∧ n.f5 < m := by
  cases n
  simp only at ho
  subst ho
  exact right2 h
theorem sizeN_stable (l : List S48) (m : Nat) (hr : RightT l m) : ∀ (k k' : Nat) (x : Int), 0 ≤ x → x < (l.length : Int) → x < (k : Int) → x < (k' : Int) → sizeN l k x = sizeN l k' x := by
  intro k
  induction k with
  | zero => intro k' x h0 _ h1; omega
  | succ k ih =>
    intro k' x h0 hl h1 h2
    cases k' with
    | zero => omega
    | succ k' =>
      rw [sizeN, sizeN]
      by_cases h3 : (rd_T48 l x).f0 = 3 ∨ (rd_T48 l x).f0 = 4
      · have hb := right_34 (hr x h0 hl) h3
        rw [if_pos h3, if_pos h3, ih k' _ hb.1.1 (by omega) (by omega) (by omega), ih k' _ hb.2.1 (by omega) (by omega) (by omega)]
      · rw [if_neg h3, if_neg h3]
        by_cases h5 : (rd_T48 l x).f0 = 5
        · have hb := right_5 (hr x h0 hl) h5
          rw [if_pos h5, if_pos h5, ih k' _ hb.1 (by omega) (by omega) (by omega)]
        · rw [if_neg h5, if_neg h5]
def C (lb : List S48) (y : Int) : Nat := sizeN lb lb.length y
theorem C_eq (l : List S48) (m : Nat) (hr : RightT l m) (y : Int) (h0 : 0 ≤ y) (hl : y < (l.length : Int)) : C l y =
    if (rd_T48 l y).f0 = 3 ∨ (rd_T48 l y).f0 = 4 then C l (rd_T48 l y).f1 + C l (rd_T48 l y).f2 + 1 else if (rd_T48 l y).f0 = 5 then C l (rd_T48 l y).f1 + 1 else 1 := by
  unfold C
  rw [sizeN_stable l m hr l.length (l.length + 1) y h0 hl hl (by omega), sizeN]
end Go.Proofs.YtlihkebmonfefaaDoor.PfT
/- Which trees the document calls too great: what is known of one that is not. Condition: bounds on the fuel. -/
set_option linter.unusedSimpArgs false
set_option linter.unusedVariables false
namespace Go.Proofs.YtlihkebmonfefaaDoor.PfF
open Go.RowKit Go.Proofs.YtlihkebmonfefaaDoor.PG Go.Proofs.YtlihkebmonfefaaDoor.Sets Go.Proofs.YtlihkebmonfefaaDoorW.PrintWords Go.Proofs.YtlihkebmonfefaaDoorW.PrintLast Go.Proofs.YtlihkebmonfefaaDoor.HandRight Go.Proofs.YtlihkebmonfefaaDoor.PfT
theorem rd_app (l : List Int) (v : Int) (i : Int) (h0 : 0 ≤ i) (h1 : i < (l.length : Int)) : rd (l ++ [v]) i = rd l i := by
  unfold rd
  rw [List.getD_eq_getElem?_getD, List.getD_eq_getElem?_getD, List.getElem?_append_left (by omega)]
theorem rd_last (l : List Int) (v : Int) (i : Int) (h : i = (l.length : Int)) : rd (l ++ [v]) i = v := by
  subst h
  unfold rd
  simp [List.getD_eq_getElem?_getD]
theorem far_l1 (l : List S48) (s : List (List S60)) (r : Int) (hs : s.length < 1000000) : ∀ (d j k : Nat), s.length = j + d → d < k → ∃ b, spoolref10_Far.l1 k (j : Int) l s r = some b ∧ (b = false → ∀ i : Nat, j ≤ i → i < s.length → (rd_L4 s (i : Int)).length ≤ 30) := by
  intro d
  induction d with
  | zero =>
    intro j k h hk
    obtain ⟨k, rfl⟩ : ∃ k', k = k' + 1 := ⟨k - 1, by omega⟩
    rw [spoolref10_Far.l1, if_neg (by omega)]
    exact ⟨false, rfl, fun _ i h1 h2 => by omega⟩
  | succ d ih =>
    intro j k h hk
    obtain ⟨k, rfl⟩ : ∃ k', k = k' + 1 := ⟨k - 1, by omega⟩
    rw [spoolref10_Far.l1, if_pos (by omega), if_pos (by omega)]
    by_cases c : ((rd_L4 s (j : Int)).length : Int) > 30
    · rw [if_pos c]
      exact ⟨true, rfl, fun h => by cases h⟩
    · rw [if_neg c, wj j (by omega)]
      obtain ⟨b, hb, hq⟩ := ih (j + 1) k (by omega) (by omega)
      refine ⟨b, hb, fun h i h1 h2 => ?_⟩
      by_cases e : i = j
      · subst e; omega
      · exact hq h i (by omega) h2
def Inv (l : List S48) (m : Nat) (x : List Int) (j : Nat) : Prop := x.length = j ∧ (∀ i : Int, 0 ≤ i → i < (j : Int) → 1 ≤ rd x i ∧ rd x i ≤ 3000) ∧ (RightT l m → ∀ i : Int, 0 ≤ i → i < (j : Int) → (C l i : Int) ≤ rd x i)
theorem inv_push {l : List S48} {m : Nat} {x : List Int} {j : Nat} (h : Inv l m x j) (hj : j < l.length) (v : Int) (hv : v ≤ 3000)
    (hva : v = (1 + (if 0 ≤ (rd_T48 l (j : Int)).f1 ∧ (rd_T48 l (j : Int)).f1 < (j : Int) then rd x (rd_T48 l (j : Int)).f1 else 0)) + (if 0 ≤ (rd_T48 l (j : Int)).f2 ∧ (rd_T48 l (j : Int)).f2 < (j : Int) then rd x (rd_T48 l (j : Int)).f2 else 0)) : Inv l m (x ++ [v]) (j + 1) := by
  obtain ⟨h1, h2, h3⟩ := h
  have hnn : ∀ i : Int, 0 ≤ (if 0 ≤ i ∧ i < (j : Int) then rd x i else 0) := by
    intro i
    split
    · rename_i c; have := (h2 i c.1 c.2).1; omega
    · omega
  have hA := hnn (rd_T48 l (j : Int)).f1
  have hB := hnn (rd_T48 l (j : Int)).f2
  refine ⟨by simp [h1], fun i i0 i1 => ?_, fun hr i i0 i1 => ?_⟩
  · by_cases e : i = (j : Int)
    · rw [rd_last x v i (by omega)]; omega
    · rw [rd_app x v i i0 (by omega)]; exact h2 i i0 (by omega)
  · by_cases e : i = (j : Int)
    · subst e
      rw [rd_last x v _ (by omega), C_eq l m hr (j : Int) (by omega) (by omega)]
      by_cases c3 : (rd_T48 l (j : Int)).f0 = 3 ∨ (rd_T48 l (j : Int)).f0 = 4
      · have hb := right_34 (hr (j : Int) (by omega) (by omega)) c3
        rw [if_pos c3]
        rw [if_pos hb.1, if_pos hb.2] at hva
        have q1 := h3 hr _ hb.1.1 hb.1.2
        have q2 := h3 hr _ hb.2.1 hb.2.2
        omega
      · rw [if_neg c3]
        by_cases c5 : (rd_T48 l (j : Int)).f0 = 5
        · have hb := right_5 (hr (j : Int) (by omega) (by omega)) c5
          rw [if_pos c5]
          rw [if_pos hb] at hva
          have q1 := h3 hr _ hb.1 hb.2
          omega
        · rw [if_neg c5]
          omega
    · rw [rd_app x v i i0 (by omega)]
      exact h3 hr i i0 (by omega)
theorem far_l0 (l : List S48) (s : List (List S60)) (r : Int) (m : Nat) (hl : l.length ≤ 60) (hs : s.length ≤ 60) : ∀ (d j k : Nat) (x : List Int), l.length = j + d → 4 * d + s.length + 2 < k → Inv l m x j → ∃ b, spoolref10_Far.l0 k x (j : Int) l s r = some b ∧ (b = false → (RightT l m → ∀ i : Int, 0 ≤ i → i < (l.length : Int) → (C l i : Int) ≤ 3000) ∧ ∀ i : Nat, i < s.length → (rd_L4 s (i : Int)).length ≤ 30) := by
  intro d
  induction d with
  | zero =>
    intro j k x h hk hI
    obtain ⟨k, rfl⟩ : ∃ k', k = k' + 1 := ⟨k - 1, by omega⟩
    rw [spoolref10_Far.l0, if_neg (by omega)]
    obtain ⟨b, hb, hq⟩ := far_l1 l s r (by omega) s.length 0 k (by omega) (by omega)
    refine ⟨b, hb, fun e => ⟨fun hr i i0 i1 => ?_, fun i hi => hq e i (Nat.zero_le _) hi⟩⟩
    have h1 := hI.2.2 hr i i0 (by omega)
    have h2 := (hI.2.1 i i0 (by omega)).2
    omega
  | succ d ih =>
    intro j k x h hk hI
    obtain ⟨k, rfl⟩ : ∃ k', k = k' + 1 + 1 + 1 + 1 := ⟨k - 4, by omega⟩
    obtain ⟨n0, n1, n2, n3, n4, n5, hn⟩ : ∃ n0 n1 n2 n3 n4 n5, rd_T48 l (j : Int) = ⟨n0, n1, n2, n3, n4, n5⟩ := ⟨_, _, _, _, _, _, rfl⟩
    have hx := hI.1
    have hp := fun v hv hva => inv_push (v := v) hI (by omega) hv hva
    rw [hn] at hp
    simp only at hp
    have hr1 : ∀ i : Int, 0 ≤ i → i < (j : Int) → 1 ≤ rd x i ∧ rd x i ≤ 3000 := hI.2.1
    rw [spoolref10_Far.l0, if_pos (by omega), if_pos (by omega), hn]
    simp only
    have fin : ∀ v : Int, v = (1 + (if 0 ≤ n1 ∧ n1 < (j : Int) then rd x n1 else 0)) + (if 0 ≤ n2 ∧ n2 < (j : Int) then rd x n2 else 0) → ∃ b, (if v > 3000 then some true else if x.length < 17592186044416 then spoolref10_Far.l0 k (x ++ [v]) (wrap64 ((j : Int) + 1)) l s r else none) = some b ∧ (b = false → (RightT l m → ∀ i : Int, 0 ≤ i → i < (l.length : Int) → (C l i : Int) ≤ 3000) ∧ ∀ i : Nat, i < s.length → (rd_L4 s (i : Int)).length ≤ 30) := by
      intro v hv
      by_cases c : v > 3000
      · rw [if_pos c]
        exact ⟨true, rfl, fun h => by cases h⟩
      · rw [if_neg c, if_pos (by omega), wj j (by omega)]
        exact ih (j + 1) k (x ++ [v]) (by omega) (by omega) (hp v (by omega) hv)
    have second : ∀ v : Int, v = (1 + (if 0 ≤ n1 ∧ n1 < (j : Int) then rd x n1 else 0)) → 1 ≤ v → v ≤ 3001 → ∃ b, spoolref10_Far.j3 (k + 1 + 1) x (j : Int) v l s r n0 n1 n2 n3 n4 n5 = some b ∧ (b = false → (RightT l m → ∀ i : Int, 0 ≤ i → i < (l.length : Int) → (C l i : Int) ≤ 3000) ∧ ∀ i : Nat, i < s.length → (rd_L4 s (i : Int)).length ≤ 30) := by
      intro v hv v1 v2
      rw [spoolref10_Far.j3]
      by_cases c2 : n2 ≥ 0
      · rw [if_pos c2]
        by_cases c3 : n2 < (j : Int)
        · have hq := hr1 n2 c2 c3
          rw [decide_eq_true c3, spoolref10_Far.j4, if_pos rfl, if_pos c2, if_pos (by omega), wn _ (by omega) (by omega)]
          exact fin _ (by rw [if_pos (c := 0 ≤ n2 ∧ n2 < (j : Int)) ⟨c2, c3⟩, hv])
        · rw [decide_eq_false c3, spoolref10_Far.j4, if_neg (by decide)]
          exact fin _ (by rw [if_neg (c := 0 ≤ n2 ∧ n2 < (j : Int)) (fun h => c3 h.2), hv, Int.add_zero])
      · rw [if_neg c2, spoolref10_Far.j4, if_neg (by decide)]
        exact fin _ (by rw [if_neg (c := 0 ≤ n2 ∧ n2 < (j : Int)) (fun h => c2 h.1), hv, Int.add_zero])
    by_cases c0 : n1 ≥ 0
    · rw [if_pos c0]
      by_cases c1 : n1 < (j : Int)
      · have hq := hr1 n1 c0 c1
        rw [decide_eq_true c1, spoolref10_Far.j2, if_pos rfl, if_pos c0, if_pos (by omega), wn _ (by omega) (by omega)]
        exact second _ (by rw [if_pos ⟨c0, c1⟩]) (by omega) (by omega)
      · rw [decide_eq_false c1, spoolref10_Far.j2, if_neg (by decide)]
        exact second _ (by rw [if_neg (c := 0 ≤ n1 ∧ n1 < (j : Int)) (fun h => c1 h.2), Int.add_zero]) (by omega) (by omega)
    · rw [if_neg c0, spoolref10_Far.j2, if_neg (by decide)]
      exact second _ (by rw [if_neg (c := 0 ≤ n1 ∧ n1 < (j : Int)) (fun h => c0 h.1), Int.add_zero]) (by omega) (by omega)
structure Near (l : List S48) (s : List (List S60)) : Prop where
  n : l.length ≤ 60
  m : s.length ≤ 60
  c : RightT l s.length → ∀ i : Int, 0 ≤ i → i < (l.length : Int) → (C l i : Int) ≤ 3000
  s : ∀ x, x ∈ s → x.length ≤ 30
theorem far_f (l : List S48) (s : List (List S60)) (r : Int) (k : Nat) (hk : 400 ≤ k) : ∃ b, spoolref10_Far.f k l s r = some b ∧ (b = false → Near l s) := by
  obtain ⟨k, rfl⟩ : ∃ k', k = k' + 1 := ⟨k - 1, by omega⟩
  unfold spoolref10_Far.f
  by_cases c : (l.length : Int) > 60
  · rw [if_pos c, spoolref10_Far.j0, if_pos rfl]
    exact ⟨true, rfl, fun h => by cases h⟩
  · rw [if_neg c]
    by_cases c2 : (s.length : Int) > 60
    · rw [decide_eq_true c2, spoolref10_Far.j0, if_pos rfl]
      exact ⟨true, rfl, fun h => by cases h⟩
    · rw [decide_eq_false c2, spoolref10_Far.j0, if_neg (by decide)]
      obtain ⟨b, hb, hq⟩ := far_l0 l s r s.length (by omega) (by omega) l.length 0 k [] (by omega) (by omega) ⟨rfl, fun i i0 i1 => by omega, fun _ i i0 i1 => by omega⟩
      refine ⟨b, hb, fun e => ⟨by omega, by omega, (hq e).1, fun x hx => ?_⟩⟩
      obtain ⟨i, hi, rfl⟩ := List.mem_iff_getElem.1 hx
      have := (hq e).2 i hi
      simpa [rd_L4, List.getD_eq_getElem?_getD, hi] using this
end Go.Proofs.YtlihkebmonfefaaDoor.PfF
/- What Check, and the document's, tell of a tree: the same. Conditions: bounds on lengths, and on the fuel. -/
set_option linter.unusedSimpArgs false
set_option linter.unusedVariables false
namespace Go.Proofs.YtlihkebmonfefaaDoor.PfC
open Go.RowKit Go.Proofs.YtlihkebmonfefaaDoor.PG Go.Proofs.YtlihkebmonfefaaDoor.Sets Go.Proofs.YtlihkebmonfefaaDoorW.PrintWords Go.Proofs.YtlihkebmonfefaaDoorW.PrintLast Go.Proofs.YtlihkebmonfefaaDoor.HandRight Go.Proofs.YtlihkebmonfefaaDoor.PfT Go.Proofs.YtlihkebmonfefaaDoor.PfF
theorem times_eq (lo hi : Int) : spoolref10_Times.f lo hi = arena_times.f lo hi := by
  unfold spoolref10_Times.f arena_times.f
  (repeat' split) <;> first | rfl | (exfalso; omega) | (congr 1; rw [decide_eq_decide]; omega) | (congr 1; simp; omega)
theorem times_get (lo hi : Int) : ((spoolref10_Times.f lo hi).bind fun t => some t) = some ((arena_times.f lo hi).getD false) := by
  rw [times_eq]
  obtain ⟨r, h⟩ := times_some lo hi
  rw [h]
  rfl
theorem node_f (l : List S48) (s : List (List S60)) (r i : Int) (h0 : 0 ≤ i) (h1 : i < (l.length : Int)) (k : Nat) (hk : 2 ≤ k) : spoolref10_Node.f k l s r i = some (rightN (rd_T48 l i) i (s.length : Int)) := by
  obtain ⟨k, rfl⟩ : ∃ k', k = k' + 1 + 1 := ⟨k - 2, by omega⟩
  obtain ⟨n0, n1, n2, n3, n4, n5, hn⟩ : ∃ n0 n1 n2 n3 n4 n5, rd_T48 l i = ⟨n0, n1, n2, n3, n4, n5⟩ := ⟨_, _, _, _, _, _, rfl⟩
  unfold spoolref10_Node.f
  rw [if_pos h0, if_pos h1, hn]
  simp only
  have key : ∀ b : Bool, b = decide ((0 ≤ n1 ∧ n1 < i) ∧ (0 ≤ n2 ∧ n2 < i)) → spoolref10_Node.j0 (k + 1 + 1) i b l s r n0 n1 n2 n3 n4 n5 = some (rightN ⟨n0, n1, n2, n3, n4, n5⟩ i (s.length : Int)) := by
    intro b hb
    rw [spoolref10_Node.j0]
    unfold rightN
    simp only
    by_cases c1 : n0 = 1
    · rw [if_pos c1, if_pos c1]
      (repeat' split) <;> simp_all
    rw [if_neg c1, if_neg c1]
    by_cases c2 : n0 = 2
    · rw [if_pos c2, if_pos c2]
      (repeat' split) <;> simp_all <;> intros <;> omega
    rw [if_neg c2, if_neg c2]
    have h34 : ∀ q : Bool, q = decide (n0 = 3 ∨ n0 = 4) → spoolref10_Node.j1 (k + 1) i b n0 q n0 n1 n2 n3 n4 n5 = some (if n0 = 3 ∨ n0 = 4 then (n3 == 0 && (n4 == 0 && (n5 == 0))) && (decide (0 ≤ n1 ∧ n1 < i) && decide (0 ≤ n2 ∧ n2 < i))
        else if n0 = 5 then (n2 == 0 && (n5 == 0)) && (decide (0 ≤ n1 ∧ n1 < i) && (arena_times.f n3 n4).getD false) else false) := by
      intro q hq
      rw [spoolref10_Node.j1]
      by_cases c34 : n0 = 3 ∨ n0 = 4
      · rw [hq, decide_eq_true c34, if_pos rfl, if_pos c34, hb]
        by_cases e1 : 0 ≤ n1 ∧ n1 < i <;> by_cases e2 : 0 ≤ n2 ∧ n2 < i <;> by_cases e3 : n3 = 0 <;> by_cases e4 : n4 = 0 <;> simp [e1, e2, e3, e4]
      · rw [hq, decide_eq_false c34, if_neg (by decide), if_neg c34]
        by_cases c5 : n0 = 5
        · rw [if_pos c5, if_pos c5, times_get]
          by_cases e1 : n1 ≥ 0 <;> by_cases e2 : n1 < i <;> by_cases e3 : n2 = 0 <;> by_cases e4 : n5 = 0 <;> simp [e1, e2, e3, e4] <;> intros <;> omega
        · rw [if_neg c5, if_neg c5]
    by_cases c3 : n0 = 3
    · rw [if_pos c3]
      exact h34 _ (by simp [c3])
    · rw [if_neg c3]
      exact h34 _ (by simp [c3]; rfl)
  by_cases e1 : n1 ≥ 0
  · rw [if_pos e1]
    by_cases e2 : n1 < i
    · rw [if_pos e2]
      by_cases e3 : n2 ≥ 0
      · rw [if_pos e3]
        exact key _ (by simp [e1, e2, e3])
      · rw [if_neg e3]
        exact key _ (by simp [e3])
    · rw [if_neg e2]
      exact key _ (by simp [e2])
  · rw [if_neg e1]
    exact key _ (by simp [e1])
def nodesFrom (l : List S48) (m : Nat) (j : Nat) : Prop := ∀ i : Nat, j ≤ i → i < l.length → rightN (rd_T48 l (i : Int)) (i : Int) (m : Int) = true
def setsFrom (s : List (List S60)) (j : Nat) : Prop := ∀ i : Nat, j ≤ i → i < s.length → rightL 0 (rd_L4 s (i : Int)) = true
theorem nodes_end {l : List S48} {m j : Nat} (h : l.length ≤ j) : nodesFrom l m j := fun i h1 h2 => by omega
theorem nodes_step {l : List S48} {m j : Nat} (h : j < l.length) : nodesFrom l m j ↔ rightN (rd_T48 l (j : Int)) (j : Int) (m : Int) = true ∧ nodesFrom l m (j + 1) := by
  constructor
  · exact fun hn => ⟨hn j (Nat.le_refl _) h, fun i h1 h2 => hn i (by omega) h2⟩
  · rintro ⟨h1, h2⟩ i i1 i2
    by_cases e : i = j
    · subst e; exact h1
    · exact h2 i (by omega) i2
theorem sets_end {s : List (List S60)} {j : Nat} (h : s.length ≤ j) : setsFrom s j := fun i h1 h2 => by omega
theorem sets_step {s : List (List S60)} {j : Nat} (h : j < s.length) : setsFrom s j ↔ rightL 0 (rd_L4 s (j : Int)) = true ∧ setsFrom s (j + 1) := by
  constructor
  · exact fun hn => ⟨hn j (Nat.le_refl _) h, fun i h1 h2 => hn i (by omega) h2⟩
  · rintro ⟨h1, h2⟩ i i1 i2
    by_cases e : i = j
    · subst e; exact h1
    · exact h2 i (by omega) i2
theorem a_l1 (l : List S48) (s : List (List S60)) (r : Int) (hl : l.length ≤ 60) : ∀ (d j k : Nat), l.length = j + d → d < k → ∃ e, arena_Check.l1 k (l.length : Int) (j : Int) l s r = some e ∧ (e = 0 ∨ e = 3) ∧ (e = 0 ↔ nodesFrom l s.length j) := by
  intro d
  induction d with
  | zero =>
    intro j k h hk
    obtain ⟨k, rfl⟩ : ∃ k', k = k' + 1 := ⟨k - 1, by omega⟩
    rw [arena_Check.l1, if_neg (by omega)]
    exact ⟨0, rfl, .inl rfl, fun _ => nodes_end (by omega), fun _ => rfl⟩
  | succ d ih =>
    intro j k h hk
    obtain ⟨k, rfl⟩ : ∃ k', k = k' + 1 := ⟨k - 1, by omega⟩
    rw [arena_Check.l1, if_pos (by omega)]
    have e1 : arena_right.f l s r (j : Int) = some (rightN (rd_T48 l (j : Int)) (j : Int) (s.length : Int)) := if_pos ⟨by omega, by omega⟩
    rw [e1]
    simp only [Option.bind_some]
    by_cases c : rightN (rd_T48 l (j : Int)) (j : Int) (s.length : Int) = true
    · rw [if_pos c, wj j (by omega)]
      obtain ⟨e, he, hor, hiff⟩ := ih (j + 1) k (by omega) (by omega)
      exact ⟨e, he, hor, by rw [nodes_step (by omega), hiff]; simp [c]⟩
    · rw [if_neg c]
      exact ⟨3, rfl, .inr rfl, by rw [nodes_step (by omega)]; simp [c]⟩
theorem a_l0 (l : List S48) (s : List (List S60)) (r : Int) (hl : l.length ≤ 60) (hs : s.length ≤ 60) (hss : ∀ x, x ∈ s → x.length ≤ 30) : ∀ (d j k : Nat), s.length = j + d → d + l.length + 40 < k → ∃ e, arena_Check.l0 k s (s.length : Int) (j : Int) l s r = some e ∧ (e = 0 ∨ e = 3) ∧ (e = 0 ↔ setsFrom s j ∧ nodesFrom l s.length 0) := by
  intro d
  induction d with
  | zero =>
    intro j k h hk
    obtain ⟨k, rfl⟩ : ∃ k', k = k' + 1 := ⟨k - 1, by omega⟩
    rw [arena_Check.l0, if_neg (by omega)]
    obtain ⟨e, he, hor, hiff⟩ := a_l1 l s r hl l.length 0 k (by omega) (by omega)
    exact ⟨e, he, hor, by rw [hiff]; exact ⟨fun h => ⟨sets_end (by omega), h⟩, fun h => h.2⟩⟩
  | succ d ih =>
    intro j k h hk
    obtain ⟨k, rfl⟩ : ∃ k', k = k' + 1 := ⟨k - 1, by omega⟩
    have hx : (rd_L4 s (j : Int)).length ≤ 30 := hss _ (by simp [rd_L4, List.getD_eq_getElem?_getD, show j < s.length by omega])
    rw [arena_Check.l0, if_pos (by omega), if_pos (by omega), if_pos (by omega), PfR.Right_f _ (by omega) k (by omega)]
    simp only [Option.bind_some]
    by_cases c : rightL 0 (rd_L4 s (j : Int)) = true
    · rw [if_pos c, wj j (by omega)]
      obtain ⟨e, he, hor, hiff⟩ := ih (j + 1) k (by omega) (by omega)
      exact ⟨e, he, hor, by rw [sets_step (by omega), hiff]; simp [c]⟩
    · rw [if_neg c]
      exact ⟨3, rfl, .inr rfl, by rw [sets_step (by omega)]; simp [c]⟩
def good (l : List S48) (s : List (List S60)) (r : Int) : Prop := (0 ≤ r ∧ r < (l.length : Int)) ∧ setsFrom s 0 ∧ nodesFrom l s.length 0
theorem check_a (l : List S48) (s : List (List S60)) (r : Int) (h : Near l s) (k : Nat) (hk : 500 ≤ k) : ∃ e, arena_Check.f k l s r = some e ∧ (e = 0 ∨ e = 3) ∧ (e = 0 ↔ good l s r) := by
  obtain ⟨k, rfl⟩ : ∃ k', k = k' + 1 + 1 := ⟨k - 2, by omega⟩
  have hn := h.n
  have hm := h.m
  unfold arena_Check.f
  rw [if_neg (by omega), decide_eq_false (by omega), arena_Check.j0, if_neg (by decide)]
  by_cases c0 : r < 0
  · rw [if_pos c0, arena_Check.j1, if_pos rfl]
    exact ⟨3, rfl, .inr rfl, ⟨fun q => (by cases q), fun q => (by have := q.1; omega)⟩⟩
  · rw [if_neg c0]
    by_cases c1 : r ≥ (l.length : Int)
    · rw [decide_eq_true c1, arena_Check.j1, if_pos rfl]
      exact ⟨3, rfl, .inr rfl, ⟨fun q => (by cases q), fun q => (by have := q.1; omega)⟩⟩
    · rw [decide_eq_false c1, arena_Check.j1, if_neg (by decide)]
      obtain ⟨e, he, hor, hiff⟩ := a_l0 l s r hn hm h.s s.length 0 k (by omega) (by omega)
      exact ⟨e, he, hor, by rw [hiff]; exact ⟨fun q => ⟨⟨by omega, by omega⟩, q⟩, fun q => q.2⟩⟩
theorem r_l1 (l : List S48) (s : List (List S60)) (r : Int) (hl : l.length ≤ 60) : ∀ (d j k : Nat) (ok : Bool), l.length = j + d → d + 4 < k → ∃ e, spoolref10_Check.l1 k ok (j : Int) l s r = some e ∧ (e = 0 ∨ e = 3) ∧ (e = 0 ↔ ok = true ∧ nodesFrom l s.length j) := by
  intro d
  induction d with
  | zero =>
    intro j k ok h hk
    obtain ⟨k, rfl⟩ : ∃ k', k = k' + 1 := ⟨k - 1, by omega⟩
    rw [spoolref10_Check.l1, if_neg (by omega)]
    cases ok with
    | true => exact ⟨0, rfl, .inl rfl, fun _ => ⟨rfl, nodes_end (by omega)⟩, fun _ => rfl⟩
    | false => exact ⟨3, rfl, .inr rfl, fun q => (by cases q), fun q => (by cases q.1)⟩
  | succ d ih =>
    intro j k ok h hk
    obtain ⟨k, rfl⟩ : ∃ k', k = k' + 1 := ⟨k - 1, by omega⟩
    rw [spoolref10_Check.l1, if_pos (by omega), wj j (by omega)]
    cases ok with
    | true =>
      rw [if_pos rfl, node_f l s r (j : Int) (by omega) (by omega) k (by omega)]
      simp only [Option.bind_some]
      obtain ⟨e, he, hor, hiff⟩ := ih (j + 1) k (rightN (rd_T48 l (j : Int)) (j : Int) (s.length : Int)) (by omega) (by omega)
      exact ⟨e, he, hor, by rw [nodes_step (by omega), hiff]; simp⟩
    | false =>
      rw [if_neg (by decide)]
      obtain ⟨e, he, hor, hiff⟩ := ih (j + 1) k false (by omega) (by omega)
      exact ⟨e, he, hor, by rw [hiff]; simp⟩
theorem r_l0 (l : List S48) (s : List (List S60)) (r : Int) (hl : l.length ≤ 60) (hs : s.length ≤ 60) (hss : ∀ x, x ∈ s → x.length ≤ 30) : ∀ (d j k : Nat) (ok : Bool), s.length = j + d → d + l.length + 400 < k → ∃ e, spoolref10_Check.l0 k ok (j : Int) l s r = some e ∧ (e = 0 ∨ e = 3) ∧ (e = 0 ↔ ok = true ∧ setsFrom s j ∧ nodesFrom l s.length 0) := by
  intro d
  induction d with
  | zero =>
    intro j k ok h hk
    obtain ⟨k, rfl⟩ : ∃ k', k = k' + 1 := ⟨k - 1, by omega⟩
    rw [spoolref10_Check.l0, if_neg (by omega)]
    obtain ⟨e, he, hor, hiff⟩ := r_l1 l s r hl l.length 0 k ok (by omega) (by omega)
    exact ⟨e, he, hor, by rw [hiff]; exact ⟨fun q => ⟨q.1, sets_end (by omega), q.2⟩, fun q => ⟨q.1, q.2.2⟩⟩⟩
  | succ d ih =>
    intro j k ok h hk
    obtain ⟨k, rfl⟩ : ∃ k', k = k' + 1 := ⟨k - 1, by omega⟩
    have hx : (rd_L4 s (j : Int)).length ≤ 30 := hss _ (by simp [rd_L4, List.getD_eq_getElem?_getD, show j < s.length by omega])
    rw [spoolref10_Check.l0, if_pos (by omega), wj j (by omega)]
    cases ok with
    | true =>
      rw [if_pos rfl, if_pos (by omega), PfR.RRight_f _ (by omega) k (by omega)]
      simp only [Option.bind_some]
      obtain ⟨e, he, hor, hiff⟩ := ih (j + 1) k (rightL 0 (rd_L4 s (j : Int))) (by omega) (by omega)
      exact ⟨e, he, hor, by rw [sets_step (by omega), hiff]; simp [and_assoc]⟩
    | false =>
      rw [if_neg (by decide)]
      obtain ⟨e, he, hor, hiff⟩ := ih (j + 1) k false (by omega) (by omega)
      exact ⟨e, he, hor, by rw [hiff]; simp⟩
theorem check_r (l : List S48) (s : List (List S60)) (r : Int) (h : Near l s) (k : Nat) (hk : 800 ≤ k) : ∃ e, spoolref10_Check.f k l s r = some e ∧ (e = 0 ∨ e = 3) ∧ (e = 0 ↔ good l s r) := by
  obtain ⟨k, rfl⟩ : ∃ k', k = k' + 1 + 1 := ⟨k - 2, by omega⟩
  have hn := h.n
  have hm := h.m
  unfold spoolref10_Check.f
  rw [if_neg (by omega), decide_eq_false (by omega), spoolref10_Check.j0, if_neg (by decide)]
  have fin : ∀ b : Bool, b = decide (0 ≤ r ∧ r < (l.length : Int)) → ∃ e, spoolref10_Check.j1 (k + 1) b l s r = some e ∧ (e = 0 ∨ e = 3) ∧ (e = 0 ↔ good l s r) := by
    intro b hb
    rw [spoolref10_Check.j1]
    obtain ⟨e, he, hor, hiff⟩ := r_l0 l s r hn hm h.s s.length 0 k b (by omega) (by omega)
    exact ⟨e, he, hor, by rw [hiff, hb, decide_eq_true_eq]; rfl⟩
  by_cases c0 : r ≥ 0
  · rw [if_pos c0]
    exact fin _ (by simp [c0])
  · rw [if_neg c0]
    exact fin _ (by simp [c0])
theorem good_right {l : List S48} {s : List (List S60)} {r : Int} (h : good l s r) : RightT l s.length := by
  intro i i0 i1
  have := h.2.2 i.toNat (Nat.zero_le _) (by omega)
  rwa [show ((i.toNat : Nat) : Int) = i by omega] at this
end Go.Proofs.YtlihkebmonfefaaDoor.PfC
/- What Depth and Size, and the document's, tell of a tree: the same. Conditions: bounds on lengths and sizes, and on the fuel. -/
set_option linter.unusedSimpArgs false
set_option linter.unusedVariables false
namespace Go.Proofs.YtlihkebmonfefaaDoor.PfD
open Go.RowKit Go.Proofs.YtlihkebmonfefaaDoor.PG Go.Proofs.YtlihkebmonfefaaDoor.Sets Go.Proofs.YtlihkebmonfefaaDoorW.PrintWords Go.Proofs.YtlihkebmonfefaaDoorW.PrintLast Go.Proofs.YtlihkebmonfefaaDoor.HandRight Go.Proofs.YtlihkebmonfefaaDoor.PfT Go.Proofs.YtlihkebmonfefaaDoor.PfF Go.Proofs.YtlihkebmonfefaaDoor.PfC
theorem ref_size (l : List S48) (s : List (List S60)) (r : Int) (hr : RightT l s.length) (hC : ∀ i : Int, 0 ≤ i → i < (l.length : Int) → (C l i : Int) ≤ 3000) (hl : l.length ≤ 60) (n : Nat) : ∀ (i : Int) (k : Nat), 0 ≤ i → i < (l.length : Int) → i < (n : Int) → 2 * n + 2 ≤ k → spoolref10_Size.f k l s r i = some (C l i : Int) := by
  induction n with
  | zero => intro i k _ _ h; omega
  | succ n ih =>
    intro i k h0 h1 hn hk
    obtain ⟨k, rfl⟩ : ∃ k', k = k' + 1 + 1 := ⟨k - 2, by omega⟩
    rw [spoolref10_Size.f, if_pos h0, if_pos h1]
    have key : ∀ b : Bool, b = decide ((rd_T48 l i).f0 = 3 ∨ (rd_T48 l i).f0 = 4) → spoolref10_Size.j0 (k + 1) (rd_T48 l i).f0 b l s r (rd_T48 l i).f0 (rd_T48 l i).f1 (rd_T48 l i).f2 (rd_T48 l i).f3 (rd_T48 l i).f4 (rd_T48 l i).f5 = some (C l i : Int) := by
      intro b hb
      rw [spoolref10_Size.j0, C_eq l s.length hr i h0 h1]
      by_cases h3 : (rd_T48 l i).f0 = 3 ∨ (rd_T48 l i).f0 = 4
      · have hx := right_34 (hr i h0 h1) h3
        have q1 := hC _ hx.1.1 (by omega)
        have q2 := hC _ hx.2.1 (by omega)
        rw [hb, decide_eq_true h3, if_pos rfl, if_pos h3, ih _ k hx.1.1 (by omega) (by omega) (by omega), ih _ k hx.2.1 (by omega) (by omega) (by omega)]
        simp only [Option.bind_some]
        rw [wn (1 + _) (by omega) (by omega), wn _ (by omega) (by omega)]; congr 1; omega
      · rw [hb, decide_eq_false h3, if_neg (by decide), if_neg h3]
        by_cases h5 : (rd_T48 l i).f0 = 5
        · have hx := right_5 (hr i h0 h1) h5
          have q1 := hC _ hx.1 (by omega)
          rw [if_pos h5, if_pos h5, ih _ k hx.1 (by omega) (by omega) (by omega)]
          simp only [Option.bind_some]
          rw [wn _ (by omega) (by omega)]; congr 1; omega
        · rw [if_neg h5, if_neg h5]; rfl
    by_cases c3 : (rd_T48 l i).f0 = 3
    · rw [if_pos c3]
      exact key _ (by simp [c3])
    · rw [if_neg c3]
      exact key _ (by simp [c3]; rfl)
end Go.Proofs.YtlihkebmonfefaaDoor.PfD

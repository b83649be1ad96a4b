/- Which trees the document calls too great: what is known of one that is not. Condition: bounds on the fuel. -/
import Derived.Test.YtbgoaigbkfibbaaPfT
import Derived.Test.YtbgoaigbkfibbaaPAx0
import Derived.Test.YtbgoaigbkfibbaaPAx3
set_option linter.unusedSimpArgs false
set_option linter.unusedVariables false
namespace Go.Proofs.Ytbgoaigbkfibbaa.PfF
open Go.RowKit Go.Proofs.Ytbgoaigbkfibbaa.PA Go.Proofs.Ytbgoaigbkfibbaa.Sets Go.Proofs.YtbgoaigbkfibbaaW.PrintWords Go.Proofs.YtbgoaigbkfibbaaW.PrintLast Go.Proofs.Ytbgoaigbkfibbaa.HandRight Go.Proofs.Ytbgoaigbkfibbaa.PfT
theorem rd_app (l : List Int) (v : Int) (i : Int) (h0 : 0 ≤ i) (h1 : i < (l.length : Int)) : rd (l ++ [v]) i = rd l i := by
  unfold rd
  rw [List.getD_eq_getElem?_getD, List.getD_eq_getElem?_getD, List.getElem?_append_left (by omega)]
theorem rd_last (l : List Int) (v : Int) (i : Int) (h : i = (l.length : Int)) : rd (l ++ [v]) i = v := by
  subst h
  unfold rd
  simp [List.getD_eq_getElem?_getD]
theorem far_l1 (l : List S41) (s : List (List S55)) (r : Int) (hs : s.length < 1000000) : ∀ (d j k : Nat), s.length = j + d → d < k → ∃ b, spoolref10_Far.l1 k (j : Int) l s r = some b ∧ (b = false → ∀ i : Nat, j ≤ i → i < s.length → (rd_L3 s (i : Int)).length ≤ 30) := by
  intro d
  induction d with
  | zero =>
    intro j k h hk
    obtain ⟨k, rfl⟩ : ∃ k', k = k' + 1 := ⟨k - 1, by omega⟩
    rw [spoolref10_Far.l1, if_neg (by omega)]
    exact ⟨false, rfl, fun _ i h1 h2 => by omega⟩
  | succ d ih =>
    intro j k h hk
    obtain ⟨k, rfl⟩ : ∃ k', k = k' + 1 := ⟨k - 1, by omega⟩
    rw [spoolref10_Far.l1, if_pos (by omega), if_pos (by omega)]
    by_cases c : ((rd_L3 s (j : Int)).length : Int) > 30
    · rw [if_pos c]
      exact ⟨true, rfl, fun h => by cases h⟩
    · rw [if_neg c, wj j (by omega)]
      obtain ⟨b, hb, hq⟩ := ih (j + 1) k (by omega) (by omega)
      refine ⟨b, hb, fun h i h1 h2 => ?_⟩
      by_cases e : i = j
      · subst e; omega
      · exact hq h i (by omega) h2
/-- What is known of the numbers so far. -/
def Inv (l : List S41) (m : Nat) (x : List Int) (j : Nat) : Prop := x.length = j ∧ (∀ i : Int, 0 ≤ i → i < (j : Int) → 1 ≤ rd x i ∧ rd x i ≤ 3000) ∧ (RightT l m → ∀ i : Int, 0 ≤ i → i < (j : Int) → (C l i : Int) ≤ rd x i)
theorem inv_push {l : List S41} {m : Nat} {x : List Int} {j : Nat} (h : Inv l m x j) (hj : j < l.length) (v : Int) (hv : v ≤ 3000)
    (hva : v = (1 + (if 0 ≤ (rd_T41 l (j : Int)).f1 ∧ (rd_T41 l (j : Int)).f1 < (j : Int) then rd x (rd_T41 l (j : Int)).f1 else 0)) + (if 0 ≤ (rd_T41 l (j : Int)).f2 ∧ (rd_T41 l (j : Int)).f2 < (j : Int) then rd x (rd_T41 l (j : Int)).f2 else 0)) : Inv l m (x ++ [v]) (j + 1) := by
  obtain ⟨h1, h2, h3⟩ := h
  have hnn : ∀ i : Int, 0 ≤ (if 0 ≤ i ∧ i < (j : Int) then rd x i else 0) := by
    intro i
    split
    · rename_i c; have := (h2 i c.1 c.2).1; omega
    · omega
  have hA := hnn (rd_T41 l (j : Int)).f1
  have hB := hnn (rd_T41 l (j : Int)).f2
  refine ⟨by simp [h1], fun i i0 i1 => ?_, fun hr i i0 i1 => ?_⟩
  · by_cases e : i = (j : Int)
    · rw [rd_last x v i (by omega)]; omega
    · rw [rd_app x v i i0 (by omega)]; exact h2 i i0 (by omega)
  · by_cases e : i = (j : Int)
    · subst e
      rw [rd_last x v _ (by omega), C_eq l m hr (j : Int) (by omega) (by omega)]
      by_cases c3 : (rd_T41 l (j : Int)).f0 = 3 ∨ (rd_T41 l (j : Int)).f0 = 4
      · have hb := right_34 (hr (j : Int) (by omega) (by omega)) c3
        rw [if_pos c3]
        rw [if_pos hb.1, if_pos hb.2] at hva
        have q1 := h3 hr _ hb.1.1 hb.1.2
        have q2 := h3 hr _ hb.2.1 hb.2.2
        omega
      · rw [if_neg c3]
        by_cases c5 : (rd_T41 l (j : Int)).f0 = 5
        · have hb := right_5 (hr (j : Int) (by omega) (by omega)) c5
          rw [if_pos c5]
          rw [if_pos hb] at hva
          have q1 := h3 hr _ hb.1 hb.2
          omega
        · rw [if_neg c5]
          omega
    · rw [rd_app x v i i0 (by omega)]
      exact h3 hr i i0 (by omega)
theorem far_l0 (l : List S41) (s : List (List S55)) (r : Int) (m : Nat) (hl : l.length ≤ 60) (hs : s.length ≤ 60) : ∀ (d j k : Nat) (x : List Int), l.length = j + d → 4 * d + s.length + 2 < k → Inv l m x j → ∃ b, spoolref10_Far.l0 k x (j : Int) l s r = some b ∧ (b = false → (RightT l m → ∀ i : Int, 0 ≤ i → i < (l.length : Int) → (C l i : Int) ≤ 3000) ∧ ∀ i : Nat, i < s.length → (rd_L3 s (i : Int)).length ≤ 30) := by
  intro d
  induction d with
  | zero =>
    intro j k x h hk hI
    obtain ⟨k, rfl⟩ : ∃ k', k = k' + 1 := ⟨k - 1, by omega⟩
    rw [spoolref10_Far.l0, if_neg (by omega)]
    obtain ⟨b, hb, hq⟩ := far_l1 l s r (by omega) s.length 0 k (by omega) (by omega)
    refine ⟨b, hb, fun e => ⟨fun hr i i0 i1 => ?_, fun i hi => hq e i (Nat.zero_le _) hi⟩⟩
    have h1 := hI.2.2 hr i i0 (by omega)
    have h2 := (hI.2.1 i i0 (by omega)).2
    omega
  | succ d ih =>
    intro j k x h hk hI
    obtain ⟨k, rfl⟩ : ∃ k', k = k' + 1 + 1 + 1 + 1 := ⟨k - 4, by omega⟩
    obtain ⟨n0, n1, n2, n3, n4, n5, hn⟩ : ∃ n0 n1 n2 n3 n4 n5, rd_T41 l (j : Int) = ⟨n0, n1, n2, n3, n4, n5⟩ := ⟨_, _, _, _, _, _, rfl⟩
    have hx := hI.1
    have hp := fun v hv hva => inv_push (v := v) hI (by omega) hv hva
    rw [hn] at hp
    simp only at hp
    have hr1 : ∀ i : Int, 0 ≤ i → i < (j : Int) → 1 ≤ rd x i ∧ rd x i ≤ 3000 := hI.2.1
    rw [spoolref10_Far.l0, if_pos (by omega), if_pos (by omega), hn]
    simp only
    have fin : ∀ v : Int, v = (1 + (if 0 ≤ n1 ∧ n1 < (j : Int) then rd x n1 else 0)) + (if 0 ≤ n2 ∧ n2 < (j : Int) then rd x n2 else 0) → ∃ b, (if v > 3000 then some true else if x.length < 17592186044416 then spoolref10_Far.l0 k (x ++ [v]) (wrap64 ((j : Int) + 1)) l s r else none) = some b ∧ (b = false → (RightT l m → ∀ i : Int, 0 ≤ i → i < (l.length : Int) → (C l i : Int) ≤ 3000) ∧ ∀ i : Nat, i < s.length → (rd_L3 s (i : Int)).length ≤ 30) := by
      intro v hv
      by_cases c : v > 3000
      · rw [if_pos c]
        exact ⟨true, rfl, fun h => by cases h⟩
      · rw [if_neg c, if_pos (by omega), wj j (by omega)]
        exact ih (j + 1) k (x ++ [v]) (by omega) (by omega) (hp v (by omega) hv)
    have second : ∀ v : Int, v = (1 + (if 0 ≤ n1 ∧ n1 < (j : Int) then rd x n1 else 0)) → 1 ≤ v → v ≤ 3001 → ∃ b, spoolref10_Far.j3 (k + 1 + 1) x (j : Int) v l s r n0 n1 n2 n3 n4 n5 = some b ∧ (b = false → (RightT l m → ∀ i : Int, 0 ≤ i → i < (l.length : Int) → (C l i : Int) ≤ 3000) ∧ ∀ i : Nat, i < s.length → (rd_L3 s (i : Int)).length ≤ 30) := by
      intro v hv v1 v2
      rw [spoolref10_Far.j3]
      by_cases c2 : n2 ≥ 0
      · rw [if_pos c2]
        by_cases c3 : n2 < (j : Int)
        · have hq := hr1 n2 c2 c3
          rw [decide_eq_true c3, spoolref10_Far.j4, if_pos rfl, if_pos c2, if_pos (by omega), wn _ (by omega) (by omega)]
          exact fin _ (by rw [if_pos (c := 0 ≤ n2 ∧ n2 < (j : Int)) ⟨c2, c3⟩, hv])
        · rw [decide_eq_false c3, spoolref10_Far.j4, if_neg (by decide)]
          exact fin _ (by rw [if_neg (c := 0 ≤ n2 ∧ n2 < (j : Int)) (fun h => c3 h.2), hv, Int.add_zero])
      · rw [if_neg c2, spoolref10_Far.j4, if_neg (by decide)]
        exact fin _ (by rw [if_neg (c := 0 ≤ n2 ∧ n2 < (j : Int)) (fun h => c2 h.1), hv, Int.add_zero])
    by_cases c0 : n1 ≥ 0
    · rw [if_pos c0]
      by_cases c1 : n1 < (j : Int)
      · have hq := hr1 n1 c0 c1
        rw [decide_eq_true c1, spoolref10_Far.j2, if_pos rfl, if_pos c0, if_pos (by omega), wn _ (by omega) (by omega)]
        exact second _ (by rw [if_pos ⟨c0, c1⟩]) (by omega) (by omega)
      · rw [decide_eq_false c1, spoolref10_Far.j2, if_neg (by decide)]
        exact second _ (by rw [if_neg (c := 0 ≤ n1 ∧ n1 < (j : Int)) (fun h => c1 h.2), Int.add_zero]) (by omega) (by omega)
    · rw [if_neg c0, spoolref10_Far.j2, if_neg (by decide)]
      exact second _ (by rw [if_neg (c := 0 ≤ n1 ∧ n1 < (j : Int)) (fun h => c0 h.1), Int.add_zero]) (by omega) (by omega)
/-- A tree that is not too great. -/
structure Near (l : List S41) (s : List (List S55)) : Prop where
  n : l.length ≤ 60
  m : s.length ≤ 60
  c : RightT l s.length → ∀ i : Int, 0 ≤ i → i < (l.length : Int) → (C l i : Int) ≤ 3000
  s : ∀ x, x ∈ s → x.length ≤ 30
theorem far_f (l : List S41) (s : List (List S55)) (r : Int) (k : Nat) (hk : 400 ≤ k) : ∃ b, spoolref10_Far.f k l s r = some b ∧ (b = false → Near l s) := by
  obtain ⟨k, rfl⟩ : ∃ k', k = k' + 1 := ⟨k - 1, by omega⟩
  unfold spoolref10_Far.f
  by_cases c : (l.length : Int) > 60
  · rw [if_pos c, spoolref10_Far.j0, if_pos rfl]
    exact ⟨true, rfl, fun h => by cases h⟩
  · rw [if_neg c]
    by_cases c2 : (s.length : Int) > 60
    · rw [decide_eq_true c2, spoolref10_Far.j0, if_pos rfl]
      exact ⟨true, rfl, fun h => by cases h⟩
    · rw [decide_eq_false c2, spoolref10_Far.j0, if_neg (by decide)]
      obtain ⟨b, hb, hq⟩ := far_l0 l s r s.length (by omega) (by omega) l.length 0 k [] (by omega) (by omega) ⟨rfl, fun i i0 i1 => by omega, fun _ i i0 i1 => by omega⟩
      refine ⟨b, hb, fun e => ⟨by omega, by omega, (hq e).1, fun x hx => ?_⟩⟩
      obtain ⟨i, hi, rfl⟩ := List.mem_iff_getElem.1 hx
      have := (hq e).2 i hi
      simpa [rd_L3, List.getD_eq_getElem?_getD, hi] using this
end Go.Proofs.Ytbgoaigbkfibbaa.PfF

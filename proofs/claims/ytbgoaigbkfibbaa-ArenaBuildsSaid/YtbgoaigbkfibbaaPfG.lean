/- What a builder makes: trees that may be; a tree put in is the same. Conditions: bounds on lengths, and on the fuel. -/
import Derived.Test.YtbgoaigbkfibbaaPAx0
import Derived.Test.YtbgoaigbkfibbaaPAx5
import Derived.Test.YtbgoaigbkfibbaaPAx15
import Derived.Test.YtbgoaigbkfibbaaPfD
import Derived.Test.YtbgoaigbkfibbaaHandGraft
set_option linter.unusedSimpArgs false
set_option linter.unusedVariables false
namespace Go.Proofs.Ytbgoaigbkfibbaa.PfG
open Go.RowKit Go.Proofs.Ytbgoaigbkfibbaa.PA Go.Proofs.Ytbgoaigbkfibbaa.Sets Go.Proofs.YtbgoaigbkfibbaaW.PrintWords Go.Proofs.YtbgoaigbkfibbaaW.PrintLast Go.Proofs.Ytbgoaigbkfibbaa.HandRight Go.Proofs.Ytbgoaigbkfibbaa.PfT Go.Proofs.Ytbgoaigbkfibbaa.PfF Go.Proofs.Ytbgoaigbkfibbaa.PfC Go.Proofs.Ytbgoaigbkfibbaa.HandGraft
open Go.Proofs.Ytbgoaigbkfibbaa.HandSame (treeB treeB_ok okB arena_Same.f)
/-- A tree's nodes and sets may be, and are not too many. -/
structure Fine (l : List S41) (s : List (List S55)) : Prop where
  n : l.length ≤ 4096
  m : s.length ≤ 4096
  nodes : nodesFrom l s.length 0
  sets : setsFrom s 0
  short : ∀ x, x ∈ s → x.length ≤ 30
theorem Fine.right {l : List S41} {s : List (List S55)} (h : Fine l s) : RightT l s.length := by
  intro i i0 i1
  have := h.nodes i.toNat (Nat.zero_le _) (by omega)
  rwa [show ((i.toNat : Nat) : Int) = i by omega] at this
theorem Fine.tree {l : List S41} {s : List (List S55)} (h : Fine l s) : TreeOK l s := ⟨h.n, h.right, fun x hx => by have := h.short x hx; omega⟩
theorem fine_of {l : List S41} {s : List (List S55)} {r : Int} (h : Near l s) (g : good l s r) : Fine l s := ⟨by have := h.n; omega, by have := h.m; omega, g.2.2, g.2.1, h.s⟩
/-! ### Check, at greater lengths -/
theorem a_l1' (l : List S41) (s : List (List S55)) (r : Int) (h : Fine l s) : ∀ (d j k : Nat), l.length = j + d → d < k → arena_Check.l1 k (l.length : Int) (j : Int) l s r = some 0 := by
  have hn := h.n
  intro d
  induction d with
  | zero =>
    intro j k e hk
    obtain ⟨k, rfl⟩ : ∃ k', k = k' + 1 := ⟨k - 1, by omega⟩
    rw [arena_Check.l1, if_neg (by omega)]
  | succ d ih =>
    intro j k e hk
    obtain ⟨k, rfl⟩ : ∃ k', k = k' + 1 := ⟨k - 1, by omega⟩
    rw [arena_Check.l1, if_pos (by omega)]
    have e1 : arena_right.f l s r (j : Int) = some (rightN (rd_T41 l (j : Int)) (j : Int) (s.length : Int)) := if_pos ⟨by omega, by omega⟩
    rw [e1, h.nodes j (Nat.zero_le _) (by omega)]
    simp only [Option.bind_some]
    rw [if_pos trivial, wj j (by omega)]
    exact ih (j + 1) k (by omega) (by omega)
theorem a_l0' (l : List S41) (s : List (List S55)) (r : Int) (h : Fine l s) : ∀ (d j k : Nat), s.length = j + d → d + l.length + 40 < k → arena_Check.l0 k s (s.length : Int) (j : Int) l s r = some 0 := by
  have hn := h.n
  have hm := h.m
  intro d
  induction d with
  | zero =>
    intro j k e hk
    obtain ⟨k, rfl⟩ : ∃ k', k = k' + 1 := ⟨k - 1, by omega⟩
    rw [arena_Check.l0, if_neg (by omega)]
    exact a_l1' l s r h l.length 0 k (by omega) (by omega)
  | succ d ih =>
    intro j k e hk
    obtain ⟨k, rfl⟩ : ∃ k', k = k' + 1 := ⟨k - 1, by omega⟩
    have hx : (rd_L3 s (j : Int)).length ≤ 30 := h.short _ (by simp [rd_L3, List.getD_eq_getElem?_getD, show j < s.length by omega])
    rw [arena_Check.l0, if_pos (by omega), if_pos (by omega), if_pos (by omega), PfR.Right_f _ (by omega) k (by omega), h.sets j (Nat.zero_le _) (by omega)]
    simp only [Option.bind_some]
    rw [if_pos trivial, wj j (by omega)]
    exact ih (j + 1) k (by omega) (by omega)
theorem check_a' (l : List S41) (s : List (List S55)) (r : Int) (h : Fine l s) (r0 : 0 ≤ r) (r1 : r < (l.length : Int)) (k : Nat) (hk : 8300 ≤ k) : arena_Check.f k l s r = some 0 := by
  obtain ⟨k, rfl⟩ : ∃ k', k = k' + 1 + 1 := ⟨k - 2, by omega⟩
  have hn := h.n
  have hm := h.m
  unfold arena_Check.f
  rw [if_neg (by omega), decide_eq_false (by omega), arena_Check.j0, if_neg (by decide), if_neg (by omega), decide_eq_false (by omega), arena_Check.j1, if_neg (by decide)]
  exact a_l0' l s r h s.length 0 k (by omega) (by omega)
theorem r_l1' (l : List S41) (s : List (List S55)) (r : Int) (h : Fine l s) : ∀ (d j k : Nat), l.length = j + d → d + 4 < k → spoolref10_Check.l1 k true (j : Int) l s r = some 0 := by
  have hn := h.n
  intro d
  induction d with
  | zero =>
    intro j k e hk
    obtain ⟨k, rfl⟩ : ∃ k', k = k' + 1 := ⟨k - 1, by omega⟩
    rw [spoolref10_Check.l1, if_neg (by omega), if_pos rfl]
  | succ d ih =>
    intro j k e hk
    obtain ⟨k, rfl⟩ : ∃ k', k = k' + 1 := ⟨k - 1, by omega⟩
    rw [spoolref10_Check.l1, if_pos (by omega), wj j (by omega), if_pos rfl, node_f l s r (j : Int) (by omega) (by omega) k (by omega), h.nodes j (Nat.zero_le _) (by omega)]
    simp only [Option.bind_some]
    exact ih (j + 1) k (by omega) (by omega)
theorem r_l0' (l : List S41) (s : List (List S55)) (r : Int) (h : Fine l s) : ∀ (d j k : Nat), s.length = j + d → d + l.length + 400 < k → spoolref10_Check.l0 k true (j : Int) l s r = some 0 := by
  have hn := h.n
  have hm := h.m
  intro d
  induction d with
  | zero =>
    intro j k e hk
    obtain ⟨k, rfl⟩ : ∃ k', k = k' + 1 := ⟨k - 1, by omega⟩
    rw [spoolref10_Check.l0, if_neg (by omega)]
    exact r_l1' l s r h l.length 0 k (by omega) (by omega)
  | succ d ih =>
    intro j k e hk
    obtain ⟨k, rfl⟩ : ∃ k', k = k' + 1 := ⟨k - 1, by omega⟩
    have hx : (rd_L3 s (j : Int)).length ≤ 30 := h.short _ (by simp [rd_L3, List.getD_eq_getElem?_getD, show j < s.length by omega])
    rw [spoolref10_Check.l0, if_pos (by omega), wj j (by omega), if_pos rfl, if_pos (by omega), PfR.RRight_f _ (by omega) k (by omega), h.sets j (Nat.zero_le _) (by omega)]
    simp only [Option.bind_some]
    exact ih (j + 1) k (by omega) (by omega)
theorem check_r' (l : List S41) (s : List (List S55)) (r : Int) (h : Fine l s) (r0 : 0 ≤ r) (r1 : r < (l.length : Int)) (k : Nat) (hk : 8700 ≤ k) : spoolref10_Check.f k l s r = some 0 := by
  obtain ⟨k, rfl⟩ : ∃ k', k = k' + 1 + 1 := ⟨k - 2, by omega⟩
  have hn := h.n
  have hm := h.m
  unfold spoolref10_Check.f
  rw [if_neg (by omega), decide_eq_false (by omega), spoolref10_Check.j0, if_neg (by decide), if_pos (by omega), decide_eq_true r1, spoolref10_Check.j1]
  exact r_l0' l s r h s.length 0 k (by omega) (by omega)
/-! ### nodes and sets more -/
theorem right_more {n : S41} {i m m' : Int} (h : rightN n i m = true) (hm : m ≤ m') : rightN n i m' = true := by
  unfold rightN at h ⊢
  (repeat' split at h) <;> simp_all <;> omega
theorem rd_append (l l' : List S41) (i : Nat) : rd_T41 (l ++ l') (i : Int) = if i < l.length then rd_T41 l (i : Int) else rd_T41 l' ((i - l.length : Nat) : Int) := by
  unfold rd_T41
  simp only [Int.toNat_natCast, List.getD_eq_getElem?_getD]
  split
  · rename_i h; rw [List.getElem?_append_left h]
  · rename_i h; rw [List.getElem?_append_right (by omega)]
theorem rdL_append (l l' : List (List S55)) (i : Nat) : rd_L3 (l ++ l') (i : Int) = if i < l.length then rd_L3 l (i : Int) else rd_L3 l' ((i - l.length : Nat) : Int) := by
  unfold rd_L3
  simp only [Int.toNat_natCast, List.getD_eq_getElem?_getD]
  split
  · rename_i h; rw [List.getElem?_append_left h]
  · rename_i h; rw [List.getElem?_append_right (by omega)]
/-- A node more. -/
theorem Fine.push {l : List S41} {s : List (List S55)} (h : Fine l s) (n : S41) (hl : l.length < 4096) (hn : rightN n (l.length : Int) (s.length : Int) = true) : Fine (l ++ [n]) s := by
  refine ⟨by simp; omega, h.m, ?_, h.sets, h.short⟩
  intro i _ hi
  rw [rd_append]
  simp only [List.length_append, List.length_singleton] at hi
  split
  · exact h.nodes i (Nat.zero_le _) (by omega)
  · have e : i = l.length := by omega
    subst e
    simpa [rd_T41] using hn
/-- A set, and its node, more. -/
theorem Fine.pushSet {l : List S41} {s : List (List S55)} (h : Fine l s) (x : List S55) (hl : l.length < 4096) (hs : s.length < 4096) (hx : rightL 0 x = true) (hxl : x.length ≤ 30) : Fine (l ++ [⟨2, 0, 0, 0, 0, (s.length : Int)⟩]) (s ++ [x]) := by
  refine ⟨by simp; omega, by simp; omega, ?_, ?_, ?_⟩
  · intro i _ hi
    rw [rd_append]
    simp only [List.length_append, List.length_singleton] at hi ⊢
    split
    · exact right_more (h.nodes i (Nat.zero_le _) (by omega)) (by omega)
    · have e : i = l.length := by omega
      subst e
      simp [rd_T41, rightN]
      omega
  · intro i _ hi
    rw [rdL_append]
    simp only [List.length_append, List.length_singleton] at hi
    split
    · exact h.sets i (Nat.zero_le _) (by omega)
    · have e : i = s.length := by omega
      subst e
      simpa [rd_L3] using hx
  · intro y hy
    simp only [List.mem_append, List.mem_singleton] at hy
    rcases hy with hy | rfl
    · exact h.short y hy
    · exact hxl
theorem right_shift {n : S41} {i m N M : Int} (h : rightN n i m = true) (hN : 0 ≤ N) (hM : 0 ≤ M) : rightN (shiftN N M n) (N + i) (M + m) = true := by
  unfold rightN at h
  unfold shiftN
  by_cases c1 : n.f0 = 1
  · rw [if_neg (by omega), if_neg (by omega), if_neg (by omega)]
    rw [if_pos c1] at h
    unfold rightN
    rw [if_pos c1]
    exact h
  rw [if_neg c1] at h
  by_cases c2 : n.f0 = 2
  · rw [if_pos c2] at h ⊢
    simp only [rightN, c2]
    simp_all
    omega
  rw [if_neg c2] at h ⊢
  by_cases c3 : n.f0 = 3 ∨ n.f0 = 4
  · rw [if_pos c3] at h ⊢
    simp only [rightN]
    rw [if_neg c1, if_neg c2, if_pos c3]
    simp_all
    omega
  rw [if_neg c3] at h ⊢
  by_cases c5 : n.f0 = 5
  · rw [if_pos c5] at h ⊢
    simp only [rightN]
    rw [if_neg c1, if_neg c2, if_neg c3, if_pos c5]
    simp_all
    omega
  · rw [if_neg c5] at h
    cases h
theorem rd_map (la : List S41) (f : S41 → S41) (i : Nat) (h : i < la.length) : rd_T41 (la.map f) (i : Int) = f (rd_T41 la (i : Int)) := by
  simp [rd_T41, List.getD_eq_getElem?_getD, h]
/-- A tree more. -/
theorem Fine.graft {l : List S41} {s : List (List S55)} {la : List S41} {sa : List (List S55)} (h : Fine l s) (g : Fine la sa) (hn : l.length + la.length ≤ 4096) (hm : s.length + sa.length ≤ 4096) : Fine (l ++ la.map (shiftN (l.length : Int) (s.length : Int))) (s ++ sa) := by
  refine ⟨by simp; omega, by simp; omega, ?_, ?_, ?_⟩
  · intro i _ hi
    rw [rd_append]
    simp only [List.length_append, List.length_map] at hi ⊢
    split
    · exact right_more (h.nodes i (Nat.zero_le _) (by omega)) (by omega)
    · rename_i c
      rw [rd_map la _ (i - l.length) (by omega)]
      have h1 := right_shift (N := (l.length : Int)) (M := (s.length : Int)) (g.nodes (i - l.length) (Nat.zero_le _) (by omega)) (by omega) (by omega)
      rwa [show (l.length : Int) + ((i - l.length : Nat) : Int) = (i : Int) by omega, show (s.length : Int) + (sa.length : Int) = ((s.length + sa.length : Nat) : Int) by omega] at h1
  · intro i _ hi
    rw [rdL_append]
    simp only [List.length_append] at hi
    split
    · exact h.sets i (Nat.zero_le _) (by omega)
    · exact g.sets (i - s.length) (Nat.zero_le _) (by omega)
  · intro y hy
    simp only [List.mem_append] at hy
    rcases hy with hy | hy
    · exact h.short y hy
    · exact g.short y hy
/-- A tree that was put in is the same. -/
theorem same_graft {l : List S41} {s : List (List S55)} {la : List S41} {sa : List (List S55)} (h : Fine l s) (g : Fine la sa) (hn : l.length + la.length ≤ 4096) (hm : s.length + sa.length ≤ 4096) (N : Nat) : ∀ i : Int, 0 ≤ i → i < (la.length : Int) → i < (N : Int) → T (l ++ la.map (shiftN (l.length : Int) (s.length : Int))) la (s ++ sa) sa ((l.length : Int) + i) i = true := by
  induction N with
  | zero => intro i _ _ q; omega
  | succ N ih =>
    intro i i0 i1 iN
    have hf := h.graft g hn hm
    rw [T_eq _ la _ sa hf.right _ i (by omega) (by simp; omega)]
    have e : rd_T41 (l ++ la.map (shiftN (l.length : Int) (s.length : Int))) ((l.length : Int) + i) = shiftN (l.length : Int) (s.length : Int) (rd_T41 la i) := by
      have q := rd_append l (la.map (shiftN (l.length : Int) (s.length : Int))) (l.length + i.toNat)
      rw [if_neg (by omega), show l.length + i.toNat - l.length = i.toNat by omega, rd_map la _ i.toNat (by omega)] at q
      rwa [show ((l.length + i.toNat : Nat) : Int) = (l.length : Int) + i by omega, show ((i.toNat : Nat) : Int) = i by omega] at q
    rw [e]
    have hr := g.right i i0 i1
    generalize hq : rd_T41 la i = n at hr ⊢
    have f0 : (shiftN (l.length : Int) (s.length : Int) n).f0 = n.f0 := by unfold shiftN; (repeat' split) <;> rfl
    have f3 : (shiftN (l.length : Int) (s.length : Int) n).f3 = n.f3 := by unfold shiftN; (repeat' split) <;> rfl
    have f4 : (shiftN (l.length : Int) (s.length : Int) n).f4 = n.f4 := by unfold shiftN; (repeat' split) <;> rfl
    rw [if_pos ⟨f0, f3, f4⟩, f0]
    by_cases c2 : n.f0 = 2
    · have hb := right_2 hr c2
      have f5 : (shiftN (l.length : Int) (s.length : Int) n).f5 = n.f5 + (s.length : Int) := by unfold shiftN; rw [if_pos c2]
      rw [if_pos c2, f5]
      have q := rdL_append s sa (s.length + n.f5.toNat)
      rw [if_neg (by omega), show s.length + n.f5.toNat - s.length = n.f5.toNat by omega, show ((s.length + n.f5.toNat : Nat) : Int) = n.f5 + (s.length : Int) by omega, show ((n.f5.toNat : Nat) : Int) = n.f5 by omega] at q
      rw [q, sameL_iff]
    rw [if_neg c2]
    by_cases c3 : n.f0 = 3 ∨ n.f0 = 4
    · have hb := right_34 hr c3
      have f1 : (shiftN (l.length : Int) (s.length : Int) n).f1 = n.f1 + (l.length : Int) := by unfold shiftN; rw [if_neg c2, if_pos c3]
      have f2 : (shiftN (l.length : Int) (s.length : Int) n).f2 = n.f2 + (l.length : Int) := by unfold shiftN; rw [if_neg c2, if_pos c3]
      rw [if_pos c3, f1, f2, Int.add_comm n.f1, Int.add_comm n.f2, ih n.f1 hb.1.1 (by omega) (by omega), ih n.f2 hb.2.1 (by omega) (by omega)]
      rfl
    rw [if_neg c3]
    by_cases c5 : n.f0 = 5
    · have hb := right_5 hr c5
      have f1 : (shiftN (l.length : Int) (s.length : Int) n).f1 = n.f1 + (l.length : Int) := by unfold shiftN; rw [if_neg c2, if_neg c3, if_pos c5]
      rw [if_pos c5, f1, Int.add_comm n.f1, ih n.f1 hb.1 (by omega) (by omega)]
    · rw [if_neg c5]
end Go.Proofs.Ytbgoaigbkfibbaa.PfG

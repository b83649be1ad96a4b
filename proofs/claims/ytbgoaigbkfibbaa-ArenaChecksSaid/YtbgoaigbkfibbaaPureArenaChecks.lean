/- ArenaChecks, in plain words: Check, Depth, Size and Same tell what the document's do. No condition. -/
import Derived.Test.YtbgoaigbkfibbaaPAx17
import Derived.Test.YtbgoaigbkfibbaaPfD
set_option linter.unusedSimpArgs false
set_option linter.unusedVariables false
namespace Go.Proofs.Ytbgoaigbkfibbaa.Pure
open Go.RowKit Go.Proofs.Ytbgoaigbkfibbaa.PA Go.Proofs.YtbgoaigbkfibbaaW.PrintWords Go.Proofs.YtbgoaigbkfibbaaW.PrintLast Go.Proofs.Ytbgoaigbkfibbaa.HandAlive Go.Proofs.Ytbgoaigbkfibbaa.HandSame Go.Proofs.Ytbgoaigbkfibbaa.HandSr Go.Proofs.Ytbgoaigbkfibbaa.PfT Go.Proofs.Ytbgoaigbkfibbaa.PfF Go.Proofs.Ytbgoaigbkfibbaa.PfC Go.Proofs.Ytbgoaigbkfibbaa.PfD
theorem checks_j1 (l : List S41) (s : List (List S55)) (r : Int) (l2 : List S41) (s2 : List (List S55)) (r2 : Int) (h : Near l s) (hg : good l s r) (b : Bool) (k : Nat) (hk : 700 ≤ k) (hb : arena_Same.f (k - 1) l s r l2 s2 r2 = some b) : spoollaw10_ArenaChecks.j1 k b l s r l2 s2 r2 = some true := by
  obtain ⟨k, rfl⟩ : ∃ k', k = k' + 1 := ⟨k - 1, by omega⟩
  rw [show k + 1 - 1 = k by omega] at hb
  have hn := h.n
  have hr := good_right hg
  rw [spoollaw10_ArenaChecks.j1, depth_f l s r h hg k (by omega), ref_depth l s r hr hn l.length r k hg.1.1 hg.1.2 hg.1.2 (by omega)]
  simp only [Option.bind_some]
  rw [if_pos trivial, size_f l s r h hg k (by omega), ref_size l s r hr (h.c hr) hn l.length r k hg.1.1 hg.1.2 hg.1.2 (by omega)]
  simp only [Option.bind_some]
  rw [if_pos trivial, hb]
  simp only [Option.bind_some]
  rw [if_pos (by simp)]
  rfl
theorem same_ok (l : List S41) (s : List (List S55)) (r : Int) (l2 : List S41) (s2 : List (List S55)) (r2 : Int) (h : Near l s) (h2 : Near l2 s2) (hg : good l s r) (k : Nat) (hk : 600 ≤ k) :
    (good l2 s2 r2 → arena_Same.f k l s r l2 s2 r2 = some (T l l2 s s2 r r2) ∧ spoolref10_Same.f l s r r l2 s2 r2 r2 = some (T l l2 s s2 r r2)) ∧ (¬ good l2 s2 r2 → arena_Same.f k l s r l2 s2 r2 = some false) := by
  obtain ⟨e, he, _, hiff⟩ := check_a l s r h k (by omega)
  obtain ⟨e2, he2, _, hiff2⟩ := check_a l2 s2 r2 h2 k (by omega)
  have e0 := hiff.2 hg
  subst e0
  unfold arena_Same.f
  rw [he, he2]
  simp only [Option.bind_some]
  constructor
  · intro g2
    have e0 := hiff2.2 g2
    subst e0
    have hC := h2.c (good_right g2) r2 g2.1.1 g2.1.2
    have ht := treeB_ok.2 (good_tree hg h)
    have ht2 := treeB_ok.2 (good_tree g2 h2)
    have hok : okB l s r l2 s2 r2 = true := by
      unfold okB
      rw [ht, ht2, decide_eq_true hg.1, decide_eq_true g2.1, decide_eq_true (show C l2 r2 < 1000000000 by omega)]
      rfl
    refine ⟨?_, ?_⟩
    · rw [if_pos trivial, if_pos rfl, if_pos hok]
    · unfold spoolref10_Same.f
      rw [ht, ht2, decide_eq_true hg.1, decide_eq_true g2.1]
      rfl
  · intro g2
    have e1 : e2 ≠ 0 := fun q => g2 (hiff2.1 q)
    rw [if_pos trivial, if_neg e1]
theorem ArenaChecks : spoollaw10_ArenaChecks.Pure := by
  intro a0 a1 _ _
  obtain ⟨l, s, r⟩ := a0
  obtain ⟨l2, s2, r2⟩ := a1
  simp only
  obtain ⟨b1, hb1, hn1⟩ := far_f l s r (1000 + 1) (by omega)
  obtain ⟨b2, hb2, hn2⟩ := far_f l2 s2 r2 (1000 + 1) (by omega)
  refine ⟨1000 + 1, ?_⟩
  unfold spoollaw10_ArenaChecks.f
  rw [hb1, hb2]
  simp only [Option.bind_some]
  cases b1 with
  | true => rw [if_pos rfl, spoollaw10_ArenaChecks.j0, if_pos rfl]; rfl
  | false =>
    rw [if_neg (by decide)]
    cases b2 with
    | true => rw [spoollaw10_ArenaChecks.j0, if_pos rfl]; rfl
    | false =>
      have h := hn1 rfl
      have h2 := hn2 rfl
      rw [spoollaw10_ArenaChecks.j0, if_neg (by decide)]
      obtain ⟨e, he, hor, hiff⟩ := check_r l s r h 1000 (by omega)
      obtain ⟨e2, he2, hor2, hiff2⟩ := check_r l2 s2 r2 h2 1000 (by omega)
      obtain ⟨e3, he3, hor3, hiff3⟩ := check_a l s r h 1000 (by omega)
      rw [he, he2, he3]
      simp only [Option.bind_some]
      by_cases g : good l s r
      · have z := hiff.2 g
        have z3 := hiff3.2 g
        subst z z3
        rw [if_pos rfl, if_pos rfl]
        by_cases g2 : good l2 s2 r2
        · have z2 := hiff2.2 g2
          subst z2
          rw [if_pos rfl, ((same_ok l s r l2 s2 r2 h h2 g 999 (by omega)).1 g2).2]
          simp only [Option.bind_some]
          exact checks_j1 l s r l2 s2 r2 h g _ 1000 (by omega) ((same_ok l s r l2 s2 r2 h h2 g 999 (by omega)).1 g2).1
        · have z2 : e2 ≠ 0 := fun q => g2 (hiff2.1 q)
          rw [if_neg z2]
          exact checks_j1 l s r l2 s2 r2 h g _ 1000 (by omega) ((same_ok l s r l2 s2 r2 h h2 g 999 (by omega)).2 g2)
      · have z : e ≠ 0 := fun q => g (hiff.1 q)
        have z3 : e3 ≠ 0 := fun q => g (hiff3.1 q)
        have z' : e = 3 := hor.resolve_left z
        have z3' : e3 = 3 := hor3.resolve_left z3
        subst z' z3'
        have hd : arena_Depth.f 1000 l s r = some 0 := by
          unfold arena_Depth.f arena_measure_arena_deeper.f
          rw [he3]
          rfl
        have hs : arena_Size.f 1000 l s r = some 0 := by
          unfold arena_Size.f arena_measure_arena_more.f
          rw [he3]
          rfl
        have hm : arena_Same.f 1000 l s r l2 s2 r2 = some false := by
          unfold arena_Same.f
          rw [he3]
          rfl
        rw [if_pos rfl, if_neg (by decide), hd, hs, hm]
        rfl
end Go.Proofs.Ytbgoaigbkfibbaa.Pure

/- What the functions on letters, and the document's ones, tell: each is the plain one. Conditions: bounds on lengths, and on the fuel. -/
import Derived.Test.YtfknoaokoncneabDoorPFx0
import Derived.Test.YtfknoaokoncneabDoorPFx3
import Derived.Test.YtfknoaokoncneabDoorPFx4
import Derived.Test.YtfknoaokoncneabDoorPFx5
import Derived.Test.YtfknoaokoncneabDoorPFx6
import Derived.Test.YtfknoaokoncneabDoorPFx7
import Derived.Test.YtfknoaokoncneabDoorPFx11
import Derived.Test.YtfknoaokoncneabDoorPFx13
import Derived.Test.YtfknoaokoncneabDoorHandSet
set_option linter.unusedSimpArgs false
set_option linter.unusedVariables false
namespace Go.Proofs.YtfknoaokoncneabDoor.PfF
open Go.RowKit Go.Proofs.YtfknoaokoncneabDoor.PF Go.Proofs.YtfknoaokoncneabDoor.Sets Go.Proofs.YtfknoaokoncneabDoor.PfR Go.Proofs.YtfknoaokoncneabDoor.PlF Go.Proofs.YtfknoaokoncneabDoor.HandOther Go.Proofs.YtfknoaokoncneabDoor.HandSet Go.Proofs.YtfknoaokoncneabDoor.HandOf Go.Proofs.YtfknoaokoncneabDoorW.PrintWords Go.Proofs.YtfknoaokoncneabDoorW.PrintLast
def aboveL (c : Int) : Int :=
  if (65 ≤ c ∧ c ≤ 90) ∨ (192 ≤ c ∧ c ≤ 222 ∧ c ≠ 215) ∨ (913 ≤ c ∧ c ≤ 939 ∧ c ≠ 930) ∨ (1040 ≤ c ∧ c ≤ 1071) then 32 else if 1024 ≤ c ∧ c ≤ 1039 then 80 else 0
theorem above_f (k : Nat) (hk : 0 < k) (c : Int) : spoolref06_above.f k c = some (aboveL c) := by
  obtain ⟨k, rfl⟩ : ∃ k', k = k' + 1 := ⟨k - 1, by omega⟩
  have hT : spoolref06_above.j0 (k + 1) c true = some 32 := by rw [spoolref06_above.j0, if_pos rfl]
  obtain ⟨v0, e0⟩ : ∃ v, v = (if 1024 ≤ c ∧ c ≤ 1039 then (80 : Int) else 0) := ⟨_, rfl⟩
  have hF : spoolref06_above.j0 (k + 1) c false = some v0 := by
    rw [spoolref06_above.j0, if_neg (by decide), e0]
    by_cases h1 : c ≥ 1024
    · rw [if_pos h1]
      by_cases h2 : c ≤ 1039
      · rw [if_pos h2, if_pos ⟨h1, h2⟩]
      · rw [if_neg h2, if_neg (fun h => h2 h.2)]
    · rw [if_neg h1, if_neg (fun h => h1 h.1)]
  obtain ⟨v1, e1⟩ : ∃ v, v = (if 1040 ≤ c ∧ c ≤ 1071 then (32 : Int) else v0) := ⟨_, rfl⟩
  have h1 : (if c ≥ 1040 then (spoolref06_above.j0 (k + 1) c (decide (c ≤ 1071))) else (spoolref06_above.j0 (k + 1) c false)) = some v1 := by
    rw [e1]
    by_cases h1 : c ≥ 1040
    · rw [if_pos h1]
      by_cases h2 : c ≤ 1071
      · rw [decide_eq_true h2, hT, if_pos ⟨h1, h2⟩]
      · rw [decide_eq_false h2, hF, if_neg (fun h => h2 h.2)]
    · rw [if_neg h1, hF, if_neg (fun h => h1 h.1)]
  obtain ⟨v2, e2⟩ : ∃ v, v = (if 913 ≤ c ∧ c ≤ 939 ∧ c ≠ 930 then (32 : Int) else v1) := ⟨_, rfl⟩
  have h2 : (if c ≥ 913 then (if c ≤ 939 then (if c = 930 then some v1 else some 32) else some v1) else some v1) = some v2 := by
    rw [e2]
    by_cases h1 : c ≥ 913
    · rw [if_pos h1]
      by_cases h2 : c ≤ 939
      · rw [if_pos h2]
        by_cases h3 : c = 930
        · rw [if_pos h3, if_neg (fun h => h.2.2 h3)]
        · rw [if_neg h3, if_pos ⟨h1, h2, h3⟩]
      · rw [if_neg h2, if_neg (fun h => h2 h.2.1)]
    · rw [if_neg h1, if_neg (fun h => h1 h.1)]
  obtain ⟨v3, e3⟩ : ∃ v, v = (if 192 ≤ c ∧ c ≤ 222 ∧ c ≠ 215 then (32 : Int) else v2) := ⟨_, rfl⟩
  have h3 : (if c ≥ 192 then (if c ≤ 222 then (if c = 215 then some v2 else some 32) else some v2) else some v2) = some v3 := by
    rw [e3]
    by_cases h1 : c ≥ 192
    · rw [if_pos h1]
      by_cases h2 : c ≤ 222
      · rw [if_pos h2]
        by_cases h3 : c = 215
        · rw [if_pos h3, if_neg (fun h => h.2.2 h3)]
        · rw [if_neg h3, if_pos ⟨h1, h2, h3⟩]
      · rw [if_neg h2, if_neg (fun h => h2 h.2.1)]
    · rw [if_neg h1, if_neg (fun h => h1 h.1)]
  unfold spoolref06_above.f
  rw [h1, hT, h2, h3]
  have e4 : aboveL c = if 65 ≤ c ∧ c ≤ 90 then 32 else v3 := by
    rw [e3, e2, e1, e0]
    unfold aboveL
    (repeat' split) <;> omega
  rw [e4]
  by_cases h1 : c ≥ 65
  · rw [if_pos h1]
    by_cases h2 : c ≤ 90
    · rw [if_pos h2, if_pos ⟨h1, h2⟩]
    · rw [if_neg h2, if_neg (fun h => h2 h.2)]
  · rw [if_neg h1, if_neg (fun h => h1 h.1)]
def refO (c : Int) : Int × Bool :=
  if c < 0 ∨ 2000 < c then (0, false) else if 0 < aboveL c then (c + aboveL c, true) else if aboveL (c - 32) = 32 then (c - 32, true) else if aboveL (c - 80) = 80 then (c - 80, true) else (0, false)
theorem above_le (c : Int) : 0 ≤ aboveL c ∧ aboveL c ≤ 80 := by unfold aboveL; (repeat' split) <;> omega
theorem refO_f (k : Nat) (hk : 1 < k) (c : Int) : spoolref06_Other.f k c = some (refO c) := by
  obtain ⟨k, rfl⟩ : ∃ k', k = k' + 1 := ⟨k - 1, by omega⟩
  unfold spoolref06_Other.f refO
  by_cases h1 : c < 0
  · rw [if_pos h1, if_pos (.inl h1), spoolref06_Other.j0, if_pos rfl]
  · rw [if_neg h1, spoolref06_Other.j0]
    by_cases h2 : c > 2000
    · rw [if_pos (decide_eq_true h2), if_pos (.inr h2)]
    · have ha := above_le c
      rw [if_neg (by simpa using h2), if_neg (by omega), above_f k (by omega)]
      simp only [Option.bind_some]
      by_cases h3 : aboveL c > 0
      · rw [if_pos h3, if_pos h3, wn _ (by omega) (by omega)]
      · rw [if_neg h3, if_neg h3, wn (c - 32) (by omega) (by omega), wn (c - 80) (by omega) (by omega), above_f k (by omega), above_f k (by omega)]
        simp only [Option.bind_some]
        by_cases h4 : aboveL (c - 32) = 32
        · rw [if_pos h4, if_pos h4]
        · rw [if_neg h4, if_neg h4]
          by_cases h5 : aboveL (c - 80) = 80
          · rw [if_pos h5, if_pos h5]
          · rw [if_neg h5, if_neg h5]
theorem ref_all : (List.range 2001).all (fun c => refO (c : Int) == ((otherL (c : Int)).getD 0, (otherL (c : Int)).isSome)) = true := by decide +kernel
theorem refO_eq (c : Int) : refO c = ((otherL c).getD 0, (otherL c).isSome) := by
  by_cases h : c < 0 ∨ 2000 < c
  · have hn : otherL c = none := by
      cases ho : otherL c with
      | none => rfl
      | some x => obtain ⟨_, h1, h2, _⟩ := other_pair c x ho; omega
    rw [hn, refO, if_pos h]
    rfl
  · obtain ⟨n, rfl⟩ := Int.eq_ofNat_of_zero_le (show 0 ≤ c by omega)
    exact beq_iff_eq.mp (List.all_eq_true.mp ref_all n (List.mem_range.mpr (by omega)))
theorem ROther_f (k : Nat) (hk : 1 < k) (c : Int) : spoolref06_Other.f k c = some ((otherL c).getD 0, (otherL c).isSome) := by rw [refO_f k hk, refO_eq]
/-- The small one of a pair. -/
def smallL (c : Int) : Int := match otherL c with | some x => max c x | none => c
theorem Small_f (c : Int) : fold_Small.f c = some (smallL c) := by
  unfold fold_Small.f fold_Other.f smallL
  simp only [Option.bind_some]
  cases otherL c with
  | none => rfl
  | some x => simp only [Option.isSome_some, if_true, Option.getD_some, PlF.mx_max]
theorem RSmall_f (k : Nat) (hk : 1 < k) (c : Int) : spoolref06_Small.f k c = some (smallL c) := by
  unfold spoolref06_Small.f smallL
  rw [ROther_f k hk]
  simp only [Option.bind_some]
  cases otherL c with
  | none => rfl
  | some x =>
    simp only [Option.isSome_some, if_true, Option.getD_some]
    by_cases h : x > c
    · rw [if_pos h, show max c x = x by omega]
    · rw [if_neg h, show max c x = c by omega]
theorem Set_f (l : List S33) (hl : l.length < 100000000) : fold_Set.f l = some (foldL l) := if_pos hl
/-! ### the document's set -/
theorem refAll_succ (l : List S33) (n : Nat) (o : List S33) : refAll l (n + 1) o = refStep l (refAll l n o) n := by
  unfold refAll
  rw [List.range_succ, List.foldl_append, List.foldl_cons, List.foldl_nil]
theorem RSet_l0 (l : List S33) (N M : Nat) (hN : (N : Int) = 1200) (hF : ofL (refAll l N l) = foldL l) (hR : ∀ n, n ≤ N → (refAll l n l).length ≤ 10000000 ∧ 8 * (refAll l n l).length + 100 < M) (hM : l.length < M) (hl : l.length ≤ 1000000) : ∀ (d k n : Nat), N = n + d → d + M + 10 < k → spoolref06_Set.l0 k l (refAll l n l) (n : Int) = some (foldL l) := by
  intro d
  induction d with
  | zero =>
    intro k n h hk
    obtain ⟨k, rfl⟩ : ∃ k', k = k' + 1 := ⟨k - 1, by omega⟩
    obtain rfl : n = N := by omega
    obtain ⟨r1, r2⟩ := hR n (Nat.le_refl _)
    rw [spoolref06_Set.l0, if_neg (by omega), Set0_f _ r1 k (by omega), hF]
    rfl
  | succ d ih =>
    intro k n h hk
    obtain ⟨k, rfl⟩ : ∃ k', k = k' + 1 := ⟨k - 1, by omega⟩
    have hih := ih k (n + 1) (by omega) (by omega)
    obtain ⟨r1, r2⟩ := hR n (by omega)
    rw [spoolref06_Set.l0, if_pos (by omega), ROther_f k (by omega), wj n (by omega)]
    simp only [Option.bind_some]
    rw [← hih, refAll_succ]
    unfold refStep
    cases ho : otherL (n : Int) with
    | none => rfl
    | some x =>
      simp only [Option.isSome_some, if_true, Option.getD_some]
      rw [Has_f l (n : Int) (by omega) k (by omega)]
      simp only [Option.bind_some]
      by_cases hh : hasL l (n : Int) = true
      · rw [if_pos hh, if_pos hh, if_pos (by omega)]
      · rw [if_neg hh, if_neg hh]
theorem RSet_f (l : List S33) (hl : l.length ≤ 1000000) (k : Nat) (hk : 8 * l.length + 12000 < k) : spoolref06_Set.f k l = some (foldL l) := by
  unfold spoolref06_Set.f
  rw [if_pos (by simp; omega)]
  obtain ⟨N, hN⟩ : ∃ N, N = 1200 := ⟨_, rfl⟩
  have hF := fold_ref l
  rw [← hN] at hF
  have e := RSet_l0 l N (8 * (l.length + N) + 200) (by omega) hF (fun n hn => by
    have h1 := refAll_len l n l
    constructor
    · omega
    · omega) (by omega) hl N k 0 (by omega) (by omega)
  rw [show refAll l 0 l = [] ++ l by simp [refAll]] at e
  exact e
theorem foldL_len (l : List S33) : (foldL l).length ≤ l.length * 15 := by
  have h1 := ofL_len (partsL tab_fold_rows (ofL l)).flatten
  have h2 := parts_len tab_fold_rows (ofL l)
  have h3 := ofL_len l
  rw [show tab_fold_rows.length = 7 from rfl] at h2
  rw [foldL]
  omega
/-! ### the document's example -/
theorem ex_set : foldL [⟨89, 90⟩] = [⟨89, 90⟩, ⟨121, 122⟩] := by
  refine (foldL_St _).same ⟨⟨by decide, by decide, by decide, by decide, trivial⟩, fun x hx => ?_⟩ (fun c c0 c1 => ?_)
  · simp only [List.mem_cons, List.not_mem_nil, or_false] at hx
    rcases hx with rfl | rfl <;> exact ⟨by decide, by decide, by decide⟩
  · have e89 : otherL 89 = some 121 := by decide +kernel
    have e90 : otherL 90 = some 122 := by decide +kernel
    rw [foldL_inn _ c c0 c1, inn_cons, inn_cons, inn_cons, inn_nil, or_false, or_false]
    dsimp only
    constructor
    · rintro (h | ⟨d, h1, h2⟩)
      · exact .inl h
      · rw [inn_cons, inn_nil, or_false] at h2
        dsimp only at h2
        rcases (show d = 89 ∨ d = 90 by omega) with rfl | rfl
        · rw [e89] at h1; have := Option.some.inj h1; omega
        · rw [e90] at h1; have := Option.some.inj h1; omega
    · rintro (h | h)
      · exact .inl h
      · rcases (show c = 121 ∨ c = 122 by omega) with rfl | rfl
        · exact .inr ⟨89, e89, ⟨89, 90⟩, .head _, by decide, by decide⟩
        · exact .inr ⟨90, e90, ⟨89, 90⟩, .head _, by decide, by decide⟩
theorem alive_f : spoollaw06_alive.f = some true := by
  have e65 : fold_Other.f 65 = some (97, true) := by decide +kernel
  have e215 : fold_Other.f 215 = some (0, false) := by decide +kernel
  have e1024 : fold_Small.f 1024 = some 1104 := by decide +kernel
  unfold spoollaw06_alive.f
  rw [e65, e215, Set_f _ (by simp), ex_set, e1024]
  rfl
/-! ### texts -/
def lowL (c : Int) : Int := if 65 ≤ c ∧ c ≤ 90 then c + 32 else c
theorem low_all : (List.range 256).all (fun c => fold_low.f (c : Int) == some (lowL (c : Int)) && spoolref06_low.f (c : Int) == some (lowL (c : Int))) = true := by decide +kernel
theorem low_f (c : Int) (h0 : 0 ≤ c) (h1 : c ≤ 255) : fold_low.f c = some (lowL c) ∧ spoolref06_low.f c = some (lowL c) := by
  obtain ⟨n, rfl⟩ := Int.eq_ofNat_of_zero_le h0
  have h := List.all_eq_true.mp low_all n (List.mem_range.mpr (by omega))
  rw [Bool.and_eq_true, beq_iff_eq, beq_iff_eq] at h
  exact h
theorem same_l0 (a b : ByteArray) (hab : a.size = b.size) (hs : a.size ≤ 1000000) : ∀ (d k j : Nat), a.size = j + d → d < k →
    ∃ r, fold_Same.l0 k a b (a.size : Int) (j : Int) = some r ∧ spoolref06_Same.l0 k a b (j : Int) = some r ∧ (a = b → r = true) := by
  intro d
  induction d with
  | zero =>
    intro k j h hk
    obtain ⟨k, rfl⟩ : ∃ k', k = k' + 1 := ⟨k - 1, by omega⟩
    rw [fold_Same.l0, spoolref06_Same.l0, if_neg (by omega), if_neg (by omega)]
    exact ⟨true, rfl, rfl, fun _ => rfl⟩
  | succ d ih =>
    intro k j h hk
    obtain ⟨k, rfl⟩ : ∃ k', k = k' + 1 := ⟨k - 1, by omega⟩
    obtain ⟨r, h1, h2, h3⟩ := ih k (j + 1) (by omega) (by omega)
    have ra := bt_range a (j : Int)
    have rb := bt_range b (j : Int)
    rw [fold_Same.l0, spoolref06_Same.l0, if_pos (by omega), if_pos (by omega), if_pos (by omega), if_pos (by omega), if_pos (by omega), (low_f _ ra.1 ra.2).1, (low_f _ ra.1 ra.2).2]
    simp only [Option.bind_some]
    rw [if_pos (by omega), if_pos (by omega), (low_f _ rb.1 rb.2).1, (low_f _ rb.1 rb.2).2, wj j (by omega)]
    simp only [Option.bind_some]
    by_cases e : lowL (bt a (j : Int)) = lowL (bt b (j : Int))
    · rw [if_pos e, if_pos e]
      exact ⟨r, h1, h2, h3⟩
    · rw [if_neg e, if_neg e]
      exact ⟨false, rfl, rfl, fun hab => absurd (by rw [hab]) e⟩
theorem same_f (a b : ByteArray) (hs : a.size ≤ 1000000) (k : Nat) (hk : a.size < k) : ∃ r, fold_Same.f k a b = some r ∧ spoolref06_Same.f k a b = some r ∧ (a = b → r = true) := by
  unfold fold_Same.f spoolref06_Same.f
  by_cases h : a.size = b.size
  · rw [if_pos (by omega), if_pos (by omega)]
    exact same_l0 a b h hs a.size k 0 (by omega) hk
  · rw [if_neg (by omega), if_neg (by omega)]
    exact ⟨false, rfl, rfl, fun e => absurd (by rw [e]) h⟩
end Go.Proofs.YtfknoaokoncneabDoor.PfF

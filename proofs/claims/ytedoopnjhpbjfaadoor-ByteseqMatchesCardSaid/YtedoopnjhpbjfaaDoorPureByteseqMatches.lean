/- ByteseqMatches, in plain words. -/
import Derived.Test.YtedoopnjhpbjfaaDoorPfM
import Derived.Test.YtedoopnjhpbjfaaDoorPBx0
import Derived.Test.YtedoopnjhpbjfaaDoorPBx8
set_option linter.unusedSimpArgs false
set_option linter.unusedVariables false
namespace Go.Proofs.YtedoopnjhpbjfaaDoor.Pure
open Go.RowKit Go.Proofs.YtedoopnjhpbjfaaDoor.PB Go.Proofs.YtedoopnjhpbjfaaDoorW.PrintWords Go.Proofs.YtedoopnjhpbjfaaDoorW.PrintLast Go.Proofs.YtedoopnjhpbjfaaDoor.PlE Go.Proofs.YtedoopnjhpbjfaaDoor.PlB Go.Proofs.YtedoopnjhpbjfaaDoor.PlT Go.Proofs.YtedoopnjhpbjfaaDoor.PfM Go.Proofs.YtedoopnjhpbjfaaDoor.PfR Go.Proofs.YtedoopnjhpbjfaaDoor.HandAl Go.Proofs.YtedoopnjhpbjfaaDoor.HandByOf
/-- One text: both tell the same. -/
theorem one (l : List S35) (hl : l.length ≤ 20) (s : ByteArray) (hs : s.size ≤ 1000) (K : Nat) (hK : 1200000 ≤ K) (ts : List ByteArray) (m j k : Int) (n : Nat) (hn : 1200100 ≤ n)
    (next : spoollaw08_ByteseqMatches.l0 n l ((tiles K l).map rowT) ts m (wrap64 (j + 1)) = some true) :
    spoollaw08_ByteseqMatches.j2 (n + 1) l ((tiles K l).map rowT) s (if isB l s = true then 1 else 0) ts m j = some true := by
  have hlen : ((tiles K l).map rowT).length ≤ 1000 := by rw [List.length_map]; have := tiles_len l K hK; omega
  have hm : (((tiles K l).map rowT).countP (mb s) : Int) = if isB l s = true then 1 else 0 := by
    rw [many_is l K hK s]; split <;> rfl
  rw [spoollaw08_ByteseqMatches.j2, Many_f s _ (by omega) (by omega) n (by omega), Option.bind_some, if_pos hm, Any_f s _ (by omega) (by omega) n (by omega), Option.bind_some, any_is l K hK s]
  rw [if_neg (by cases isB l s <;> decide)]
  exact next
theorem rounds (l : List S35) (hl : l.length ≤ 20) (K : Nat) (hK : 1200000 ≤ K) (ts : List ByteArray) (ht : ∀ s ∈ ts, s.size ≤ 1000) (h3 : ts.length ≤ 3) : ∀ (d n j : Nat), ts.length = j + d → 1200100 + 2 * d < n → spoollaw08_ByteseqMatches.l0 n l ((tiles K l).map rowT) ts (ts.length : Int) (j : Int) = some true := by
  intro d
  induction d with
  | zero =>
    intro n j h1 h2
    obtain ⟨n, rfl⟩ : ∃ n', n = n' + 1 := ⟨n - 1, by omega⟩
    rw [spoollaw08_ByteseqMatches.l0, if_neg (by omega), alive_f n (by omega)]
    rfl
  | succ d ih =>
    intro n j h1 h2
    obtain ⟨n, rfl⟩ : ∃ n', n = n' + 1 + 1 := ⟨n - 2, by omega⟩
    have hmem : rdOf ByteArray.empty ts (j : Int) ∈ ts := by simp [rdOf, List.getD_eq_getElem?_getD, show j < ts.length by omega]
    have hs := ht _ hmem
    have nx := ih n (j + 1) (by omega) (by omega)
    rw [← wx j (by omega)] at nx
    have o := one l hl (rdOf ByteArray.empty ts (j : Int)) hs K hK ts (ts.length : Int) (j : Int) 0 n (by omega) nx
    rw [spoollaw08_ByteseqMatches.l0, if_pos (by omega), if_pos (by omega), if_pos (by omega), Is_f l _ (by omega) (n + 1) (by omega), Option.bind_some]
    cases e : isB l (rdOf ByteArray.empty ts (j : Int)) with
    | true => rw [e, if_pos rfl] at o; rw [if_pos rfl]; exact o
    | false => rw [e, if_neg (by decide)] at o; rw [if_neg (by decide)]; exact o
theorem matches_all (l : List S35) (s : ByteArray) (c : Int) : ∀ K, 1300000 ≤ K → spoollaw08_ByteseqMatches.f K l s c = some true := by
  intro K hK
  obtain ⟨K, rfl⟩ : ∃ K', K = K' + 1 := ⟨K - 1, by omega⟩
  unfold spoollaw08_ByteseqMatches.f
  by_cases c1 : (l.length : Int) > 20
  · rw [if_pos c1, spoollaw08_ByteseqMatches.j0, if_pos rfl, alive_f K (by omega)]; rfl
  rw [if_neg c1, spoollaw08_ByteseqMatches.j0]
  by_cases c2 : (s.size : Int) > 50
  · rw [decide_eq_true c2, if_pos rfl, alive_f K (by omega)]; rfl
  rw [decide_eq_false c2, if_neg (by decide), Of_f l K (by omega) (by omega), Option.bind_some, RPut_f, Option.bind_some, Option.bind_some]
  refine rounds l (by omega) K (by omega) _ ?_ (by simp) 3 K 0 (by simp) (by omega)
  intro x hx
  simp only [List.mem_cons, List.not_mem_nil, or_false] at hx
  rcases hx with rfl | rfl | rfl
  · omega
  · have := enc_size c; have := encU_len c; omega
  · decide
theorem ByteseqMatches : spoollaw08_ByteseqMatches.Pure := by
  intro a0 a1 a2 _ _ _
  exact ⟨1300000, matches_all a0 a1 a2 _ (Nat.le_refl _)⟩
end Go.Proofs.YtedoopnjhpbjfaaDoor.Pure

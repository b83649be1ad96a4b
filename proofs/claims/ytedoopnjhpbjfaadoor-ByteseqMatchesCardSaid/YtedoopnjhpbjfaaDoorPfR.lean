/- What the document's sets of ranges tell. Conditions: bounds on lengths. -/
import Derived.Test.YtedoopnjhpbjfaaDoorPBx0
import Derived.Test.YtedoopnjhpbjfaaDoorPBx6
import Derived.Test.YtedoopnjhpbjfaaDoorPlS
import Derived.Test.YtedoopnjhpbjfaaDoorHandOf
set_option linter.unusedSimpArgs false
set_option linter.unusedVariables false
namespace Go.Proofs.YtedoopnjhpbjfaaDoor.PfR
open Go.RowKit Go.Proofs.YtedoopnjhpbjfaaDoor.PB Go.Proofs.YtedoopnjhpbjfaaDoor.Sets Go.Proofs.YtedoopnjhpbjfaaDoor.HandOf Go.Proofs.YtedoopnjhpbjfaaDoorW.PrintWords Go.Proofs.YtedoopnjhpbjfaaDoorW.PrintLast
theorem wn (x : Int) (h0 : -9223372036854775808 ≤ x) (h1 : x < 9223372036854775808) : wrap64 x = x := by unfold wrap64; omega
theorem wj (j : Nat) (h : j < 4611686018427387904) : wrap64 ((j : Int) + 1) = ((j + 1 : Nat) : Int) := by rw [wn _ (by omega) (by omega)]; omega
theorem rdG (l : List S35) (j : Nat) : rd_T35 l (j : Int) = G l j := rfl
theorem drop_nil {α : Type} (l : List α) (j : Nat) (h : l.length = j + 0) : l.drop j = [] := List.drop_of_length_le (by omega)
theorem hasL_cons (x : S35) (l : List S35) (c : Int) : hasL (x :: l) c = ((decide (0 ≤ c) && decide (c ≤ 1114111) && (decide (x.f0 ≤ c) && decide (c ≤ x.f1))) || hasL l c) := by
  unfold hasL
  rw [List.any_cons, Bool.and_or_distrib_left]
theorem Has_l0 (l : List S35) (c : Int) (hl : l.length < 4611686018427387904) : ∀ (d k j : Nat), l.length = j + d → d < k → spoolref05_Has.l0 k l c (j : Int) = some (hasL (l.drop j) c) := by
  intro d
  induction d with
  | zero =>
    intro k j h hk
    obtain ⟨k, rfl⟩ : ∃ k', k = k' + 1 := ⟨k - 1, by omega⟩
    rw [spoolref05_Has.l0, if_neg (by omega), drop_nil l j h]
    simp [hasL]
  | succ d ih =>
    intro k j h hk
    obtain ⟨k, rfl⟩ : ∃ k', k = k' + 1 := ⟨k - 1, by omega⟩
    rw [spoolref05_Has.l0, if_pos (by omega), drop_G l j (by omega), hasL_cons, rdG, wj j (by omega), ih k (j + 1) (by omega) (by omega)]
    by_cases h0 : 0 ≤ c
    · rw [if_pos h0]
      by_cases h1 : c ≤ 1114111
      · rw [if_pos h1, if_pos (by omega)]
        by_cases h2 : (G l j).f0 ≤ c
        · rw [if_pos h2]
          by_cases h3 : c ≤ (G l j).f1
          · rw [if_pos h3]; simp [h0, h1, h2, h3]
          · rw [if_neg h3]; simp [h3]
        · rw [if_neg h2]; simp [h2]
      · rw [if_neg h1]; simp [h1]
    · rw [if_neg h0]; simp [h0]
theorem Has_f (l : List S35) (c : Int) (hl : l.length < 4611686018427387904) (k : Nat) (hk : l.length < k) : spoolref05_Has.f k l c = some (hasL l c) := Has_l0 l c hl l.length k 0 (by omega) hk
theorem fillL_len (l : List S35) : ∀ p : List S35, (fillL l p).length ≤ p.length + l.length := by
  induction l with
  | nil => intro p; simp [fillL]
  | cons r l ih =>
    intro p
    rw [fillL_cons]
    split
    · have := ih (pushL p (clamp r)); rw [pushL_len] at this; rw [List.length_cons]; omega
    · have := ih p; rw [List.length_cons]; omega
theorem drain_len (k : Nat) : ∀ l o : List S35, (Sets.drain k l o).length ≤ l.length + o.length := by
  induction k with
  | zero => intro l o; show o.length ≤ _; omega
  | succ k ih =>
    intro l o
    rw [Sets.drain]
    split
    · omega
    · have h1 := ih (popL l) (mergeL o (G l 0))
      have h2 := mergeL_len o (G l 0)
      rw [popL_len] at h1
      omega
theorem ofL_len (l : List S35) : (ofL l).length ≤ l.length := by
  have h1 := drain_len (fillL l []).length (fillL l []) []
  have h2 := fillL_len l []
  simp only [List.length_nil] at h1 h2
  rw [ofL]
  omega
theorem Of_f (l : List S35) (hl : l.length < 8796093022208) : ranges_Of.f l = some (ofL l) := if_pos hl
end Go.Proofs.YtedoopnjhpbjfaaDoor.PfR

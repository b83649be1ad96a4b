/- What Not, Both and Less tell. Conditions: bounds on lengths. -/
import Derived.Test.YtedoopnjhpbjfaaDoorPBx0
import Derived.Test.YtedoopnjhpbjfaaDoorPBx2
import Derived.Test.YtedoopnjhpbjfaaDoorPBx3
import Derived.Test.YtedoopnjhpbjfaaDoorPBx4
import Derived.Test.YtedoopnjhpbjfaaDoorPfR
set_option linter.unusedSimpArgs false
set_option linter.unusedVariables false
namespace Go.Proofs.YtedoopnjhpbjfaaDoor.PfR
open Go.RowKit Go.Proofs.YtedoopnjhpbjfaaDoor.PB Go.Proofs.YtedoopnjhpbjfaaDoor.Sets Go.Proofs.YtedoopnjhpbjfaaDoor.HandOf Go.Proofs.YtedoopnjhpbjfaaDoorW.PrintWords Go.Proofs.YtedoopnjhpbjfaaDoorW.PrintLast Go.Proofs.YtedoopnjhpbjfaaDoorW.PrintMore
theorem gaps_len (l : List S35) : ∀ m : Int, (gaps m l).length = l.length + 1 := by
  induction l with
  | nil => intro m; rfl
  | cons r l ih => intro m; rw [gaps, List.length_cons, ih, List.length_cons]
theorem Not_l0 (l : List S35) (hl : l.length < 1000000000) (hok : ∀ x, x ∈ l → Ok x) : ∀ (d k j : Nat) (o : List S35) (m : Int), l.length = j + d → d < k → o.length = j → ranges_Not.l0 k o m l (l.length : Int) (j : Int) = some (ofL (o ++ gaps m (l.drop j))) := by
  intro d
  induction d with
  | zero =>
    intro k j o m h hk ho
    obtain ⟨k, rfl⟩ : ∃ k', k = k' + 1 := ⟨k - 1, by omega⟩
    rw [ranges_Not.l0, if_neg (by omega), if_pos (by omega), drop_nil l j h, gaps, Of_f _ (by first | (simp; done) | (simp; omega))]
    rfl
  | succ d ih =>
    intro k j o m h hk ho
    obtain ⟨k, rfl⟩ : ∃ k', k = k' + 1 := ⟨k - 1, by omega⟩
    obtain ⟨k1, k2, k3⟩ := hok (G l j) ((mem_G l _).mpr ⟨j, by omega, rfl⟩)
    rw [ranges_Not.l0, if_pos (by omega), if_pos (by omega), if_pos (by omega), if_pos (by omega), drop_G l j (by omega), gaps, rdG, wj j (by omega)]
    rw [wn ((G l j).f0 - 1) (by omega) (by omega), wn ((G l j).f1 + 1) (by omega) (by omega), ih k (j + 1) _ _ (by omega) (by omega) (by first | (simp; done) | (simp; omega)), List.append_assoc]
    rfl
theorem Not_f (l : List S35) (hl : l.length < 1000000000) (k : Nat) (hk : l.length < k) : ranges_Not.f k l = some (notL l) := by
  unfold ranges_Not.f
  rw [Of_f l (by omega)]
  have h := ofL_len l
  exact Not_l0 (ofL l) (by omega) (ofL_St l).2 (ofL l).length k 0 [] 0 (by omega) (by omega) rfl
theorem notL_len (l : List S35) : (notL l).length ≤ l.length + 1 := by
  have h1 := ofL_len (gaps 0 (ofL l))
  have h2 := ofL_len l
  rw [gaps_len] at h1
  rw [notL]
  omega
theorem mx_max (a b : Int) : mx a b = max a b := by unfold mx; split <;> omega
theorem mn_min (a b : Int) : mn a b = min a b := by unfold mn; split <;> omega
theorem bo_len (k : Nat) : ∀ a b : List S35, (bo k a b).length ≤ k := by
  induction k with
  | zero => intro a b; simp [bo]
  | succ k ih =>
    intro a b
    cases a with
    | nil => simp [bo]
    | cons r a =>
      cases b with
      | nil => simp [bo]
      | cons s b =>
        rw [bo, List.length_append]
        have h1 := ih a (s :: b)
        have h2 := ih (r :: a) b
        have h3 : (if (meet r s).f0 ≤ (meet r s).f1 then [meet r s] else []).length ≤ 1 := by split <;> simp
        have h4 : (if r.f1 < s.f1 then bo k a (s :: b) else bo k (r :: a) b).length ≤ k := by
          split
          · exact h1
          · exact h2
        omega
theorem Both_l0 : ∀ (d k : Nat) (a b o : List S35), a.length + b.length ≤ d → 2 * d + 2 < k → o.length + d < 8796093022208 → ranges_Both.l0 k a b o = some (o ++ bo d a b) := by
  intro d
  induction d with
  | zero =>
    intro k a b o h hk _
    obtain ⟨k, rfl⟩ : ∃ k', k = k' + 1 + 1 := ⟨k - 2, by omega⟩
    rw [ranges_Both.l0, if_neg (by omega), ranges_Both.j1, if_neg (by decide), bo, List.append_nil]
  | succ d ih =>
    intro k a b o h hk ho
    obtain ⟨k, rfl⟩ : ∃ k', k = k' + 1 + 1 := ⟨k - 2, by omega⟩
    rw [ranges_Both.l0]
    cases a with
    | nil => rw [if_neg (by simp), ranges_Both.j1, if_neg (by decide), bo, List.append_nil]
    | cons r a =>
      rw [if_pos (by first | (simp; done) | (simp; omega))]
      cases b with
      | nil => rw [decide_eq_false (by simp), ranges_Both.j1, if_neg (by decide), bo, List.append_nil]
      | cons s b =>
        have e0 : rd_T35 (r :: a) 0 = r := rfl
        have e1 : rd_T35 (s :: b) 0 = s := rfl
        simp only [List.length_cons] at h
        rw [decide_eq_true (by first | (simp; done) | (simp; omega)), ranges_Both.j1, if_pos rfl, if_pos (by first | (simp; done) | (simp; omega)), if_pos (by first | (simp; done) | (simp; omega)), e0, e1, bo]
        have hm0 : (meet r s).f0 = mx r.f0 s.f0 := (mx_max _ _).symm
        have hm1 : (meet r s).f1 = mn r.f1 s.f1 := (mn_min _ _).symm
        have hm : meet r s = ⟨mx r.f0 s.f0, mn r.f1 s.f1⟩ := by rw [← hm0, ← hm1]
        rw [hm]
        have hA : ∀ o1 : List S35, o1.length ≤ o.length + 1 → ranges_Both.l0 k ((r :: a).drop (1 : Int).toNat) (s :: b) o1 = some (o1 ++ bo d a (s :: b)) := fun o1 h1 => ih k a (s :: b) o1 (by simp only [List.length_cons]; omega) (by omega) (by omega)
        have hB : ∀ o1 : List S35, o1.length ≤ o.length + 1 → ranges_Both.l0 k (r :: a) ((s :: b).drop (1 : Int).toNat) o1 = some (o1 ++ bo d (r :: a) b) := fun o1 h1 => ih k (r :: a) b o1 (by simp only [List.length_cons]; omega) (by omega) (by omega)
        by_cases c1 : mx r.f0 s.f0 ≤ mn r.f1 s.f1
        · rw [if_pos c1, if_pos (by omega), if_pos c1]
          simp only [Option.bind_some]
          by_cases c2 : r.f1 < s.f1
          · rw [if_pos c2, if_pos (by first | (simp; done) | (simp; omega)), if_pos c2, hA _ (by simp), List.append_assoc]
          · rw [if_neg c2, if_pos (by first | (simp; done) | (simp; omega)), if_neg c2, hB _ (by simp), List.append_assoc]
        · rw [if_neg c1, if_neg c1, List.nil_append]
          by_cases c2 : r.f1 < s.f1
          · rw [if_pos c2, if_pos (by first | (simp; done) | (simp; omega)), if_pos c2, hA _ (by omega)]
          · rw [if_neg c2, if_pos (by first | (simp; done) | (simp; omega)), if_neg c2, hB _ (by omega)]
theorem Both_f (a b : List S35) (ha : a.length < 1000000000) (hb : b.length < 1000000000) (k : Nat) (hk : 2 * (a.length + b.length) + 2 < k) : ranges_Both.f k a b = some (bothL a b) := by
  unfold ranges_Both.f
  rw [Of_f a (by omega), Of_f b (by omega)]
  have h1 := ofL_len a
  have h2 := ofL_len b
  exact Both_l0 ((ofL a).length + (ofL b).length) k (ofL a) (ofL b) [] (Nat.le_refl _) (by omega) (by first | (simp; done) | (simp; omega))
theorem bothL_len (a b : List S35) : (bothL a b).length ≤ a.length + b.length := by
  have h1 := bo_len ((ofL a).length + (ofL b).length) (ofL a) (ofL b)
  have h2 := ofL_len a
  have h3 := ofL_len b
  rw [bothL]
  omega
theorem Less_f (a b : List S35) (ha : a.length < 100000000) (hb : b.length < 100000000) (k : Nat) (hk : 2 * (a.length + b.length) + 10 < k) : ranges_Less.f k a b = some (bothL a (notL b)) := by
  have h := notL_len b
  unfold ranges_Less.f
  rw [Not_f b (by omega) k (by omega)]
  simp only [Option.bind_some]
  rw [Both_f a (notL b) (by omega) (by omega) k (by omega)]
  rfl
theorem has_in (l : List S35) (c : Int) (h0 : 0 ≤ c) (h1 : c ≤ 1114111) : hasL l c = true ↔ inn l c := by rw [hasL_iff]; simp only [h0, h1, true_and]
theorem set_less (a b : List S35) : setL (holdsL 4 a b) (a ++ b) = bothL a (notL b) := by
  obtain ⟨h1, h2⟩ := setL_of 4 a b
  refine h1.same (bothL_St a _) (fun c c0 c1 => ?_)
  rw [h2, bothL_inn a _ c c0 c1, notL_inn b c c0 c1, ← has_in a c c0 c1, ← has_in b c c0 c1]
  show (hasL a c && !hasL b c) = true ∧ _ ↔ _
  cases hasL a c <;> cases hasL b c <;> simp [c0, c1]
end Go.Proofs.YtedoopnjhpbjfaaDoor.PfR

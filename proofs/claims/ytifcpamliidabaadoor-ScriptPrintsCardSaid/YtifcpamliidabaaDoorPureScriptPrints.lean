/- ScriptPrints, over plain functions: whether items may be told, and their lines, are the reference's; what is not hidden stays, in order. No condition beyond the statement's own. -/
import Derived.Test.YtifcpamliidabaaDoorPSx27
import Derived.Test.YtifcpamliidabaaDoorPfX
import Derived.Test.YtifcpamliidabaaDoorPfA
set_option linter.unusedSimpArgs false
set_option linter.unusedVariables false
namespace Go.Proofs.YtifcpamliidabaaDoor.Pure
open Go.RowKit Go.Proofs.YtifcpamliidabaaDoor.PS Go.Proofs.YtifcpamliidabaaDoorW.PrintWords Go.Proofs.YtifcpamliidabaaDoorW.PrintLast Go.Proofs.YtifcpamliidabaaDoor.PlD Go.Proofs.YtifcpamliidabaaDoor.PfA Go.Proofs.YtifcpamliidabaaDoor.PfV Go.Proofs.YtifcpamliidabaaDoor.PfX
theorem same_l0 (a : List S51) (ha : a.length ≤ 1000000000) (d : Nat) : ∀ (K j : Nat), a.length - j ≤ d → j ≤ a.length → d < K → spoolref48_Same.l0 K a a (j : Int) = some true := by
  induction d with
  | zero =>
    intro K j hd hj hK
    obtain ⟨k, rfl⟩ : ∃ m, K = m + 1 := ⟨K - 1, by omega⟩
    simp only [spoolref48_Same.l0]
    rw [if_neg (by omega)]
  | succ d ih =>
    intro K j hd hj hK
    obtain ⟨k, rfl⟩ : ∃ m, K = m + 1 := ⟨K - 1, by omega⟩
    simp only [spoolref48_Same.l0]
    by_cases hlt : j < a.length
    · rw [if_pos (by omega), if_pos (by omega), if_pos (by omega), if_neg (by simp), PlD.wrap_in (by omega) (by omega)]
      exact ih k (j + 1) (by omega) (by omega) (by omega)
    · rw [if_neg (by omega)]
theorem same_f (a : List S51) (ha : a.length ≤ 1000000000) (K : Nat) (hK : a.length + 1 ≤ K) : spoolref48_Same.f K a a = some true := by
  unfold spoolref48_Same.f
  rw [if_pos rfl]
  exact same_l0 a ha a.length K 0 (by omega) (by omega) (by omega)
theorem shown_l0 (l : List S51) (hl : l.length ≤ 1000000) (d : Nat) : ∀ (K j : Nat) (acc : List S51), l.length - j ≤ d → j ≤ l.length → acc.length ≤ j → d < K →
    ∃ r, script_Shown.l0 K acc l (l.length : Int) (j : Int) = some r ∧ spoolref48_Shown.l0 K l acc (j : Int) = some r ∧ r.length ≤ l.length := by
  induction d with
  | zero =>
    intro K j acc hd hj ha hK
    obtain ⟨k, rfl⟩ : ∃ m, K = m + 1 := ⟨K - 1, by omega⟩
    simp only [script_Shown.l0, spoolref48_Shown.l0]
    rw [if_neg (by omega), if_neg (by omega)]
    exact ⟨_, rfl, rfl, by omega⟩
  | succ d ih =>
    intro K j acc hd hj ha hK
    obtain ⟨k, rfl⟩ : ∃ m, K = m + 1 := ⟨K - 1, by omega⟩
    simp only [script_Shown.l0, spoolref48_Shown.l0]
    by_cases hlt : j < l.length
    · rw [if_pos (show (j : Int) < (l.length : Int) by omega), if_pos (show (0 : Int) ≤ (j : Int) by omega), if_pos (show (j : Int) < (l.length : Int) by omega), if_pos (show (j : Int) < (l.length : Int) by omega), if_pos (show (0 : Int) ≤ (j : Int) by omega), PlD.wrap_in (by omega) (by omega)]
      by_cases h4 : (rd_T51 l (j : Int)).f0 = 4
      · rw [if_pos h4, if_pos h4]
        exact ih k (j + 1) acc (by omega) (by omega) (by omega) (by omega)
      · rw [if_neg h4, if_neg h4]
        by_cases h5 : (rd_T51 l (j : Int)).f0 = 5
        · rw [if_pos h5, if_pos h5]
          exact ih k (j + 1) acc (by omega) (by omega) (by omega) (by omega)
        · rw [if_neg h5, if_neg h5, if_pos (show acc.length < 2932031007402 by omega), if_pos (show acc.length < 2932031007402 by omega)]
          exact ih k (j + 1) _ (by omega) (by omega) (by rw [List.length_append, List.length_singleton]; omega) (by omega)
    · rw [if_neg (by omega), if_neg (by omega)]
      exact ⟨_, rfl, rfl, by omega⟩
theorem loop (l : List S51) (hl : l.length ≤ 1000000) (B d : Nat) (hB : 20 ≤ B) : ∀ (K j : Nat) (g : Bool), l.length - j ≤ d → j ≤ l.length → 2 * d + B + 1 ≤ K →
    ∃ k, B ≤ k ∧ spoollaw48_ScriptPrints.l0 K l g l (l.length : Int) (j : Int) = spoollaw48_ScriptPrints.l0 (k + 1) l (g && (l.drop j).all rightX) l (l.length : Int) (l.length : Int) := by
  induction d with
  | zero =>
    intro K j g hd hj hK
    refine ⟨K - 1, by omega, ?_⟩
    rw [show K - 1 + 1 = K by omega, List.drop_of_length_le (by omega), List.all_nil, Bool.and_true, show j = l.length by omega]
  | succ d ih =>
    intro K j g hd hj hK
    by_cases hlt : j < l.length
    · obtain ⟨k, rfl⟩ : ∃ m, K = (m + 1) + 1 := ⟨K - 2, by omega⟩
      have hRR : ∀ m, 6 ≤ m → spoolref48_Right.f m (rd_T51 l (j : Int)).f0 (rd_T51 l (j : Int)).f1 (rd_T51 l (j : Int)).f2.f0 (rd_T51 l (j : Int)).f2.f1 (rd_T51 l (j : Int)).f2.f2 = some (rightX l[j]) := fun m hm => by rw [rd_at l j hlt]; exact rRight_f _ _ _ _ _ m hm
      have hR : ∀ m, 4 ≤ m → script_Right.f m (rd_T51 l (j : Int)).f0 (rd_T51 l (j : Int)).f1 (rd_T51 l (j : Int)).f2.f0 (rd_T51 l (j : Int)).f2.f1 (rd_T51 l (j : Int)).f2.f2 = some (rightX l[j]) := fun m hm => by rw [rd_at l j hlt]; exact Right_f _ _ _ _ _ m hm
      have hj1 : ∀ g', spoollaw48_ScriptPrints.j1 (k + 1) l g' l (l.length : Int) (j : Int) (rd_T51 l (j : Int)).f0 (rd_T51 l (j : Int)).f1 (rd_T51 l (j : Int)).f2.f0 (rd_T51 l (j : Int)).f2.f1 (rd_T51 l (j : Int)).f2.f2 = spoollaw48_ScriptPrints.l0 k l g' l (l.length : Int) ((j + 1 : Nat) : Int) := by
        intro g'
        unfold spoollaw48_ScriptPrints.j1
        rw [hR k (by omega), hRR k (by omega), Option.bind_some, Option.bind_some, if_neg (by simp), PlD.wrap_in (by omega) (by omega)]
        rfl
      have e : spoollaw48_ScriptPrints.l0 (k + 1 + 1) l g l (l.length : Int) (j : Int) = spoollaw48_ScriptPrints.l0 k l (g && rightX l[j]) l (l.length : Int) ((j + 1 : Nat) : Int) := by
        conv => lhs; unfold spoollaw48_ScriptPrints.l0
        rw [if_pos (by omega), if_pos (by omega), if_pos (by omega)]
        cases g with
        | true => rw [if_pos rfl, hRR (k + 1) (by omega), Option.bind_some, hj1, Bool.true_and]
        | false => rw [if_neg Bool.false_ne_true, hj1, Bool.false_and]
      obtain ⟨k', g1, g2⟩ := ih k (j + 1) (g && rightX l[j]) (by omega) (by omega) (by omega)
      refine ⟨k', g1, ?_⟩
      rw [e, g2, List.drop_eq_getElem_cons hlt, List.all_cons, Bool.and_assoc]
    · refine ⟨K - 1, by omega, ?_⟩
      rw [show K - 1 + 1 = K by omega, List.drop_of_length_le (by omega), List.all_nil, Bool.and_true, show j = l.length by omega]
theorem last (l : List S51) (h160 : l.length ≤ 160) (hdat : dat l ≤ 200) (k : Nat) (hk : 150000 ≤ k) : spoollaw48_ScriptPrints.l0 (k + 1) l (l.all rightX) l (l.length : Int) (l.length : Int) = some true := by
  unfold spoollaw48_ScriptPrints.l0
  rw [if_neg (by omega)]
  cases hg : l.all rightX with
  | false =>
    have hex : ∃ x ∈ l, rightX x = false := by
      rw [List.all_eq_false] at hg
      obtain ⟨x, hx, hn⟩ := hg
      exact ⟨x, hx, by simpa using hn⟩
    rw [Print_no l (by omega) hex k (by omega), Option.bind_some]
    simp only
    rw [if_neg Bool.false_ne_true, if_pos trivial, if_pos (L_nil.2 rfl), alive_f k (by omega)]
    rfl
  | true =>
    have hall : ∀ x ∈ l, rightX x = true := List.all_eq_true.1 hg
    have hsz : ∀ x ∈ l, x.f2.f2.size ≤ 65536 := fun x hx => by have := dat_mem l x hx; omega
    have hlen := lin_len l hall
    obtain ⟨r, e1, e2⟩ := rPrint_f l (by omega) hall hsz (by omega) k (by omega)
    obtain ⟨s, f1, f2, f3⟩ := shown_l0 l (by omega) l.length k 0 [] (by omega) (by omega) (by simp) (by omega)
    have f1' : script_Shown.f k l = some s := f1
    have f2' : spoolref48_Shown.f k l = some s := f2
    rw [Print_f l (by omega) hall hsz (by omega) k (by omega), Option.bind_some, e1, f1', f2']
    simp only [Option.bind_some]
    rw [if_pos trivial, if_pos trivial, if_pos (L_inj.2 (by rw [e2, L_nums _ (lin_byte l)])), same_f s (by omega) k (by omega), Option.bind_some, if_pos rfl, alive_f k (by omega)]
    rfl
theorem ScriptPrints : spoollaw48_ScriptPrints.Pure := by
  intro l hl
  refine ⟨200000, ?_⟩
  unfold spoollaw48_ScriptPrints.f
  obtain ⟨b, g1, g2⟩ := Far_f l (by omega) 200000 (by omega)
  rw [g1, Option.bind_some]
  cases b with
  | true =>
    rw [if_pos rfl, alive_f 200000 (by omega)]
    rfl
  | false =>
    obtain ⟨h160, hdat⟩ := g2 rfl
    rw [if_neg Bool.false_ne_true]
    obtain ⟨k, h1, h2⟩ := loop l (by omega) 150000 l.length (by omega) 200000 0 true (by omega) (by omega) (by omega)
    rw [List.drop_zero, Bool.true_and] at h2
    exact h2.trans (last l h160 hdat k h1)
end Go.Proofs.YtifcpamliidabaaDoor.Pure

/- ScriptOps, over plain functions: any line's operation is read alike by the program and by the reference; an operation's words are told alike, and are read back. No condition beyond the statement's own. -/
import Derived.Test.YtifcpamliidabaaDoorPSx24
import Derived.Test.YtifcpamliidabaaDoorPfR
set_option linter.unusedSimpArgs false
set_option linter.unusedVariables false
namespace Go.Proofs.YtifcpamliidabaaDoor.Pure
open Go.RowKit Go.Proofs.YtifcpamliidabaaDoor.PS Go.Proofs.YtifcpamliidabaaDoorW.PrintWords Go.Proofs.YtifcpamliidabaaDoorW.PrintLast Go.Proofs.YtifcpamliidabaaDoor.PlD Go.Proofs.YtifcpamliidabaaDoor.PfD Go.Proofs.YtifcpamliidabaaDoor.PfU Go.Proofs.YtifcpamliidabaaDoor.PfA Go.Proofs.YtifcpamliidabaaDoor.PfO Go.Proofs.YtifcpamliidabaaDoor.PfQ Go.Proofs.YtifcpamliidabaaDoor.PfR Go.Proofs.YtifcpamliidabaaDoor.HandOpM Go.Proofs.YtifcpamliidabaaDoor.HandOp
theorem op_ref (K : Nat) (s : ByteArray) (i k' n' to' E A : Int) (d' : ByteArray) (h : spoolref48_Op.f K s i = some (k', n', d', to', E, A)) : (E ≠ 0 → k' = 0 ∧ n' = 0 ∧ d' = ⟨#[]⟩ ∧ to' = 0) ∧ (E = 0 → A = 0) := by
  have bad : ∀ (x y : Int), x ≠ 0 → some ((0 : Int), (0 : Int), (⟨#[]⟩ : ByteArray), (0 : Int), x, y) = some (k', n', d', to', E, A) → (E ≠ 0 → k' = 0 ∧ n' = 0 ∧ d' = ⟨#[]⟩ ∧ to' = 0) ∧ (E = 0 → A = 0) := by
    intro x y hx e
    simp only [Option.some.injEq, Prod.mk.injEq] at e
    obtain ⟨rfl, rfl, rfl, rfl, rfl, rfl⟩ := e
    exact ⟨fun _ => ⟨rfl, rfl, rfl, rfl⟩, fun e => absurd e hx⟩
  have good : ∀ (a b c : Int) (d : ByteArray), some (a, b, d, c, (0 : Int), (0 : Int)) = some (k', n', d', to', E, A) → (E ≠ 0 → k' = 0 ∧ n' = 0 ∧ d' = ⟨#[]⟩ ∧ to' = 0) ∧ (E = 0 → A = 0) := by
    intro a b c d e
    simp only [Option.some.injEq, Prod.mk.injEq] at e
    obtain ⟨rfl, rfl, rfl, rfl, rfl, rfl⟩ := e
    exact ⟨fun e => absurd rfl e, fun _ => rfl⟩
  unfold spoolref48_Op.f at h
  obtain ⟨b, _, h⟩ := Option.bind_eq_some_iff.mp h
  by_cases c1 : 0 ≤ b.1
  · rw [if_pos c1] at h
    by_cases c2 : b.1 ≤ b.2
    · rw [if_pos c2] at h
      by_cases c3 : b.2 ≤ (s.size : Int)
      · rw [if_pos c3] at h
        obtain ⟨q, _, h⟩ := Option.bind_eq_some_iff.mp h
        by_cases q0 : q = 0
        · rw [if_pos q0] at h
          exact bad _ _ (by decide) h
        · rw [if_neg q0] at h
          by_cases q1 : q = 1
          · rw [if_pos q1] at h
            obtain ⟨x, _, h⟩ := Option.bind_eq_some_iff.mp h
            obtain ⟨u, _, h⟩ := Option.bind_eq_some_iff.mp h
            by_cases v : u.2.2 ≥ 0
            · rw [if_pos v] at h
              exact bad _ _ (by decide) h
            · rw [if_neg v] at h
              exact good _ _ _ _ h
          · rw [if_neg q1] at h
            obtain ⟨nb, _, h⟩ := Option.bind_eq_some_iff.mp h
            by_cases v : nb = true
            · rw [if_pos v] at h
              obtain ⟨m, _, h⟩ := Option.bind_eq_some_iff.mp h
              by_cases e : m.2.2.1 = 0
              · rw [if_pos e] at h
                exact good _ _ _ _ h
              · rw [if_neg e] at h
                exact bad _ _ e h
            · rw [if_neg v] at h
              exact good _ _ _ _ h
      · rw [if_neg c3] at h
        cases h
    · rw [if_neg c2] at h
      cases h
  · rw [if_neg c1] at h
    cases h
theorem op_same (s : ByteArray) (hs : s.size ≤ 200) (i : Nat) (hi : i ≤ s.size) (K : Nat) (hK : 2000 ≤ K) : ∃ k n d t E A, script_Op.f K s (i : Int) = some (k, n, d, t, E, A) ∧ spoolref48_Op.f K s (i : Int) = some (k, n, d, t, E, A) := by
  obtain ⟨k, n, k', n', to', E, A, d, d', t, u1, u2, u3, u4, u5, u6⟩ := op_eq s (by omega) i hi K K (by omega) (by omega) 0 0
  obtain ⟨v1, v2⟩ := op_ref K s _ _ _ _ _ _ _ u1
  refine ⟨k', n', d', to', E, A, ?_, u1⟩
  unfold script_Op.f
  rw [show mn (mx (i : Int) 0) (s.size : Int) = (i : Int) by unfold mn mx; repeat' split <;> omega, u2, Option.bind_some]
  simp only
  by_cases hE : E = 0
  · obtain ⟨g1, g2, g3, g4⟩ := u4 hE
    rw [hE, merge_none, if_pos rfl, g1, g2, g3, g4, v2 hE]
  · obtain ⟨g1, g2, g3, g4⟩ := v1 hE
    have hm : merge 0 0 E A = (E, A) := by unfold merge; rw [if_pos rfl, if_neg hE]
    rw [hm, if_neg hE, g1, g2, g3, g4]
theorem ops_j1 (k n : Int) (d : ByteArray) (hd : d.size ≤ 60) (K : Nat) (hK : 9000 ≤ K) : spoollaw48_ScriptOps.j1 K false k n d = some true := by
  obtain ⟨m, rfl⟩ : ∃ m, K = m + 1 := ⟨K - 1, by omega⟩
  simp only [spoollaw48_ScriptOps.j1]
  rw [if_neg Bool.false_ne_true, told_f k n d m (by omega), alive_f m (by omega)]
  cases h : told k n d with
  | false =>
    rw [OpText_no k n d h m (by omega)]
    simp only [Option.bind_some]
    rw [if_neg (show ¬ ((false != false) = true) by decide), if_neg Bool.false_ne_true, if_pos (L_nil.2 rfl)]
  | true =>
    obtain ⟨r, e1, e2⟩ := OpText_f k n d (by omega) h m (by omega)
    obtain ⟨r2, f1, f2⟩ := Text_r k n d (by omega) h m (by omega)
    have hz : r.size ≤ 1000 := by
      rw [← L_len, e2]
      have q := quote_size d
      unfold told at h
      simp only [Bool.and_eq_true, decide_eq_true_eq] at h
      have z := name_size k h.1.1 h.1.2
      have zz : (nameL k).length ≤ 8 := by unfold nameL; rw [L_len]; exact z.1
      have z1 : (nameL 1).length ≤ 8 := by decide +kernel
      unfold opL
      split
      · simp only [List.length_append, List.length_cons]; omega
      · split
        · rename_i hn
          have h2 := h.2
          rw [hn] at h2
          simp only [if_true, Bool.and_eq_true, decide_eq_true_eq] at h2
          have := textN_len 18 n.toNat (by have : n.toNat ≤ 999999999 := by omega
                                           exact Nat.lt_of_le_of_lt this (by decide))
          simp only [List.length_append, List.length_cons]; omega
        · omega
    have s1 : ((⟨#[32, 32]⟩ : ByteArray) ++ r).size = 2 + r.size := by rw [ByteArray.size_append]; rfl
    have s2 : ((⟨#[32, 32]⟩ : ByteArray) ++ r ++ (⟨#[32, 109, 111, 114, 101]⟩ : ByteArray)).size = r.size + 7 := by rw [ByteArray.size_append, s1, show (⟨#[32, 109, 111, 114, 101]⟩ : ByteArray).size = 5 from rfl]; omega
    have hL : L ((⟨#[32, 32]⟩ : ByteArray) ++ r ++ (⟨#[32, 109, 111, 114, 101]⟩ : ByteArray)) = [32] ++ 32 :: (opL k n d ++ 32 :: [109, 111, 114, 101]) := by
      rw [L_append, L_append, e2]
      simp [L]
    have hb := op_back _ [32] [109, 111, 114, 101] k n d h 1 rfl hL (by rw [s2]; omega) m (by rw [s2]; omega)
    have hop : script_Op.f m ((⟨#[32, 32]⟩ : ByteArray) ++ r ++ (⟨#[32, 109, 111, 114, 101]⟩ : ByteArray)) 1 = some (k, n, d, ((r.size + 2 : Nat) : Int), 0, 0) := by
      unfold script_Op.f
      rw [show mn (mx (1 : Int) 0) ((((⟨#[32, 32]⟩ : ByteArray) ++ r ++ (⟨#[32, 109, 111, 114, 101]⟩ : ByteArray)).size : Nat) : Int) = ((1 : Nat) : Int) by rw [s2]; unfold mn mx; repeat' split <;> omega, hb, Option.bind_some]
      simp only
      rw [if_pos trivial, ← e2, L_len, show 1 + 1 + r.size = r.size + 2 by omega]
    rw [e1, f1]
    simp only [Option.bind_some]
    rw [if_neg (by decide), if_pos trivial, if_pos (by omega), s1, if_pos (by omega), hop]
    simp only [Option.bind_some]
    rw [if_pos (L_inj.2 (by rw [e2, f2])), if_pos trivial, if_pos (by simp), PlD.wrap_in (by omega) (by omega), if_pos (by omega)]
theorem ScriptOps_K (s : ByteArray) (a : Int) (h0 : 0 ≤ a) (h1 : a < 256) (k n : Int) (d : ByteArray) : ∀ K, 9100 ≤ K → spoollaw48_ScriptOps.f K s a k n d = some true := by
  intro K hK
  obtain ⟨m, rfl⟩ : ∃ m, K = m + 1 := ⟨K - 1, by omega⟩
  unfold spoollaw48_ScriptOps.f
  simp only [spoollaw48_ScriptOps.j0]
  rw [alive_f m (by omega)]
  by_cases hs : (s.size : Int) > 200
  · rw [if_pos hs]
    rfl
  · rw [if_neg hs]
    by_cases hd : (d.size : Int) > 60
    · rw [decide_eq_true hd]
      rfl
    · rw [decide_eq_false hd, if_neg Bool.false_ne_true]
      obtain ⟨i, hi⟩ : ∃ i : Nat, mn (wrap64 a) (s.size : Int) = (i : Int) := ⟨(mn (wrap64 a) (s.size : Int)).toNat, by rw [PlD.wrap_in (by omega) (by omega)]; unfold mn; split <;> omega⟩
      have hi2 : i ≤ s.size := by
        have : mn (wrap64 a) (s.size : Int) ≤ (s.size : Int) := by unfold mn; split <;> omega
        omega
      obtain ⟨k1, n1, d1, t1, E1, A1, e1, e2⟩ := op_same s (by omega) i hi2 m (by omega)
      rw [hi, e1, e2]
      simp only [Option.bind_some]
      rw [if_neg (by simp), if_pos trivial]
      have : (!(E1 == E1) || (!(A1 == A1))) = false := by simp
      rw [this]
      exact ops_j1 k n d (by omega) m (by omega)
theorem wfO {n : Int} (h : (Lit.int .u8 n).wf = true) : 0 ≤ n ∧ n ≤ 255 := by
  simpa [Lit.wf, IntKind.min, IntKind.max, IntKind.signed, IntKind.bits] using h
theorem ScriptOps : spoollaw48_ScriptOps.Pure := fun a0 a1 a2 _ h _ => ⟨9100, ScriptOps_K a0 a1 (by have := wfO h; omega) (by have := wfO h; omega) a2.f0 a2.f1 a2.f2 9100 (Nat.le_refl _)⟩
end Go.Proofs.YtifcpamliidabaaDoor.Pure

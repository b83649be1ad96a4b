/- A node's text, by the program and by the document: the same; as deep as the node. Conditions: trees that may be, bounds on the fuel. -/
import Derived.Test.YtlihkebmonfefaaDoorPGx0
import Derived.Test.YtlihkebmonfefaaDoorPGx7
import Derived.Test.YtlihkebmonfefaaDoorPGx19
import Derived.Test.YtlihkebmonfefaaDoorPfP
import Derived.Test.YtlihkebmonfefaaDoorPfD
import Derived.Test.YtlihkebmonfefaaDoorHandDeeps
set_option linter.unusedSimpArgs false
set_option linter.unusedVariables false
namespace Go.Proofs.YtlihkebmonfefaaDoor.PfN
open Go.RowKit Go.Proofs.YtlihkebmonfefaaDoor.PG Go.Proofs.YtlihkebmonfefaaDoorW.PrintWords Go.Proofs.YtlihkebmonfefaaDoorW.PrintLast Go.Proofs.YtlihkebmonfefaaDoor.PlD Go.Proofs.YtlihkebmonfefaaDoor.Sets Go.Proofs.YtlihkebmonfefaaDoor.HandRight
open Go.Proofs.YtlihkebmonfefaaDoor.HandWithin (par)
open Go.Proofs.YtlihkebmonfefaaDoor.HandPrint (setF txN)
open Go.Proofs.YtlihkebmonfefaaDoor.HandRef (parB)
open Go.Proofs.YtlihkebmonfefaaDoor.HandRefs (rxN lim)
open Go.Proofs.YtlihkebmonfefaaDoor.HandDeep (D D_eq mx2 mx2_le)
open Go.Proofs.YtlihkebmonfefaaDoor.PfX (Text_f rText_f textI)
open Go.Proofs.YtlihkebmonfefaaDoor.PfB (Deep deep_append deep_in deep_plain deep_empty plain)
open Go.Proofs.YtlihkebmonfefaaDoor.PfT (RightT right_34 right_5 right_2 C C_eq)
open Go.Proofs.YtlihkebmonfefaaDoor.PfF (Near)
open Go.Proofs.YtlihkebmonfefaaDoor.PfC (setsFrom)
open Go.Proofs.YtlihkebmonfefaaDoor.PfP
theorem often_f (lo hi : Int) (h : timesOk lo hi) (K : Nat) (hK : 310 ≤ K) : ∃ r, regprint_often.f K lo hi = some r ∧ L r = oftenL lo hi := by
  obtain ⟨h0, h1, h2⟩ := h
  obtain ⟨k, rfl⟩ : ∃ k, K = k + 1 + 1 + 1 + 1 := ⟨K - 4, by omega⟩
  obtain ⟨t, et, lt⟩ := Text_f lo (by omega) (by omega) (k + 1) (by omega)
  rw [textI_pos lo h0] at lt
  have st : t.size ≤ 3 := by rw [← L_len, lt]; exact textN_small lo h0 h1
  have j2 : ¬ (lo = 0 ∧ hi = -1) → ¬ (lo = 1 ∧ hi = -1) → ¬ (lo = 0 ∧ hi = 1) → ∃ r, regprint_often.j2 (k + 1 + 1) lo hi = some r ∧ L r = oftenL lo hi := by
    intro n1 n2 n3
    unfold oftenL
    rw [if_neg n1, if_neg n2, if_neg n3, regprint_often.j2, et]
    simp only [Option.bind_some]
    rw [if_pos (by omega)]
    by_cases c : hi = lo
    · rw [if_pos c, regprint_often.j3, if_neg (by decide), if_pos c, if_pos (by rw [ByteArray.size_append]; show 1 + t.size + 1 ≤ _; omega), if_neg (by omega), if_pos c]
      exact ⟨_, rfl, by rw [L_append, L_append, lt]; rfl⟩
    · rw [if_neg c]
      by_cases c2 : hi = -1
      · rw [show (hi != -1) = false by rw [c2]; rfl, regprint_often.j3, if_neg (by decide), if_neg c, if_pos (by rw [ByteArray.size_append]; show 1 + t.size + 2 ≤ _; omega), if_pos c2]
        exact ⟨_, rfl, by rw [L_append, L_append, lt]; rfl⟩
      · obtain ⟨u, eu, lu⟩ := Text_f hi (by omega) (by omega) k (by omega)
        rw [textI_pos hi (by omega)] at lu
        have su : u.size ≤ 3 := by rw [← L_len, lu]; exact textN_small hi (by omega) (by omega)
        rw [show (hi != -1) = true by simp [c2], regprint_often.j3, if_pos rfl, eu]
        simp only [Option.bind_some]
        rw [if_pos (by omega), if_pos (by rw [ByteArray.size_append, ByteArray.size_append]; show 1 + t.size + (1 + u.size) ≤ _; omega), if_pos (by rw [ByteArray.size_append, ByteArray.size_append, ByteArray.size_append]; show 1 + t.size + (1 + u.size) + 1 ≤ _; omega), if_neg c2, if_neg c]
        exact ⟨_, rfl, by rw [L_append, L_append, L_append, L_append, lt, lu]; rfl⟩
  unfold regprint_often.f
  by_cases c0 : lo = 0
  · rw [if_pos c0]
    by_cases c1 : hi = -1
    · rw [show (hi == -1) = true by rw [c1]; rfl, regprint_often.j0, if_pos rfl]
      exact ⟨_, rfl, by unfold oftenL; rw [if_pos ⟨c0, c1⟩]; rfl⟩
    · rw [show (hi == -1) = false by simp [c1], regprint_often.j0, if_neg (by decide), if_neg (by omega), regprint_often.j1, if_neg (by decide), if_pos c0]
      by_cases c2 : hi = 1
      · rw [if_pos c2]
        exact ⟨_, rfl, by unfold oftenL; rw [if_neg (by omega), if_neg (by omega), if_pos ⟨c0, c2⟩]; rfl⟩
      · rw [if_neg c2]
        exact j2 (by omega) (by omega) (by omega)
  · rw [if_neg c0, regprint_often.j0, if_neg (by decide)]
    by_cases c1 : lo = 1
    · rw [if_pos c1]
      by_cases c2 : hi = -1
      · rw [show (hi == -1) = true by rw [c2]; rfl, regprint_often.j1, if_pos rfl]
        exact ⟨_, rfl, by unfold oftenL; rw [if_neg (by omega), if_pos ⟨c1, c2⟩]; rfl⟩
      · rw [show (hi == -1) = false by simp [c2], regprint_often.j1, if_neg (by decide), if_neg c0]
        exact j2 (by omega) (by omega) (by omega)
    · rw [if_neg c1, regprint_often.j1, if_neg (by decide), if_neg c0]
      exact j2 (by omega) (by omega) (by omega)
theorem rtx (n : Int) (h0 : 0 ≤ n) (h1 : n ≤ 255) (K : Nat) (hK : 10 ≤ K) : ∃ t, spoolref01_Text.f K n = some t ∧ L t = textN n.toNat ∧ t.size ≤ 3 := by
  obtain ⟨t, et, lt⟩ := rText_f 2 n.toNat K (by omega) (by omega) (by omega) (by omega)
  rw [show ((n.toNat : Nat) : Int) = n by omega] at et
  exact ⟨t, et, lt, by rw [← L_len, lt]; exact textN_small n h0 h1⟩
theorem roften_f (lo hi : Int) (h : timesOk lo hi) (K : Nat) (hK : 310 ≤ K) : ∃ r, spoolref14_often.f K lo hi = some r ∧ L r = oftenL lo hi := by
  obtain ⟨h0, h1, h2⟩ := h
  obtain ⟨k, rfl⟩ : ∃ k, K = k + 1 + 1 + 1 := ⟨K - 3, by omega⟩
  obtain ⟨t, et, lt, st⟩ := rtx lo h0 h1 k (by omega)
  have j2 : ¬ (lo = 0 ∧ hi = -1) → ¬ (lo = 1 ∧ hi = -1) → ¬ (lo = 0 ∧ hi = 1) → ∃ r, spoolref14_often.j2 (k + 1) lo hi false = some r ∧ L r = oftenL lo hi := by
    intro n1 n2 n3
    unfold oftenL
    rw [if_neg n1, if_neg n2, if_neg n3, spoolref14_often.j2, if_neg (by decide), et]
    simp only [Option.bind_some]
    by_cases c : hi = -1
    · rw [if_pos c, if_pos (by omega), if_pos (by rw [ByteArray.size_append]; show 1 + t.size + 2 ≤ _; omega), if_pos c]
      exact ⟨_, rfl, by rw [L_append, L_append, lt]; rfl⟩
    · rw [if_neg c, if_neg c]
      by_cases c2 : hi = lo
      · rw [if_pos c2, if_pos c2, if_pos (by omega), if_pos (by rw [ByteArray.size_append]; show 1 + t.size + 1 ≤ _; omega)]
        exact ⟨_, rfl, by rw [L_append, L_append, lt]; rfl⟩
      · obtain ⟨u, eu, lu, su⟩ := rtx hi (by omega) (by omega) k (by omega)
        rw [if_neg c2, if_neg c2, if_pos (by omega), if_pos (by rw [ByteArray.size_append]; show 1 + t.size + 1 ≤ _; omega), eu]
        simp only [Option.bind_some]
        rw [if_pos (by rw [ByteArray.size_append, ByteArray.size_append]; show 1 + t.size + 1 + u.size ≤ _; omega), if_pos (by rw [ByteArray.size_append, ByteArray.size_append, ByteArray.size_append]; show 1 + t.size + 1 + u.size + 1 ≤ _; omega)]
        exact ⟨_, rfl, by rw [L_append, L_append, L_append, L_append, lt, lu]; simp [L]⟩
  unfold spoolref14_often.f
  by_cases c1 : hi = -1
  · rw [if_pos c1]
    by_cases c0 : lo = 0
    · rw [show (lo == 0) = true by simp [c0], spoolref14_often.j0, if_pos rfl]
      exact ⟨_, rfl, by unfold oftenL; rw [if_pos ⟨c0, c1⟩]; rfl⟩
    · rw [show (lo == 0) = false by simp [c0], spoolref14_often.j0, if_neg (by decide), if_pos c1]
      by_cases c2 : lo = 1
      · rw [show (lo == 1) = true by simp [c2], spoolref14_often.j1, if_pos rfl]
        exact ⟨_, rfl, by unfold oftenL; rw [if_neg (by omega), if_pos ⟨c2, c1⟩]; rfl⟩
      · rw [show (lo == 1) = false by simp [c2], spoolref14_often.j1, if_neg (by decide), if_neg c0]
        exact j2 (by omega) (by omega) (by omega)
  · rw [if_neg c1, spoolref14_often.j0, if_neg (by decide), if_neg c1, spoolref14_often.j1, if_neg (by decide)]
    by_cases c0 : lo = 0
    · rw [if_pos c0]
      by_cases c2 : hi = 1
      · rw [show (hi == 1) = true by simp [c2], spoolref14_often.j2, if_pos rfl]
        exact ⟨_, rfl, by unfold oftenL; rw [if_neg (by omega), if_neg (by omega), if_pos ⟨c0, c2⟩]; rfl⟩
      · rw [show (hi == 1) = false by simp [c2]]
        exact j2 (by omega) (by omega) (by omega)
    · rw [if_neg c0]
      exact j2 (by omega) (by omega) (by omega)
theorem L_parB (is : Bool) (t : ByteArray) : L (parB is t) = par is (L t) := by
  cases is with
  | false => rfl
  | true =>
    show L (((⟨#[40]⟩ : ByteArray) ++ t) ++ (⟨#[41]⟩ : ByteArray)) = 40 :: (L t ++ [41])
    rw [L_append, L_append]; rfl
theorem par_len (is : Bool) (t : List Int) : (par is t).length ≤ t.length + 2 := by
  cases is <;> simp [par]
theorem par_deep (is : Bool) {t : List Int} {d : Int} (h : Deep t d) : Deep (par is t) (HandPart.up is d) := by
  cases is with
  | false => exact h
  | true => exact deep_in h
theorem mx_max (a b : Int) : mx2 a b = max a b := by unfold mx2; split <;> omega
theorem right_times {n : S48} {i m : Int} (h : rightN n i m = true) (ho : n.f0 = 5) : timesOk n.f3 n.f4 := by
  cases n
  simp only at ho
  subst ho
  simp only [rightN] at h
  simp only [show ¬ (5 : Int) = 1 by decide, show ¬ (5 : Int) = 2 by decide, show ¬ (5 : Int) = 3 by decide, show ¬ (5 : Int) = 4 by decide, if_false, or_self, if_true, Bool.and_eq_true] at h
  exact times_ok h.2.2
theorem right_op {n : S48} {i m : Int} (h : rightN n i m = true) : n.f0 = 1 ∨ n.f0 = 2 ∨ n.f0 = 3 ∨ n.f0 = 4 ∨ n.f0 = 5 := by
  unfold rightN at h
  by_cases c1 : n.f0 = 1
  · exact .inl c1
  by_cases c2 : n.f0 = 2
  · exact .inr (.inl c2)
  by_cases c3 : n.f0 = 3
  · exact .inr (.inr (.inl c3))
  by_cases c4 : n.f0 = 4
  · exact .inr (.inr (.inr (.inl c4)))
  by_cases c5 : n.f0 = 5
  · exact .inr (.inr (.inr (.inr c5)))
  simp [c1, c2, c3, c4, c5] at h
theorem lim_ok {t : ByteArray} (h : t.size ≤ 1000000000) : lim t = some t := if_pos h
theorem nodes_f (l : List S48) (s : List (List S60)) (hr : RightT l s.length) (hn : Near l s) (hs : setsFrom s 0) (K : Nat) (hK : 500 ≤ K) : ∀ (d : Nat) (i : Int), 0 ≤ i → i < (l.length : Int) → i < (d : Int) →
    ∃ t r, txN K l s d i = some t ∧ rxN K l s d i = some r ∧ L r = t ∧ t.length ≤ 1000 * C l i ∧ Deep t (D l i) := by
  intro d
  induction d with
  | zero => intro i h0 _ h2; omega
  | succ d ih =>
    intro i h0 h1 h2
    have hR := hr i h0 h1
    have hCe := C_eq l s.length hr i h0 h1
    have hDe := D_eq l s.length hr i h0 h1
    have hC3 := hn.c hr i h0 h1
    rw [txN, rxN]
    rcases right_op hR with c | c | c | c | c
    · simp only [if_neg (show ¬ (rd_T48 l i).f0 = 2 by omega), if_neg (show ¬ (rd_T48 l i).f0 = 3 by omega), if_neg (show ¬ (rd_T48 l i).f0 = 4 by omega), if_neg (show ¬ (rd_T48 l i).f0 = 5 by omega)]
      rw [if_neg (by omega), if_neg (by omega)] at hCe
      rw [if_pos c] at hDe
      rw [hCe, hDe]
      exact ⟨_, _, rfl, rfl, rfl, by simp, deep_empty⟩
    · simp only [if_pos c]
      obtain ⟨q0, q1⟩ := right_2 hR c
      rw [if_neg (by omega), if_neg (by omega)] at hCe
      rw [if_neg (by omega), if_neg (by omega), if_neg (by omega), if_neg (by omega)] at hDe
      have hset : rightL 0 (rd_L4 s (rd_T48 l i).f5) = true := by
        have := hs (rd_T48 l i).f5.toNat (Nat.zero_le _) (by omega)
        rwa [show (((rd_T48 l i).f5.toNat : Nat) : Int) = (rd_T48 l i).f5 by omega] at this
      have hst : St (rd_L4 s (rd_T48 l i).f5) := (rightL_iff _ 0 (Int.le_refl _)).1 hset
      have hsl : (rd_L4 s (rd_T48 l i).f5).length ≤ 30 := hn.s _ (by simp [rd_L4, List.getD_eq_getElem?_getD, show (rd_T48 l i).f5.toNat < s.length by omega])
      obtain ⟨a, ea, la⟩ := set_f _ hst hsl K (by omega)
      obtain ⟨b, eb, lb⟩ := rset_f _ hst hsl K (by omega)
      have hl := setL_len _ hst hsl
      have sa : a.size ≤ 700 := by rw [← L_len, la]; exact hl
      have sb : b.size ≤ 700 := by rw [← L_len, lb]; exact hl
      rw [ea, eb, hCe, hDe]
      simp only [Option.bind_some]
      rw [if_pos (by omega), lim_ok (by omega)]
      exact ⟨_, _, rfl, rfl, by rw [lb, ← la]; rfl, by show (L a).length ≤ _; rw [la]; omega, by show Deep (L a) 0; rw [la]; exact setL_deep _ hst⟩
    · simp only [if_neg (show ¬ (rd_T48 l i).f0 = 2 by omega), if_pos c]
      obtain ⟨⟨a0, a1⟩, b0, b1⟩ := right_34 hR (.inl c)
      rw [if_pos (.inl c)] at hCe
      rw [if_neg (by omega), if_pos c, mx_max] at hDe
      obtain ⟨t1, r1, et1, er1, l1, n1, d1⟩ := ih _ a0 (by omega) (by omega)
      obtain ⟨t2, r2, et2, er2, l2, n2, d2⟩ := ih _ b0 (by omega) (by omega)
      rw [et1, er1, et2, er2]
      simp only [Option.bind_some]
      have hop := right_op (hr _ b0 (by omega))
      have e1 : ([4].any fun k => (rd_T48 l (rd_T48 l i).f1).f0 == k) = ((rd_T48 l (rd_T48 l i).f1).f0 == 4) := by simp
      have e2 : ([4, 3].any fun k => (rd_T48 l (rd_T48 l i).f2).f0 == k) = (if (rd_T48 l (rd_T48 l i).f2).f0 = 3 then true else (rd_T48 l (rd_T48 l i).f2).f0 == 4) := by
        by_cases q : (rd_T48 l (rd_T48 l i).f2).f0 = 3 <;> simp [q]
      rw [e1, e2] at hDe ⊢
      generalize ((rd_T48 l (rd_T48 l i).f1).f0 == 4) = x at *
      generalize (if (rd_T48 l (rd_T48 l i).f2).f0 = 3 then true else (rd_T48 l (rd_T48 l i).f2).f0 == 4) = y at *
      have p1 := par_len x t1
      have p2 := par_len y t2
      have hsz : (parB x r1 ++ parB y r2).size ≤ 1000 * C l i := by
        rw [← L_len, L_append, L_parB, L_parB, l1, l2, List.length_append, hCe]
        omega
      rw [lim_ok (by omega)]
      refine ⟨_, _, rfl, rfl, by rw [L_append, L_parB, L_parB, l1, l2], ?_, ?_⟩
      · rw [List.length_append, hCe]; omega
      · rw [hDe]; exact deep_append (par_deep x d1) (par_deep y d2)
    · simp only [if_neg (show ¬ (rd_T48 l i).f0 = 2 by omega), if_neg (show ¬ (rd_T48 l i).f0 = 3 by omega), if_pos c]
      obtain ⟨⟨a0, a1⟩, b0, b1⟩ := right_34 hR (.inr c)
      rw [if_pos (.inr c)] at hCe
      rw [if_neg (by omega), if_neg (by omega), if_pos c, mx_max] at hDe
      obtain ⟨t1, r1, et1, er1, l1, n1, d1⟩ := ih _ a0 (by omega) (by omega)
      obtain ⟨t2, r2, et2, er2, l2, n2, d2⟩ := ih _ b0 (by omega) (by omega)
      rw [et1, er1, et2, er2]
      simp only [Option.bind_some]
      have e1 : ([4].any fun k => (rd_T48 l (rd_T48 l i).f2).f0 == k) = ((rd_T48 l (rd_T48 l i).f2).f0 == 4) := by simp
      rw [e1] at hDe ⊢
      generalize ((rd_T48 l (rd_T48 l i).f2).f0 == 4) = y at *
      have p2 := par_len y t2
      have hL : L ((r1 ++ (⟨#[124]⟩ : ByteArray)) ++ parB y r2) = t1 ++ ([124] ++ par y t2) := by
        rw [L_append, L_append, L_parB, l1, l2, List.append_assoc]; rfl
      have hsz : ((r1 ++ (⟨#[124]⟩ : ByteArray)) ++ parB y r2).size ≤ 1000 * C l i := by
        rw [← L_len, hL, List.length_append, List.length_append, hCe, List.length_cons, List.length_nil]
        omega
      rw [lim_ok (by omega)]
      refine ⟨_, _, rfl, rfl, hL, ?_, ?_⟩
      · rw [List.length_append, List.length_append, hCe, List.length_cons, List.length_nil]; omega
      · have hbar : Deep [124] 0 := deep_plain [124] (by intro c hc; rw [List.mem_singleton.1 hc]; exact ⟨by decide, by decide, by decide, by decide⟩)
        have h2 := par_deep y d2
        have h3 := deep_append d1 (deep_append hbar h2)
        rw [hDe]
        have h4 := h2.1
        rwa [show max (0 : Int) (HandPart.up y (D l (rd_T48 l i).f2)) = HandPart.up y (D l (rd_T48 l i).f2) by omega] at h3
    · simp only [if_neg (show ¬ (rd_T48 l i).f0 = 2 by omega), if_neg (show ¬ (rd_T48 l i).f0 = 3 by omega), if_neg (show ¬ (rd_T48 l i).f0 = 4 by omega), if_pos c]
      obtain ⟨a0, a1⟩ := right_5 hR c
      rw [if_neg (by omega), if_pos c] at hCe
      rw [if_neg (by omega), if_neg (by omega), if_neg (by omega), if_pos c] at hDe
      obtain ⟨t1, r1, et1, er1, l1, n1, d1⟩ := ih _ a0 (by omega) (by omega)
      have htm := right_times hR c
      obtain ⟨o, eo, lo⟩ := often_f _ _ htm K (by omega)
      obtain ⟨o2, eo2, lo2⟩ := roften_f _ _ htm K (by omega)
      have hol := oftenL_len _ _ htm
      have so : o.size ≤ 10 := by rw [← L_len, lo]; exact hol
      have so2 : o2.size ≤ 10 := by rw [← L_len, lo2]; exact hol
      have hop := right_op (hr _ a0 (by omega))
      rw [et1, er1, eo, eo2]
      simp only [Option.bind_some]
      rw [if_pos (by omega), lim_ok (by omega)]
      simp only [Option.bind_some]
      have e1 : ([4, 3, 5].any fun k => (rd_T48 l (rd_T48 l i).f1).f0 == k) = decide ((rd_T48 l (rd_T48 l i).f1).f0 > 2) := by
        rcases hop with q | q | q | q | q <;> rw [q] <;> decide
      rw [e1] at hDe ⊢
      generalize decide ((rd_T48 l (rd_T48 l i).f1).f0 > 2) = x at *
      have p1 := par_len x t1
      have hL : L (parB x r1 ++ o2) = par x t1 ++ L o := by rw [L_append, L_parB, l1, lo2, lo]
      have hlo : (L o).length ≤ 10 := by rw [lo]; exact hol
      have hsz : (parB x r1 ++ o2).size ≤ 1000 * C l i := by
        rw [← L_len, hL, List.length_append, hCe]
        omega
      rw [lim_ok (by omega)]
      refine ⟨_, _, rfl, rfl, hL, ?_, ?_⟩
      · show (par x t1 ++ L o).length ≤ _
        rw [List.length_append, hCe]; omega
      · show Deep (par x t1 ++ L o) _
        have h2 := par_deep x d1
        have h3 := deep_append h2 (oftenL_deep (rd_T48 l i).f3 (rd_T48 l i).f4)
        rw [hDe, lo]
        have h4 := h2.1
        rwa [show max (HandPart.up x (D l (rd_T48 l i).f1)) 0 = HandPart.up x (D l (rd_T48 l i).f1) by omega] at h3
end Go.Proofs.YtlihkebmonfefaaDoor.PfN

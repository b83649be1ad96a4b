/- PlaceOf, over plain functions: a byte's place and a place's byte are told alike by the program and by the reference. No condition beyond the statement's own. -/
import Derived.Test.YtfknoaokoncneaaDoorPDx9
import Derived.Test.YtfknoaokoncneaaDoorPDx10
import Derived.Test.YtfknoaokoncneaaDoorPfL
namespace Go.Proofs.YtfknoaokoncneaaDoor.Pure
open Go.RowKit Go.Proofs.YtfknoaokoncneaaDoor.PD Go.Proofs.YtfknoaokoncneaaDoorW.PrintWords Go.Proofs.YtfknoaokoncneaaDoorW.PrintLast Go.Proofs.YtfknoaokoncneaaDoor.PlD Go.Proofs.YtfknoaokoncneaaDoor.PfD Go.Proofs.YtfknoaokoncneaaDoor.PfP Go.Proofs.YtfknoaokoncneaaDoor.PfL Go.Proofs.YtfknoaokoncneaaDoor.HandLines

/-! ### a line that a byte is in -/
theorem linesN_head (s : ByteArray) (d : Nat) : ∀ i f, ∃ b r, linesN s d i f = (f, b) :: r ∧ i ≤ b ∧ b ≤ i + d := by
  induction d with
  | zero => intro i f; exact ⟨i, [], rfl, Nat.le_refl _, Nat.le_refl _⟩
  | succ d ih =>
    intro i f
    unfold linesN
    split
    · exact ⟨i, _, rfl, Nat.le_refl _, by omega⟩
    · obtain ⟨b, r, e, h1, h2⟩ := ih (i + 1) f
      exact ⟨b, r, e, by omega, by omega⟩
theorem linesN_later (s : ByteArray) (d : Nat) : ∀ (i f k a b : Nat), (linesN s d i f)[k]? = some (a, b) → (k = 0 ∧ a = f ∨ 0 < k ∧ i < a) ∧ i ≤ b ∧ b ≤ i + d := by
  induction d with
  | zero =>
    intro i f k a b h
    cases k with
    | zero => simp [linesN] at h; omega
    | succ k => simp [linesN] at h
  | succ d ih =>
    intro i f k a b h
    unfold linesN at h
    split at h
    · cases k with
      | zero => simp at h; omega
      | succ k =>
        rw [List.getElem?_cons_succ] at h
        have := ih (i + 1) (i + 1) k a b h
        omega
    · have := ih (i + 1) f k a b h
      omega
theorem linesN_ab (s : ByteArray) (d : Nat) : ∀ (i f k a b : Nat), f ≤ i → (linesN s d i f)[k]? = some (a, b) → a ≤ b := by
  induction d with
  | zero =>
    intro i f k a b hf h
    cases k with
    | zero => simp [linesN] at h; omega
    | succ k => simp [linesN] at h
  | succ d ih =>
    intro i f k a b hf h
    unfold linesN at h
    split at h
    · cases k with
      | zero => simp at h; omega
      | succ k =>
        rw [List.getElem?_cons_succ] at h
        exact ih (i + 1) (i + 1) k a b (Nat.le_refl _) h
    · exact ih (i + 1) f k a b (by omega) h
/-- In a line: the place. -/
theorem of_in (s : ByteArray) (A : Nat) (d : Nat) : ∀ (i line f k a b : Nat), s.size - i = d → i ≤ s.size → f ≤ i → i ≤ A → A ≤ s.size → (linesN s d i f)[k]? = some (a, b) → a ≤ A → A ≤ b →
    ofS s (A - i) i line (i - f + 1) = (line + k, A - a + 1) := by
  induction d with
  | zero =>
    intro i line f k a b hd hi hf hA hAs h ha hb
    have : A = i := by omega
    subst this
    cases k with
    | zero => simp [linesN] at h; rw [Nat.sub_self]; simp only [ofS]; rw [← h.1]; rfl
    | succ k => simp [linesN] at h
  | succ d ih =>
    intro i line f k a b hd hi hf hA hAs h ha hb
    have hl := linesN_later s (d + 1) i f k a b h
    by_cases e : A = i
    · subst e
      have : k = 0 ∧ a = f := by omega
      rw [Nat.sub_self]
      simp only [ofS]
      rw [this.1, this.2]
      rfl
    · rw [show A - i = (A - (i + 1)) + 1 by omega]
      simp only [ofS]
      unfold linesN at h
      split at h
      · rename_i hc
        rw [if_pos hc]
        cases k with
        | zero => simp at h; omega
        | succ k =>
          rw [List.getElem?_cons_succ] at h
          have := ih (i + 1) (line + 1) (i + 1) k a b (by omega) (by omega) (by omega) (by omega) hAs h ha hb
          rw [show i + 1 - (i + 1) + 1 = 1 by omega] at this
          rw [this]
          congr 1
          omega
      · rename_i hc
        rw [if_neg hc]
        have := ih (i + 1) line f k a b (by omega) (by omega) (by omega) (by omega) hAs h ha hb
        rw [show i + 1 - f + 1 = i - f + 1 + 1 by omega] at this
        exact this
/-- Each byte is in a line. -/
theorem in_line (s : ByteArray) (A : Nat) (d : Nat) : ∀ (i f : Nat), s.size - i = d → i ≤ s.size → f ≤ A → (i ≤ A ∨ f ≤ A) → A ≤ s.size → (f ≤ i) → ∃ (k a b : Nat), (linesN s d i f)[k]? = some (a, b) ∧ a ≤ A ∧ A ≤ b := by
  induction d with
  | zero => intro i f hd hi hf _ hAs _; exact ⟨0, f, i, rfl, hf, by omega⟩
  | succ d ih =>
    intro i f hd hi hf _ hAs hfi
    unfold linesN
    split
    · by_cases e : A ≤ i
      · exact ⟨0, f, i, rfl, hf, e⟩
      · obtain ⟨k, a, b, h, h1, h2⟩ := ih (i + 1) (i + 1) (by omega) (by omega) (by omega) (.inl (by omega)) hAs (Nat.le_refl _)
        exact ⟨k + 1, a, b, by rw [List.getElem?_cons_succ]; exact h, h1, h2⟩
    · exact ih (i + 1) f (by omega) (by omega) hf (.inr hf) hAs (by omega)
theorem of_line (s : ByteArray) (A k a b : Nat) (hA : A ≤ s.size) (h : (lines s)[k]? = some (a, b)) (ha : a ≤ A) (hb : A ≤ b) : of s (A : Int) = (k + 1, A - a + 1) := by
  have := of_in s A s.size 0 1 0 k a b (by omega) (by omega) (by omega) (by omega) hA h ha hb
  unfold of
  rw [show clamp s (A : Int) = A by unfold clamp; omega]
  rw [show A - 0 = A from rfl, show 0 - 0 + 1 = 1 from rfl] at this
  rw [this]
  congr 1
  omega
theorem of_some (s : ByteArray) (A : Nat) (hA : A ≤ s.size) : ∃ (k a b : Nat), (lines s)[k]? = some (a, b) ∧ a ≤ A ∧ A ≤ b ∧ b ≤ s.size ∧ of s (A : Int) = (k + 1, A - a + 1) := by
  obtain ⟨k, a, b, h, h1, h2⟩ := in_line s A s.size 0 0 (by omega) (by omega) (by omega) (.inl (by omega)) hA (Nat.le_refl _)
  have := linesN_later s s.size 0 0 k a b h
  exact ⟨k, a, b, h, h1, h2, by omega, of_line s A k a b hA h h1 h2⟩
/-! ### a place's byte -/
def at_ (s : ByteArray) (line col : Int) : Int × Bool :=
  match (lines s)[(line - 1).toNat]? with
  | none => (0, false)
  | some (a, b) => if line < 1 ∨ col < 1 ∨ col > (b : Int) - a + 1 then (0, false) else ((a : Int) + col - 1, true)
theorem At_f (s : ByteArray) (hs : s.size ≤ 200) (line col : Int) (K : Nat) (hK : 2 ≤ K) : place_At.f K s line col = some (at_ s line col) := by
  obtain ⟨k, rfl⟩ : ∃ k, K = k + 1 := ⟨K - 1, by omega⟩
  unfold place_At.f at_
  rw [Lines_f s (by omega), Option.bind_some, List.length_map]
  simp only [place_At.j0]
  have hlb : (lines s).length ≤ s.size + 1 := linesN_len s s.size 0 0
  by_cases h1 : line < 1
  · rw [if_pos h1, if_pos trivial]
    split
    · rfl
    · rw [if_pos (.inl h1)]
  · rw [if_neg h1]
    by_cases h2 : line > ((lines s).length : Int)
    · rw [if_pos h2, if_pos trivial, List.getElem?_eq_none (by omega)]
    · rw [if_neg h2]
      have hg : (lines s)[(line - 1).toNat]? = some ((lines s)[(line - 1).toNat]'(by omega)) := List.getElem?_eq_getElem (by omega)
      generalize (lines s)[(line - 1).toNat]'(by omega) = x at hg
      obtain ⟨a, b⟩ := x
      have hl := linesN_later s s.size 0 0 _ a b hg
      rw [hg]
      simp only
      by_cases h3 : col < 1
      · rw [decide_eq_true h3, if_pos rfl, if_pos (.inr (.inl h3))]
      · have ew : wrap64 (line - 1) = (((line - 1).toNat : Nat) : Int) := by rw [wrap_in (by omega) (by omega)]; omega
        have hr := rd_map (lines s) (line - 1).toNat (a, b) hg
        have hr0 : (rd_T31 ((lines s).map toS) (((line - 1).toNat : Nat) : Int)).f0 = (a : Int) := by rw [hr]; rfl
        have hr1 : (rd_T31 ((lines s).map toS) (((line - 1).toNat : Nat) : Int)).f1 = (b : Int) := by rw [hr]; rfl
        have hab := linesN_ab s s.size 0 0 _ a b (Nat.le_refl _) hg
        rw [decide_eq_false h3, if_neg (by simp)]
        simp only [ew, hr0, hr1]
        rw [if_pos (by omega), if_pos (by rw [List.length_map]; omega), wrap_in (n := (b : Int) - a) (by omega) (by omega), wrap_in (n := (b : Int) - a + 1) (by omega) (by omega)]
        by_cases h4 : col > (b : Int) - a + 1
        · rw [if_pos h4, if_pos (.inr (.inr h4))]
        · have hn : ¬ (line < 1 ∨ col < 1 ∨ col > (b : Int) - a + 1) := by omega
          rw [if_neg h4, if_neg hn, wrap_in (n := (a : Int) + col) (by omega) (by omega), wrap_in (n := (a : Int) + col - 1) (by omega) (by omega)]
theorem at_spec (s : ByteArray) (A : Nat) (hA : A ≤ s.size) (line col : Int) (h1 : ((of s (A : Int)).1 : Int) = line) (h2 : ((of s (A : Int)).2 : Int) = col) : at_ s line col = ((A : Int), true) := by
  obtain ⟨k, a, b, h, ha, hb, hbs, e⟩ := of_some s A hA
  rw [e] at h1 h2
  simp only at h1 h2
  unfold at_
  rw [show (line - 1).toNat = k by omega, h]
  simp only
  rw [if_neg (by omega), show (a : Int) + col - 1 = (A : Int) by omega]
theorem at_true (s : ByteArray) (line col : Int) (h : (at_ s line col).2 = true) : ∃ A : Nat, A ≤ s.size ∧ ((of s (A : Int)).1 : Int) = line ∧ ((of s (A : Int)).2 : Int) = col := by
  unfold at_ at h
  split at h
  · simp at h
  · rename_i a b hg
    split at h
    · simp at h
    · have hl := linesN_later s s.size 0 0 _ a b hg
      have e := of_line s (a + col.toNat - 1) (line - 1).toNat a b (by omega) hg (by omega) (by omega)
      refine ⟨a + col.toNat - 1, by omega, ?_, ?_⟩
      · rw [e]; simp only; omega
      · rw [e]; simp only; omega
theorem at_false (s : ByteArray) (line col : Int) (h : (at_ s line col).2 = false) : at_ s line col = (0, false) := by
  unfold at_ at h ⊢
  split at h
  · rfl
  · split at h
    · rename_i hc; rw [if_pos hc]
    · simp at h
theorem rAt_l0 (s : ByteArray) (hs : s.size ≤ 200) (line col : Int) (d : Nat) : ∀ (K i : Nat), s.size + 1 - i = d → i ≤ s.size + 1 → d + 2 * s.size + 3 ≤ K →
    (∀ A : Nat, A < i → ¬ (((of s (A : Int)).1 : Int) = line ∧ ((of s (A : Int)).2 : Int) = col)) → spoolref03_At.l0 K s line col (i : Int) = some (at_ s line col) := by
  induction d with
  | zero =>
    intro K i hd hi hK hn
    obtain ⟨k, rfl⟩ : ∃ k, K = k + 1 := ⟨K - 1, by omega⟩
    simp only [spoolref03_At.l0]
    rw [if_neg (by omega)]
    cases h : (at_ s line col).2 with
    | false => rw [at_false s line col h]
    | true =>
      obtain ⟨A, hA, h1⟩ := at_true s line col h
      exact absurd h1 (hn A (by omega))
  | succ d ih =>
    intro K i hd hi hK hn
    obtain ⟨k, rfl⟩ : ∃ k, K = k + 1 := ⟨K - 1, by omega⟩
    simp only [spoolref03_At.l0]
    rw [if_pos (by omega), rOf_f s (by omega) _ k (by omega), Option.bind_some, wrap_in (n := (i : Int) + 1) (by omega) (by omega)]
    simp only
    have go : ¬ (((of s (i : Int)).1 : Int) = line ∧ ((of s (i : Int)).2 : Int) = col) → spoolref03_At.l0 k s line col ((i : Int) + 1) = some (at_ s line col) := fun hc =>
      ih k (i + 1) (by omega) (by omega) (by omega) (fun A hA => by
        by_cases e : A = i
        · subst e; exact hc
        · exact hn A (by omega))
    by_cases h1 : ((of s (i : Int)).1 : Int) = line
    · rw [if_pos h1]
      by_cases h2 : ((of s (i : Int)).2 : Int) = col
      · rw [if_pos h2, at_spec s i (by omega) line col h1 h2]
      · rw [if_neg h2]; exact go (fun h => h2 h.2)
    · rw [if_neg h1]; exact go (fun h => h1 h.1)
theorem rAt_f (s : ByteArray) (hs : s.size ≤ 200) (line col : Int) (K : Nat) (hK : 1000 ≤ K) : spoolref03_At.f K s line col = some (at_ s line col) := by
  unfold spoolref03_At.f
  exact rAt_l0 s hs line col (s.size + 1) K 0 (by omega) (by omega) (by omega) (fun A h => by omega)
theorem PlaceOf_K (s : ByteArray) (a l c : Int) : ∀ K, 3000 ≤ K → spoollaw03_PlaceOf.f K s a l c = some true := by
  intro K hK
  obtain ⟨k, rfl⟩ : ∃ k, K = k + 2 := ⟨K - 2, by omega⟩
  unfold spoollaw03_PlaceOf.f
  rw [alive3_t _ (by omega)]
  by_cases hs : (s.size : Int) > 200
  · rw [if_pos hs, Option.bind_some]
  · rw [if_neg hs, Of_f s (by omega) a _ (by omega), rOf_f s (by omega) a _ (by omega), At_f s (by omega) l c _ (by omega), rAt_f s (by omega) l c _ (by omega)]
    simp only [Option.bind_some, if_true, bne_self_eq_false]
    have hf : spoollaw03_PlaceOf.j1 (k + 1) s a ((of s a).1 : Int) ((of s a).2 : Int) false = some true := by
      simp only [spoollaw03_PlaceOf.j1]
      rw [if_neg (by simp), alive3_t _ (by omega), Option.bind_some]
    simp only [spoollaw03_PlaceOf.j0]
    rw [if_neg (by simp)]
    by_cases h0 : a ≥ 0
    · rw [if_pos h0]
      by_cases h1 : a ≤ (s.size : Int)
      · rw [decide_eq_true h1]
        simp only [spoollaw03_PlaceOf.j1]
        have e := at_spec s a.toNat (by omega) ((of s a).1 : Int) ((of s a).2 : Int) (by rw [show ((a.toNat : Nat) : Int) = a by omega]) (by rw [show ((a.toNat : Nat) : Int) = a by omega])
        rw [show ((a.toNat : Nat) : Int) = a by omega] at e
        rw [if_pos trivial, At_f s (by omega) _ _ _ (by omega), e, Option.bind_some]
        simp only [if_true]
        rw [alive3_t _ (by omega), Option.bind_some]
      · rw [decide_eq_false h1]; exact hf
    · rw [if_neg h0]; exact hf
theorem PlaceOf : spoollaw03_PlaceOf.Pure := fun a0 a1 a2 _ _ _ => ⟨3000, PlaceOf_K a0 a1 a2.f0 a2.f1 3000 (Nat.le_refl _)⟩
end Go.Proofs.YtfknoaokoncneaaDoor.Pure

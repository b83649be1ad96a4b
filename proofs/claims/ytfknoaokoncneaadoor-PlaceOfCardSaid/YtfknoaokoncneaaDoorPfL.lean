/- What the functions that tell lines tell, over plain functions. -/
import Derived.Test.YtfknoaokoncneaaDoorPDx8
import Derived.Test.YtfknoaokoncneaaDoorPDx9
import Derived.Test.YtfknoaokoncneaaDoorHandLines
import Derived.Test.YtfknoaokoncneaaDoorPfP
namespace Go.Proofs.YtfknoaokoncneaaDoor.PfL
open Go.RowKit Go.Proofs.YtfknoaokoncneaaDoor.PD Go.Proofs.YtfknoaokoncneaaDoorW.PrintWords Go.Proofs.YtfknoaokoncneaaDoorW.PrintLast Go.Proofs.YtfknoaokoncneaaDoor.PlD Go.Proofs.YtfknoaokoncneaaDoor.PfD Go.Proofs.YtfknoaokoncneaaDoor.PfP Go.Proofs.YtfknoaokoncneaaDoor.HandLines

theorem L_extract (s : ByteArray) (a b : Nat) : L (s.extract a b) = ((L s).drop a).take (b - a) := by
  unfold L
  rw [ByteArray.data_extract, Array.toList_extract]
  simp [List.extract, List.map_drop, List.map_take]
theorem rLines_l0 (s : ByteArray) (hs : s.size ≤ 1000000) (d : Nat) : ∀ (K i from_ : Nat) (pre : List (Nat × Nat)), s.size - i = d → i ≤ s.size → d + 2 ≤ K → pre.length ≤ i →
    spoolref03_Lines.l0 K s (pre.map toS) (from_ : Int) (i : Int) = some ((pre ++ linesN s d i from_).map toS) := by
  induction d with
  | zero =>
    intro K i from_ pre hd hi hK hp
    obtain ⟨k, rfl⟩ : ∃ k, K = k + 2 := ⟨K - 2, by omega⟩
    have : i = s.size := by omega
    subst this
    simp only [spoolref03_Lines.l0]
    rw [if_pos (by omega), if_pos trivial, if_pos (by rw [List.length_map]; omega), wrap_in (by omega) (by omega), if_neg (by omega)]
    simp [linesN, toS]
  | succ d ih =>
    intro K i from_ pre hd hi hK hp
    obtain ⟨k, rfl⟩ : ∃ k, K = k + 1 := ⟨K - 1, by omega⟩
    simp only [spoolref03_Lines.l0, linesN]
    rw [if_pos (by omega), if_neg (by omega), if_pos (by omega), if_pos (by omega), wrap_in (by omega) (by omega)]
    by_cases hc : bt s (i : Int) = 10
    · rw [if_pos hc, if_pos (by rw [List.length_map]; omega), if_pos hc]
      have := ih k (i + 1) (i + 1) (pre ++ [(from_, i)]) (by omega) (by omega) (by omega) (by simp; omega)
      rw [List.append_assoc, List.map_append] at this
      exact this
    · rw [if_neg hc, if_neg hc]
      exact ih k (i + 1) from_ pre (by omega) (by omega) (by omega) (by omega)
theorem rLines_f (s : ByteArray) (hs : s.size ≤ 1000000) (K : Nat) (hK : s.size + 2 ≤ K) : spoolref03_Lines.f K s = some ((lines s).map toS) := by
  unfold spoolref03_Lines.f
  exact rLines_l0 s hs s.size K 0 0 [] rfl (by omega) (by omega) (by simp)
theorem Lines_f (s : ByteArray) (hs : s.size ≤ 1000000) : place_Lines.f s = some ((lines s).map toS) := by
  unfold place_Lines.f
  rw [if_pos hs]
/-! ### the lines are the text -/
def Chain (s : ByteArray) : Nat → List (Nat × Nat) → Prop
  | _, [] => False
  | from_, (a, b) :: r => a = from_ ∧ a ≤ b ∧ ((r = [] ∧ b = s.size) ∨ (r ≠ [] ∧ b < s.size ∧ bt s (b : Int) = 10 ∧ Chain s (b + 1) r))
theorem linesN_ne (s : ByteArray) (d : Nat) : ∀ i f, linesN s d i f ≠ [] := by
  induction d with
  | zero => intro i f; simp [linesN]
  | succ d ih =>
    intro i f
    unfold linesN
    split
    · simp
    · exact ih _ _
theorem chain (s : ByteArray) (d : Nat) : ∀ i f, s.size - i = d → i ≤ s.size → f ≤ i → Chain s f (linesN s d i f) := by
  induction d with
  | zero => intro i f hd hi hf; exact ⟨rfl, hf, .inl ⟨rfl, by omega⟩⟩
  | succ d ih =>
    intro i f hd hi hf
    unfold linesN
    split
    · rename_i hc
      exact ⟨rfl, hf, .inr ⟨linesN_ne _ _ _ _, by omega, hc, ih (i + 1) (i + 1) (by omega) (by omega) (Nat.le_refl _)⟩⟩
    · exact ih (i + 1) f (by omega) (by omega) (by omega)
theorem rd_map (l : List (Nat × Nat)) (i : Nat) (x : Nat × Nat) (h : l[i]? = some x) : rd_T31 (l.map toS) (i : Int) = toS x := by
  unfold rd_T31
  rw [Int.toNat_natCast, List.getD_eq_getElem?_getD, List.getElem?_map, h]
  rfl
theorem L10 : L (⟨#[10]⟩ : ByteArray) = [10] := rfl
theorem join_l0 (s : ByteArray) (hs : s.size ≤ 1000) (r : List (Nat × Nat)) : ∀ (K f : Nat) (pre : List (Nat × Nat)) (acc : ByteArray), lines s = pre ++ r → Chain s f r → r.length + 1000 ≤ K →
    (pre = [] ∧ f = 0 ∧ L acc = [] ∨ pre ≠ [] ∧ 1 ≤ f ∧ f ≤ s.size ∧ bt s ((f - 1 : Nat) : Int) = 10 ∧ L acc = (L s).take (f - 1)) →
    spoollaw03_PlaceLines.l0 K s ((lines s).map toS) ((lines s).map toS) acc ((lines s).length : Int) (pre.length : Int) = some true := by
  induction r with
  | nil => intro K f pre acc _ h; exact h.elim
  | cons x r ih =>
    intro K f pre acc hl hch hK hacc
    obtain ⟨a, b⟩ := x
    obtain ⟨k, rfl⟩ : ∃ k, K = k + 1 := ⟨K - 1, by omega⟩
    obtain ⟨rfl, hab, hrest⟩ := hch
    have hlen := L_len s
    have hlm : (lines s).length = pre.length + (r.length + 1) := by rw [hl]; simp
    have hlb : (lines s).length ≤ s.size + 1 := linesN_len s s.size 0 0
    have hget : (lines s)[pre.length]? = some (a, b) := by rw [hl]; simp
    have hr := rd_map (lines s) pre.length (a, b) hget
    have hb : b ≤ s.size := by rcases hrest with h | h <;> omega
    have hsz : (s.extract a b).size = b - a := by simp; omega
    have hacs : acc.size ≤ s.size := by
      rw [← L_len acc]
      rcases hacc with ⟨_, _, h⟩ | ⟨_, _, _, _, h⟩
      · rw [h]; simp
      · rw [h, List.length_take]; omega
    -- the next round, or the end
    have next : ∀ acc' : ByteArray, L acc' = (L s).take b → spoollaw03_PlaceLines.l0 k s ((lines s).map toS) ((lines s).map toS) acc' ((lines s).length : Int) ((pre.length : Int) + 1) = some true := by
      intro acc' hL
      rcases hrest with ⟨rfl, hbs⟩ | ⟨hne, hbs, h10, hch⟩
      · obtain ⟨k, rfl⟩ : ∃ k', k = k' + 1 := ⟨k - 1, by omega⟩
        simp only [spoollaw03_PlaceLines.l0]
        have e : L acc' = L s := by rw [hL, hbs, ← hlen, List.take_length]
        rw [if_neg (by rw [hlm]; simp), if_pos (L_inj.2 e), alive3_t k (by simp at hK; omega), Option.bind_some]
      · have := ih k (b + 1) (pre ++ [(a, b)]) acc' (by rw [hl]; simp) hch (by simp at hK; omega) (.inr ⟨by simp, by omega, by omega, by simpa using h10, by simpa using hL⟩)
        rw [List.length_append, List.length_singleton] at this
        exact this
    simp only [spoollaw03_PlaceLines.l0]
    have hr0 : (rd_T31 ((lines s).map toS) (pre.length : Int)).f0 = (a : Int) := by rw [hr]; rfl
    have hr1 : (rd_T31 ((lines s).map toS) (pre.length : Int)).f1 = (b : Int) := by rw [hr]; rfl
    simp only [hr0, hr1]
    have hx : (L s).take a ++ ((L s).drop a).take (b - a) = (L s).take b := by
      rw [← List.take_append_drop a ((L s).take b), List.take_take, List.drop_take, Nat.min_eq_left (by omega)]
    rw [if_pos (by omega), if_pos (by omega), if_pos (by rw [List.length_map]; omega), if_pos (by rw [List.length_map]; omega)]
    simp only [beq_self_eq_true, Bool.not_true, Bool.or_self, Bool.false_eq_true, if_false]
    have z1 : (⟨#[10]⟩ : ByteArray).size = 1 := rfl
    simp only [Int.toNat_natCast]
    rw [wrap_in (n := (pre.length : Int) + 1) (by omega) (by omega)]
    rcases hacc with ⟨rfl, hf, hL⟩ | ⟨hne, h1, h2, h10, hL⟩
    · subst hf
      rw [if_neg (by simp), if_pos (by omega), if_pos (by omega), if_pos (by omega), if_pos (by rw [hsz]; omega)]
      refine next _ ?_
      rw [L_append, hL, L_extract, ← hx]
      simp
    · have hp : 0 < pre.length := List.length_pos_iff.2 hne
      rw [if_pos (by omega), if_pos (by omega), if_pos (by omega), if_pos (by omega), if_pos (by omega), if_pos (by rw [ByteArray.size_append, hsz]; omega)]
      refine next _ ?_
      have hd := L_drop s (a - 1) (by omega)
      rw [h10, show a - 1 + 1 = a by omega] at hd
      have e : (L s).take a = (L s).take (a - 1) ++ [10] := by
        rw [← List.take_append_drop (a - 1) ((L s).take a), List.take_take, List.drop_take, Nat.min_eq_left (by omega), hd, show a - (a - 1) = 1 by omega]
        rfl
      rw [L_append, L_append, hL, L10, L_extract, ← hx, e]
theorem lines_law (s : ByteArray) (hs : s.size ≤ 1000) (K : Nat) (hK : 3000 ≤ K) : spoollaw03_PlaceLines.l0 K s ((lines s).map toS) ((lines s).map toS) (⟨#[]⟩ : ByteArray) ((lines s).length : Int) 0 = some true := by
  have hlb : (lines s).length ≤ s.size + 1 := linesN_len s s.size 0 0
  exact join_l0 s hs (lines s) K 0 [] _ rfl (chain s s.size 0 0 rfl (by omega) (Nat.le_refl _)) (by omega) (.inl ⟨rfl, rfl, rfl⟩)
end Go.Proofs.YtfknoaokoncneaaDoor.PfL

/- What the functions that tell places tell, over plain functions. -/
import Derived.Test.YtfknoaokoncneaaDoorPDx0
import Derived.Test.YtfknoaokoncneaaDoorPDx3
import Derived.Test.YtfknoaokoncneaaDoorPDx4
import Derived.Test.YtfknoaokoncneaaDoorPDx6
import Derived.Test.YtfknoaokoncneaaDoorPDx7
import Derived.Test.YtfknoaokoncneaaDoorPfT
namespace Go.Proofs.YtfknoaokoncneaaDoor.PfP
open Go.RowKit Go.Proofs.YtfknoaokoncneaaDoor.PD Go.Proofs.YtfknoaokoncneaaDoorW.PrintWords Go.Proofs.YtfknoaokoncneaaDoorW.PrintLast Go.Proofs.YtfknoaokoncneaaDoor.PlD Go.Proofs.YtfknoaokoncneaaDoor.PfD

/-! ### words -/
def unknown : ByteArray := ⟨#[117, 110, 107, 110, 111, 119, 110]⟩
def word (a : Int) : ByteArray := if 0 ≤ a ∧ a < 19 then rdOf ByteArray.empty tab_place_words a else unknown
theorem Word_f (a : Int) : place_Word.f a = some (word a) := by
  unfold place_Word.f word unknown
  by_cases h : a < 0
  · rw [if_pos h, if_neg (by omega)]
  · rw [if_neg h]
    by_cases h2 : a ≥ 19
    · rw [if_pos h2, if_neg (by omega)]
    · rw [if_neg h2, if_pos (by omega), if_pos (by omega), if_pos (by omega)]
theorem words_at : ∀ n : Fin 19, spoolref03_Word.f ((n.val : Nat) : Int) = some (rdOf ByteArray.empty tab_place_words ((n.val : Nat) : Int)) := by decide +kernel
theorem words_small : ∀ n : Fin 19, (rdOf ByteArray.empty tab_place_words ((n.val : Nat) : Int)).size ≤ 11 := by decide +kernel
theorem rWord_f (a : Int) : spoolref03_Word.f a = some (word a) := by
  by_cases h : 0 ≤ a ∧ a < 19
  · have := words_at ⟨a.toNat, by omega⟩
    simp only [show ((a.toNat : Nat) : Int) = a by omega] at this
    rw [this]
    unfold word
    rw [if_pos h]
  · unfold spoolref03_Word.f word unknown
    rw [if_neg h]
    repeat rw [if_neg (by omega)]
theorem word_size (a : Int) : (word a).size ≤ 11 := by
  unfold word
  split
  · rename_i h
    have := words_small ⟨a.toNat, by omega⟩
    rwa [show ((a.toNat : Nat) : Int) = a by omega] at this
  · decide
/-! ### places -/
def ofS (s : ByteArray) : Nat → Nat → Nat → Nat → Nat × Nat
  | 0, _, line, col => (line, col)
  | d + 1, i, line, col => if bt s (i : Int) = 10 then ofS s d (i + 1) (line + 1) 1 else ofS s d (i + 1) line (col + 1)
theorem ofS_bounds (s : ByteArray) (d : Nat) : ∀ i line col, 1 ≤ line → 1 ≤ col → 1 ≤ (ofS s d i line col).1 ∧ (ofS s d i line col).1 ≤ line + d ∧ 1 ≤ (ofS s d i line col).2 ∧ (ofS s d i line col).2 ≤ col + d := by
  induction d with
  | zero => intro i line col h1 h2; exact ⟨h1, Nat.le_refl _, h2, Nat.le_refl _⟩
  | succ d ih =>
    intro i line col h1 h2
    unfold ofS
    split
    · have := ih (i + 1) (line + 1) 1 (by omega) (by omega); omega
    · have := ih (i + 1) line (col + 1) (by omega) (by omega); omega
theorem Of_l0 (s : ByteArray) (hs : s.size ≤ 140737488351232) (A : Nat) (hA : A ≤ s.size) (d : Nat) : ∀ (K i line from_ : Nat), A - i = d → i ≤ A → from_ ≤ i → line ≤ i + 1 → d + 1 ≤ K →
    place_Of.l0 K s (A : Int) (line : Int) (from_ : Int) (A : Int) (i : Int) = some (((ofS s d i line (i - from_ + 1)).1 : Int), ((ofS s d i line (i - from_ + 1)).2 : Int)) := by
  induction d with
  | zero =>
    intro K i line from_ hd hi hf hl hK
    obtain ⟨k, rfl⟩ : ∃ k, K = k + 1 := ⟨K - 1, by omega⟩
    simp only [place_Of.l0]
    rw [if_neg (by omega)]
    simp only [ofS]
    congr 2
    rw [wrap_in (n := (A : Int) - from_) (by omega) (by omega), wrap_in (by omega) (by omega)]
    omega
  | succ d ih =>
    intro K i line from_ hd hi hf hl hK
    obtain ⟨k, rfl⟩ : ∃ k, K = k + 1 := ⟨K - 1, by omega⟩
    simp only [place_Of.l0]
    rw [if_pos (by omega), if_pos (by omega), if_pos (by omega), wrap_in (n := (i : Int) + 1) (by omega) (by omega), wrap_in (n := (line : Int) + 1) (by omega) (by omega)]
    simp only [ofS]
    by_cases hc : bt s (i : Int) = 10
    · rw [if_pos hc, if_pos hc]
      have := ih k (i + 1) (line + 1) (i + 1) (by omega) (by omega) (by omega) (by omega) (by omega)
      rw [show i + 1 - (i + 1) + 1 = 1 by omega] at this
      exact this
    · rw [if_neg hc, if_neg hc]
      have := ih k (i + 1) line from_ (by omega) (by omega) (by omega) (by omega) (by omega)
      rw [show i + 1 - from_ + 1 = i - from_ + 1 + 1 by omega] at this
      exact this
def clamp (s : ByteArray) (a : Int) : Nat := (min (max a 0) (s.size : Int)).toNat
theorem clamp_le (s : ByteArray) (a : Int) : clamp s a ≤ s.size := by unfold clamp; omega
def of (s : ByteArray) (a : Int) : Nat × Nat := ofS s (clamp s a) 0 1 1
theorem of_bounds (s : ByteArray) (a : Int) : 1 ≤ (of s a).1 ∧ (of s a).1 ≤ s.size + 1 ∧ 1 ≤ (of s a).2 ∧ (of s a).2 ≤ s.size + 1 := by
  have := ofS_bounds s (clamp s a) 0 1 1 (by omega) (by omega)
  have := clamp_le s a
  unfold of
  omega
theorem Of_f (s : ByteArray) (hs : s.size ≤ 140737488351232) (a : Int) (K : Nat) (hK : s.size + 1 ≤ K) : place_Of.f K s a = some (((of s a).1 : Int), ((of s a).2 : Int)) := by
  unfold place_Of.f
  have e : mn (mx a 0) (s.size : Int) = ((clamp s a : Nat) : Int) := by unfold mn mx clamp; (repeat' split) <;> omega
  rw [e]
  have := clamp_le s a
  exact Of_l0 s hs (clamp s a) (by omega) (clamp s a) K 0 1 0 (by omega) (by omega) (by omega) (by omega) (by omega)
theorem rOf_l0 (s : ByteArray) (hs : s.size ≤ 140737488351232) (a : Int) (d : Nat) : ∀ (K i line col : Nat), clamp s a - i = d → i ≤ clamp s a → line ≤ i + 1 → col ≤ i + 1 → 2 * d + 2 ≤ K →
    spoolref03_Of.l0 K s a (line : Int) (col : Int) (i : Int) = some (((ofS s d i line col).1 : Int), ((ofS s d i line col).2 : Int)) := by
  have hc := clamp_le s a
  induction d with
  | zero =>
    intro K i line col hd hi hl hco hK
    obtain ⟨k, rfl⟩ : ∃ k, K = k + 2 := ⟨K - 2, by omega⟩
    simp only [spoolref03_Of.l0, spoolref03_Of.j1, ofS]
    have : i = clamp s a := by omega
    unfold clamp at this
    by_cases h : (i : Int) < a
    · rw [if_pos h, decide_eq_false (by omega), if_neg (by simp)]
    · rw [if_neg h, if_neg (by simp)]
  | succ d ih =>
    intro K i line col hd hi hl hco hK
    obtain ⟨k, rfl⟩ : ∃ k, K = k + 2 := ⟨K - 2, by omega⟩
    have h1 : (i : Int) < a ∧ i < s.size := by unfold clamp at hd; omega
    simp only [spoolref03_Of.l0, spoolref03_Of.j1, ofS]
    rw [if_pos h1.1, decide_eq_true (by omega), if_pos rfl, if_pos (by omega), if_pos (by omega), wrap_in (n := (i : Int) + 1) (by omega) (by omega), wrap_in (n := (line : Int) + 1) (by omega) (by omega), wrap_in (n := (col : Int) + 1) (by omega) (by omega)]
    by_cases hb : bt s (i : Int) = 10
    · rw [if_pos hb, if_pos hb]
      exact ih k (i + 1) (line + 1) 1 (by omega) (by omega) (by omega) (by omega) (by omega)
    · rw [if_neg hb, if_neg hb]
      exact ih k (i + 1) line (col + 1) (by omega) (by omega) (by omega) (by omega) (by omega)
theorem rOf_f (s : ByteArray) (hs : s.size ≤ 140737488351232) (a : Int) (K : Nat) (hK : 2 * s.size + 2 ≤ K) : spoolref03_Of.f K s a = some (((of s a).1 : Int), ((of s a).2 : Int)) := by
  unfold spoolref03_Of.f
  have := clamp_le s a
  exact rOf_l0 s hs a (clamp s a) K 0 1 1 (by omega) (by omega) (by omega) (by omega) (by omega)
/-! ### faults -/
def tell (s : ByteArray) (e a : Int) : List Int := textN (of s a).1 ++ [58] ++ textN (of s a).2 ++ [58, 32] ++ L (word e)
theorem Text_nat (n : Nat) (h : n ≤ 140737488351233) (K : Nat) (hK : 300 ≤ K) : ∃ r, digit_Text.f K (n : Int) = some r ∧ L r = textN n ∧ r.size ≤ 19 := by
  obtain ⟨r, e, l⟩ := Text_f (n : Int) (by omega) (by omega) K hK
  unfold textI at l
  rw [if_neg (by omega), show ((n : Int)).toNat = n by omega] at l
  exact ⟨r, e, l, by rw [← L_len, l]; exact textN_len 18 n (by omega)⟩
theorem rText_nat (n : Nat) (h : n ≤ 140737488351233) (K : Nat) (hK : 300 ≤ K) : ∃ r, spoolref01_Text.f K (n : Int) = some r ∧ L r = textN n ∧ r.size ≤ 19 := by
  obtain ⟨r, e, l⟩ := rText_f 18 n K (by omega) (by omega) (by omega) (by omega)
  exact ⟨r, e, l, by rw [← L_len, l]; exact textN_len 18 n (by omega)⟩
theorem L58 : L (⟨#[58]⟩ : ByteArray) = [58] := rfl
theorem L5832 : L (⟨#[58, 32]⟩ : ByteArray) = [58, 32] := rfl
theorem Tell_f (s : ByteArray) (hs : s.size ≤ 140737488351232) (e a : Int) (K : Nat) (hK : 2 * s.size + 300 ≤ K) : ∃ r, place_Tell.f K s e a = some r ∧ L r = tell s e a := by
  unfold place_Tell.f
  have hb := of_bounds s a
  obtain ⟨r1, e1, l1, s1⟩ := Text_nat (of s a).1 (by omega) K (by omega)
  obtain ⟨r2, e2, l2, s2⟩ := Text_nat (of s a).2 (by omega) K (by omega)
  have hw := word_size e
  have z1 : (⟨#[58]⟩ : ByteArray).size = 1 := rfl
  have z2 : (⟨#[58, 32]⟩ : ByteArray).size = 2 := rfl
  rw [Of_f s hs a K (by omega), Word_f]
  simp only [Option.bind_some]
  rw [e1, e2]
  simp only [Option.bind_some, ByteArray.size_append]
  rw [if_pos (by omega), if_pos (by omega), if_pos (by omega), if_pos (by omega)]
  refine ⟨_, rfl, ?_⟩
  simp only [L_append, l1, l2, L58, L5832]
  rfl
theorem rTell_f (s : ByteArray) (hs : s.size ≤ 140737488351232) (e a : Int) (K : Nat) (hK : 2 * s.size + 300 ≤ K) : ∃ r, spoolref03_Tell.f K s e a = some r ∧ L r = tell s e a := by
  unfold spoolref03_Tell.f
  have hb := of_bounds s a
  obtain ⟨r1, e1, l1, s1⟩ := rText_nat (of s a).1 (by omega) K (by omega)
  obtain ⟨r2, e2, l2, s2⟩ := rText_nat (of s a).2 (by omega) K (by omega)
  have hw := word_size e
  have z1 : (⟨#[58]⟩ : ByteArray).size = 1 := rfl
  have z2 : (⟨#[58, 32]⟩ : ByteArray).size = 2 := rfl
  rw [rOf_f s hs a K (by omega), rWord_f]
  simp only [Option.bind_some]
  rw [e1, e2]
  simp only [Option.bind_some, ByteArray.size_append]
  rw [if_pos (by omega), if_pos (by omega), if_pos (by omega), if_pos (by omega)]
  refine ⟨_, rfl, ?_⟩
  simp only [L_append, l1, l2, L58, L5832]
  rfl
theorem alive3_t : ∀ K, 300 ≤ K → spoollaw03_alive.f K = some true := up (g := fun k => spoollaw03_alive.f k) spoollaw03_alive.mono (a := 300) (by decide +kernel)
end Go.Proofs.YtfknoaokoncneaaDoor.PfP

/- Rows of bytes of code points, plainly: parting, what a row tells, how many, how they rise. Conditions: code points of one length, no gap between. -/
import Derived.Test.YtedoopnjhpbjfaaDoorPBx0
import Derived.Test.YtedoopnjhpbjfaaDoorPlE
set_option linter.unusedSimpArgs false
set_option linter.unusedVariables false
namespace Go.Proofs.YtedoopnjhpbjfaaDoor.PlB
open Go.Proofs.YtedoopnjhpbjfaaDoor.PB Go.Proofs.YtedoopnjhpbjfaaDoor.PlE
/-- Whether bytes match a row. -/
def matL : List S35 → List Int → Bool
  | [], [] => true
  | r :: rs, x :: xs => (decide (r.f0 ≤ x) && decide (x ≤ r.f1)) && matL rs xs
  | _, _ => false
def rowOf (lo hi : Int) : List S35 := List.zipWith (fun a b => ⟨a, b⟩) (encU lo) (encU hi)
/-- Two code points of so many bytes each, with no gap between. -/
def Cls (n : Nat) (lo hi : Int) : Prop := lo ≤ hi ∧ ((n = 1 ∧ 0 ≤ lo ∧ hi ≤ 127) ∨ (n = 2 ∧ 128 ≤ lo ∧ hi ≤ 2047) ∨ (n = 3 ∧ 2048 ≤ lo ∧ hi ≤ 65535 ∧ (hi < 55296 ∨ 57343 < lo)) ∨ (n = 4 ∧ 65536 ≤ lo ∧ hi ≤ 1114111))
theorem Cls.sub {n : Nat} {lo hi a b : Int} (h : Cls n lo hi) (h1 : lo ≤ a) (h2 : a ≤ b) (h3 : b ≤ hi) : Cls n a b := by
  unfold Cls at *; omega
/-- What one row can tell. -/
def Leafy (lo hi : Int) : Prop := hi < 128 ∨ (128 ≤ lo ∧ (lo / 64 = hi / 64 ∨ (lo % 64 = 0 ∧ hi % 64 = 63 ∧ (lo / 4096 = hi / 4096 ∨ (lo % 4096 = 0 ∧ hi % 4096 = 4095 ∧ (lo / 262144 = hi / 262144 ∨ (lo % 262144 = 0 ∧ hi % 262144 = 262143)))))))
theorem enc_1 (c : Int) (h : 0 ≤ c ∧ c < 128) : encU c = [c] := by
  unfold encU; rw [if_pos ((sc_iff c).2 (by omega)), if_pos (by omega)]
theorem enc_2 (c : Int) (h : 128 ≤ c ∧ c < 2048) : encU c = [192 + c / 64, 128 + c % 64] := by
  unfold encU; rw [if_pos ((sc_iff c).2 (by omega)), if_neg (by omega), if_pos (by omega)]
theorem enc_3 (c : Int) (h : 2048 ≤ c ∧ c < 65536) (h2 : c < 55296 ∨ 57343 < c) : encU c = [224 + c / 4096, 128 + c / 64 % 64, 128 + c % 64] := by
  unfold encU; rw [if_pos ((sc_iff c).2 (by omega)), if_neg (by omega), if_neg (by omega), if_pos (by omega)]
theorem enc_4 (c : Int) (h : 65536 ≤ c ∧ c ≤ 1114111) : encU c = [240 + c / 262144, 128 + c / 4096 % 64, 128 + c / 64 % 64, 128 + c % 64] := by
  unfold encU; rw [if_pos ((sc_iff c).2 (by omega)), if_neg (by omega), if_neg (by omega), if_neg (by omega)]
theorem Cls.enc {n : Nat} {lo hi : Int} (h : Cls n lo hi) (c : Int) (h1 : lo ≤ c) (h2 : c ≤ hi) : (encU c).length = n ∧ sc c = true := by
  obtain ⟨h0, h | h | h | h⟩ := h
  · rw [enc_1 c (by omega)]; exact ⟨h.1.symm, (sc_iff c).2 (by omega)⟩
  · rw [enc_2 c (by omega)]; exact ⟨h.1.symm, (sc_iff c).2 (by omega)⟩
  · rw [enc_3 c (by omega) (by omega)]; exact ⟨h.1.symm, (sc_iff c).2 (by omega)⟩
  · rw [enc_4 c (by omega)]; exact ⟨h.1.symm, (sc_iff c).2 (by omega)⟩
theorem mat_cons (r : S35) (rs : List S35) (t : List Int) : matL (r :: rs) t = true ↔ ∃ x xs, t = x :: xs ∧ (r.f0 ≤ x ∧ x ≤ r.f1) ∧ matL rs xs = true := by
  match t with
  | [] => simp [matL]
  | x :: t =>
    simp only [matL, Bool.and_eq_true, decide_eq_true_eq]
    constructor
    · rintro ⟨h1, h2⟩
      exact ⟨x, t, rfl, h1, h2⟩
    · rintro ⟨y, ys, e, h1, h2⟩
      cases e
      exact ⟨h1, h2⟩
theorem mat_nil (t : List Int) : matL [] t = true ↔ t = [] := by
  match t with
  | [] => simp [matL]
  | x :: t => simp [matL]

theorem dig (x : Int) (h : 0 ≤ x) : x = x / 262144 * 262144 + x / 4096 % 64 * 4096 + x / 64 % 64 * 64 + x % 64 := by omega
/-- The same, digit by digit. -/
def Digs (a0 b0 c0 d0 a1 b1 c1 d1 : Int) : Prop :=
  (a0 = a1 ∧ b0 = b1 ∧ c0 = c1) ∨ (a0 = a1 ∧ b0 = b1 ∧ d0 = 0 ∧ d1 = 63) ∨ (a0 = a1 ∧ c0 = 0 ∧ c1 = 63 ∧ d0 = 0 ∧ d1 = 63) ∨ (b0 = 0 ∧ b1 = 63 ∧ c0 = 0 ∧ c1 = 63 ∧ d0 = 0 ∧ d1 = 63)
theorem leaf_digs {lo hi : Int} (h : Leafy lo hi) (h0 : 128 ≤ lo) (h1 : lo ≤ hi) : Digs (lo / 262144) (lo / 4096 % 64) (lo / 64 % 64) (lo % 64) (hi / 262144) (hi / 4096 % 64) (hi / 64 % 64) (hi % 64) := by
  have e1 : lo / 4096 = lo / 64 / 64 := by omega
  have e2 : lo / 262144 = lo / 4096 / 64 := by omega
  have f1 : hi / 4096 = hi / 64 / 64 := by omega
  have f2 : hi / 262144 = hi / 4096 / 64 := by omega
  unfold Digs
  rcases h with h | ⟨_, h | ⟨g1, g2, h | ⟨g3, g4, h | ⟨g5, g6⟩⟩⟩⟩
  · omega
  · refine .inl ⟨?_, ?_, by rw [h]⟩
    · rw [e2, f2, e1, f1, h]
    · rw [e1, f1, h]
  · refine .inr (.inl ⟨?_, ?_, g1, g2⟩)
    · rw [e2, f2, h]
    · rw [h]
  · exact .inr (.inr (.inl ⟨h, by omega, by omega, g1, g2⟩))
  · exact .inr (.inr (.inr ⟨by omega, by omega, by omega, by omega, g1, g2⟩))
theorem digs_iff {a0 b0 c0 d0 a1 b1 c1 d1 : Int} (h : Digs a0 b0 c0 d0 a1 b1 c1 d1) (B0 : 0 ≤ b0 ∧ b0 < 64) (C0 : 0 ≤ c0 ∧ c0 < 64) (D0 : 0 ≤ d0 ∧ d0 < 64) (B1 : 0 ≤ b1 ∧ b1 < 64) (C1 : 0 ≤ c1 ∧ c1 < 64) (D1 : 0 ≤ d1 ∧ d1 < 64)
    (a b c d : Int) (B : 0 ≤ b ∧ b < 64) (C : 0 ≤ c ∧ c < 64) (D : 0 ≤ d ∧ d < 64) (hle : a0 * 262144 + b0 * 4096 + c0 * 64 + d0 ≤ a1 * 262144 + b1 * 4096 + c1 * 64 + d1) :
    ((a0 ≤ a ∧ a ≤ a1) ∧ (b0 ≤ b ∧ b ≤ b1) ∧ (c0 ≤ c ∧ c ≤ c1) ∧ (d0 ≤ d ∧ d ≤ d1)) ↔ (a0 * 262144 + b0 * 4096 + c0 * 64 + d0 ≤ a * 262144 + b * 4096 + c * 64 + d ∧ a * 262144 + b * 4096 + c * 64 + d ≤ a1 * 262144 + b1 * 4096 + c1 * 64 + d1) := by
  rcases h with ⟨h1, h2, h3⟩ | ⟨h1, h2, h3, h4⟩ | ⟨h1, h2, h3, h4, h5⟩ | ⟨h1, h2, h3, h4, h5, h6⟩ <;> subst_vars
  · constructor
    · rintro ⟨p, q, r, s⟩; exact ⟨by omega, by omega⟩
    · rintro ⟨p, q⟩
      have e1 : a = a1 := by omega
      subst e1
      have e2 : b = b1 := by omega
      subst e2
      have e3 : c = c1 := by omega
      subst e3
      exact ⟨by omega, by omega, by omega, by omega⟩
  · constructor
    · rintro ⟨p, q, r, s⟩; exact ⟨by omega, by omega⟩
    · rintro ⟨p, q⟩
      have e1 : a = a1 := by omega
      subst e1
      have e2 : b = b1 := by omega
      subst e2
      exact ⟨by omega, by omega, by omega, by omega⟩
  · constructor
    · rintro ⟨p, q, r, s⟩; exact ⟨by omega, by omega⟩
    · rintro ⟨p, q⟩
      have e1 : a = a1 := by omega
      subst e1
      exact ⟨by omega, by omega, by omega, by omega⟩
  · constructor
    · rintro ⟨p, q, r, s⟩; exact ⟨by omega, by omega⟩
    · rintro ⟨p, q⟩
      exact ⟨by omega, by omega, by omega, by omega⟩
theorem leaf_iff {lo hi : Int} (h : Leafy lo hi) (h0 : 128 ≤ lo) (h1 : lo ≤ hi) (a b c d : Int) (B : 0 ≤ b ∧ b < 64) (C : 0 ≤ c ∧ c < 64) (D : 0 ≤ d ∧ d < 64) :
    ((lo / 262144 ≤ a ∧ a ≤ hi / 262144) ∧ (lo / 4096 % 64 ≤ b ∧ b ≤ hi / 4096 % 64) ∧ (lo / 64 % 64 ≤ c ∧ c ≤ hi / 64 % 64) ∧ (lo % 64 ≤ d ∧ d ≤ hi % 64)) ↔ (lo ≤ a * 262144 + b * 4096 + c * 64 + d ∧ a * 262144 + b * 4096 + c * 64 + d ≤ hi) := by
  have e0 := dig lo (by omega)
  have e1 := dig hi (by omega)
  have hd := leaf_digs h h0 h1
  have k := digs_iff hd (by omega) (by omega) (by omega) (by omega) (by omega) (by omega) a b c d B C D (by rw [← e0, ← e1]; exact h1)
  rw [← e0, ← e1] at k
  exact k

set_option maxHeartbeats 2000000 in
/-- Bytes match a row that tells two code points just if they are those of a code point between. -/
theorem leaf_mat {n : Nat} {lo hi : Int} (h : Cls n lo hi) (hl : Leafy lo hi) (t : List Int) : matL (rowOf lo hi) t = true ↔ ∃ c, lo ≤ c ∧ c ≤ hi ∧ t = encU c := by
  obtain ⟨h0, h | h | h | h⟩ := h
  · rw [rowOf, enc_1 lo (by omega), enc_1 hi (by omega)]
    simp only [List.zipWith_cons_cons, List.zipWith_nil_left, List.zipWith_nil_right, mat_cons, mat_nil]
    constructor
    · rintro ⟨x, xs, rfl, hx, rfl⟩
      exact ⟨x, by omega, by omega, by rw [enc_1 x (by omega)]⟩
    · rintro ⟨c, c1, c2, rfl⟩
      exact ⟨c, [], enc_1 c (by omega), by omega, rfl⟩
  · rw [rowOf, enc_2 lo (by omega), enc_2 hi (by omega)]
    simp only [List.zipWith_cons_cons, List.zipWith_nil_left, List.zipWith_nil_right, mat_cons, mat_nil]
    have k := leaf_iff hl (by omega) h0
    have a0 : lo / 262144 = 0 := by omega
    have a1 : hi / 262144 = 0 := by omega
    have b0 : lo / 4096 % 64 = 0 := by omega
    have b1 : hi / 4096 % 64 = 0 := by omega
    have c0 : lo / 64 % 64 = lo / 64 := by omega
    have c1 : hi / 64 % 64 = hi / 64 := by omega
    rw [a0, a1, b0, b1, c0, c1] at k
    have l0 : 0 ≤ lo / 64 := by omega
    have l1 : hi / 64 < 64 := by omega
    have l2 : 0 ≤ lo % 64 := by omega
    have l3 : hi % 64 < 64 := by omega
    clear a0 a1 b0 b1 c0 c1 hl
    constructor
    · rintro ⟨x, xs, rfl, hx, y, ys, rfl, hy, rfl⟩
      obtain ⟨k1, k2⟩ := (k 0 0 (x - 192) (y - 128) (by omega) (by omega) (by omega)).1 ⟨by omega, by omega, by omega, by omega⟩
      refine ⟨0 * 262144 + 0 * 4096 + (x - 192) * 64 + (y - 128), k1, k2, ?_⟩
      rw [enc_2 _ (by omega)]
      rw [show 192 + (0 * 262144 + 0 * 4096 + (x - 192) * 64 + (y - 128)) / 64 = x by omega, show 128 + (0 * 262144 + 0 * 4096 + (x - 192) * 64 + (y - 128)) % 64 = y by omega]
    · rintro ⟨c, c1, c2, rfl⟩
      have k3 := (k 0 0 (c / 64) (c % 64) (by omega) (by omega) (by omega)).2 ⟨by omega, by omega⟩
      exact ⟨_, _, enc_2 c (by omega), by omega, _, _, rfl, by omega, rfl⟩
  · rw [rowOf, enc_3 lo (by omega) (by omega), enc_3 hi (by omega) (by omega)]
    simp only [List.zipWith_cons_cons, List.zipWith_nil_left, List.zipWith_nil_right, mat_cons, mat_nil]
    have k := leaf_iff hl (by omega) h0
    have a0 : lo / 262144 = 0 := by omega
    have a1 : hi / 262144 = 0 := by omega
    have b0 : lo / 4096 % 64 = lo / 4096 := by omega
    have b1 : hi / 4096 % 64 = hi / 4096 := by omega
    rw [a0, a1, b0, b1] at k
    have l0 : 0 ≤ lo / 4096 := by omega
    have l1 : hi / 4096 < 64 := by omega
    have l2 : 0 ≤ lo % 64 := by omega
    have l3 : hi % 64 < 64 := by omega
    have l4 : 0 ≤ lo / 64 % 64 := by omega
    have l5 : hi / 64 % 64 < 64 := by omega
    clear a0 a1 b0 b1 hl
    constructor
    · rintro ⟨x, xs, rfl, hx, y, ys, rfl, hy, z, zs, rfl, hz, rfl⟩
      obtain ⟨k1, k2⟩ := (k 0 (x - 224) (y - 128) (z - 128) (by omega) (by omega) (by omega)).1 ⟨by omega, by omega, by omega, by omega⟩
      have y1 : 0 ≤ y - 128 ∧ y - 128 < 64 := by omega
      have z1 : 0 ≤ z - 128 ∧ z - 128 < 64 := by omega
      clear k hx hy hz
      refine ⟨0 * 262144 + (x - 224) * 4096 + (y - 128) * 64 + (z - 128), k1, k2, ?_⟩
      generalize hc : 0 * 262144 + (x - 224) * 4096 + (y - 128) * 64 + (z - 128) = c at k1 k2 ⊢
      rw [enc_3 _ (by omega) (by omega)]
      rw [show 224 + c / 4096 = x by omega, show 128 + c / 64 % 64 = y by omega, show 128 + c % 64 = z by omega]
    · rintro ⟨c, c1, c2, rfl⟩
      have k3 := (k 0 (c / 4096) (c / 64 % 64) (c % 64) (by omega) (by omega) (by omega)).2 ⟨by omega, by omega⟩
      clear k
      exact ⟨_, _, enc_3 c (by omega) (by omega), by omega, _, _, rfl, by omega, _, _, rfl, by omega, rfl⟩
  · rw [rowOf, enc_4 lo (by omega), enc_4 hi (by omega)]
    simp only [List.zipWith_cons_cons, List.zipWith_nil_left, List.zipWith_nil_right, mat_cons, mat_nil]
    have k := leaf_iff hl (by omega) h0
    have l0 : 0 ≤ lo / 4096 % 64 := by omega
    have l1 : hi / 4096 % 64 < 64 := by omega
    have l2 : 0 ≤ lo % 64 := by omega
    have l3 : hi % 64 < 64 := by omega
    have l4 : 0 ≤ lo / 64 % 64 := by omega
    have l5 : hi / 64 % 64 < 64 := by omega
    clear hl
    generalize lo / 262144 = A0 at *
    generalize hi / 262144 = A1 at *
    generalize lo / 4096 % 64 = B0 at *
    generalize hi / 4096 % 64 = B1 at *
    generalize lo / 64 % 64 = C0 at *
    generalize hi / 64 % 64 = C1 at *
    generalize lo % 64 = D0 at *
    generalize hi % 64 = D1 at *
    constructor
    · rintro ⟨x, xs, rfl, hx, y, ys, rfl, hy, z, zs, rfl, hz, w, ws, rfl, hw, rfl⟩
      have y1 : 0 ≤ y - 128 ∧ y - 128 < 64 := by omega
      have z1 : 0 ≤ z - 128 ∧ z - 128 < 64 := by omega
      have w1 : 0 ≤ w - 128 ∧ w - 128 < 64 := by omega
      obtain ⟨k1, k2⟩ := (k (x - 240) (y - 128) (z - 128) (w - 128) y1 z1 w1).1 ⟨by omega, by omega, by omega, by omega⟩
      clear k hx hy hz hw l0 l1 l2 l3 l4 l5
      refine ⟨(x - 240) * 262144 + (y - 128) * 4096 + (z - 128) * 64 + (w - 128), k1, k2, ?_⟩
      generalize hc : (x - 240) * 262144 + (y - 128) * 4096 + (z - 128) * 64 + (w - 128) = c at k1 k2 ⊢
      rw [enc_4 _ (by omega)]
      rw [show 240 + c / 262144 = x by omega, show 128 + c / 4096 % 64 = y by omega, show 128 + c / 64 % 64 = z by omega, show 128 + c % 64 = w by omega]
    · rintro ⟨c, c1, c2, rfl⟩
      have e := dig c (by omega)
      have k3 := (k (c / 262144) (c / 4096 % 64) (c / 64 % 64) (c % 64) (by omega) (by omega) (by omega)).2 ⟨by rw [← e]; exact c1, by rw [← e]; exact c2⟩
      obtain ⟨⟨k4, k5⟩, ⟨k6, k7⟩, ⟨k8, k9⟩, k10, k11⟩ := k3
      clear k e l0 l1 l2 l3 l4 l5
      exact ⟨_, _, enc_4 c (by omega), ⟨Int.add_le_add_left k4 _, Int.add_le_add_left k5 _⟩, _, _, rfl, ⟨Int.add_le_add_left k6 _, Int.add_le_add_left k7 _⟩, _, _, rfl, ⟨Int.add_le_add_left k8 _, Int.add_le_add_left k9 _⟩, _, _, rfl, ⟨Int.add_le_add_left k10 _, Int.add_le_add_left k11 _⟩, rfl⟩

/-! ### parting -/
def cutM : Nat → Int → Int → Int → Option Int
  | 0, _, _, _ => none
  | j + 1, m, lo, hi => if m ≤ hi ∧ 128 ≤ lo then (if lo / m = hi / m then none else if lo % m ≠ 0 then some (lo - lo % m + m) else if hi % m ≠ m - 1 then some (hi - hi % m) else cutM j (m * 64) lo hi) else none
def cut (lo hi : Int) : Option Int := cutM 4 64 lo hi
def parts : Nat → Int → Int → Option (List S35)
  | 0, _, _ => none
  | k + 1, lo, hi => match cut lo hi with
    | none => some [⟨lo, hi⟩]
    | some p => (parts k lo (p - 1)).bind fun a => (parts k p hi).bind fun b => some (a ++ b)
def b2 (p : Prop) [Decidable p] : Int := if p then 1 else 0
/-- How much is left to part. -/
def wgt (lo hi : Int) : Int :=
  1 + (if lo / 64 = hi / 64 then 0 else b2 (lo % 64 ≠ 0) + b2 (hi % 64 ≠ 63)) + (if lo / 4096 = hi / 4096 then 0 else b2 (lo % 4096 ≠ 0) + b2 (hi % 4096 ≠ 4095)) + (if lo / 262144 = hi / 262144 then 0 else b2 (lo % 262144 ≠ 0) + b2 (hi % 262144 ≠ 262143))
theorem b2_le (p : Prop) [Decidable p] : 0 ≤ b2 p ∧ b2 p ≤ 1 := by unfold b2; split <;> omega
theorem wgt_le (lo hi : Int) : 1 ≤ wgt lo hi ∧ wgt lo hi ≤ 7 := by
  unfold wgt
  have h1 := b2_le (lo % 64 ≠ 0)
  have h2 := b2_le (hi % 64 ≠ 63)
  have h3 := b2_le (lo % 4096 ≠ 0)
  have h4 := b2_le (hi % 4096 ≠ 4095)
  have h5 := b2_le (lo % 262144 ≠ 0)
  have h6 := b2_le (hi % 262144 ≠ 262143)
  generalize b2 (lo % 64 ≠ 0) = x1 at *
  generalize b2 (hi % 64 ≠ 63) = x2 at *
  generalize b2 (lo % 4096 ≠ 0) = x3 at *
  generalize b2 (hi % 4096 ≠ 4095) = x4 at *
  generalize b2 (lo % 262144 ≠ 0) = x5 at *
  generalize b2 (hi % 262144 ≠ 262143) = x6 at *
  repeat' split
  all_goals omega
theorem cut_none {n : Nat} {lo hi : Int} (h : Cls n lo hi) (hc : cut lo hi = none) : Leafy lo hi := by
  have hle := h.1
  have hb : 0 ≤ lo ∧ hi ≤ 1114111 := by unfold Cls at h; omega
  have h128 : hi < 128 ∨ 128 ≤ lo := by unfold Cls at h; omega
  have h64 : n = 2 → 128 ≤ lo := by unfold Cls at h; omega
  unfold Leafy
  rcases h128 with h1 | h1
  · exact .inl h1
  refine .inr ⟨h1, ?_⟩
  unfold cut at hc
  rw [cutM, if_pos ⟨by omega, h1⟩] at hc
  by_cases e1 : lo / 64 = hi / 64
  · exact .inl e1
  rw [if_neg e1] at hc
  by_cases e2 : lo % 64 ≠ 0
  · rw [if_pos e2] at hc; cases hc
  rw [if_neg e2] at hc
  by_cases e3 : hi % 64 ≠ 64 - 1
  · rw [if_pos e3] at hc; cases hc
  rw [if_neg e3, cutM] at hc
  refine .inr ⟨by omega, by omega, ?_⟩
  by_cases e4 : (64 * 64 : Int) ≤ hi ∧ 128 ≤ lo
  case neg => exact .inl (by omega)
  rw [if_pos e4] at hc
  by_cases e5 : lo / (64 * 64) = hi / (64 * 64)
  · exact .inl e5
  rw [if_neg e5] at hc
  by_cases e6 : lo % (64 * 64) ≠ 0
  · rw [if_pos e6] at hc; cases hc
  rw [if_neg e6] at hc
  by_cases e7 : hi % (64 * 64) ≠ 64 * 64 - 1
  · rw [if_pos e7] at hc; cases hc
  rw [if_neg e7, cutM] at hc
  refine .inr ⟨by omega, by omega, ?_⟩
  by_cases e8 : (64 * 64 * 64 : Int) ≤ hi ∧ 128 ≤ lo
  case neg => exact .inl (by omega)
  rw [if_pos e8] at hc
  by_cases e9 : lo / (64 * 64 * 64) = hi / (64 * 64 * 64)
  · exact .inl e9
  rw [if_neg e9] at hc
  by_cases e10 : lo % (64 * 64 * 64) ≠ 0
  · rw [if_pos e10] at hc; cases hc
  rw [if_neg e10] at hc
  by_cases e11 : hi % (64 * 64 * 64) ≠ 64 * 64 * 64 - 1
  · rw [if_pos e11] at hc; cases hc
  exact .inr ⟨by omega, by omega⟩
/-- Where one parts: a step of some width, what is below is whole. -/
theorem cut_some {n : Nat} {lo hi p : Int} (h : Cls n lo hi) (hc : cut lo hi = some p) :
    (lo / 64 ≠ hi / 64 ∧ ((lo % 64 ≠ 0 ∧ p = lo - lo % 64 + 64) ∨ (lo % 64 = 0 ∧ hi % 64 ≠ 63 ∧ p = hi - hi % 64))) ∨
    (lo % 64 = 0 ∧ hi % 64 = 63 ∧ lo / 4096 ≠ hi / 4096 ∧ ((lo % 4096 ≠ 0 ∧ p = lo - lo % 4096 + 4096) ∨ (lo % 4096 = 0 ∧ hi % 4096 ≠ 4095 ∧ p = hi - hi % 4096))) ∨
    (lo % 4096 = 0 ∧ hi % 4096 = 4095 ∧ lo / 262144 ≠ hi / 262144 ∧ ((lo % 262144 ≠ 0 ∧ p = lo - lo % 262144 + 262144) ∨ (lo % 262144 = 0 ∧ hi % 262144 ≠ 262143 ∧ p = hi - hi % 262144))) := by
  have hle := h.1
  have hb : 0 ≤ lo ∧ hi ≤ 1114111 := by unfold Cls at h; omega
  unfold cut at hc
  rw [cutM] at hc
  split at hc
  case isFalse => cases hc
  split at hc
  · cases hc
  rename_i g0 g1
  split at hc
  · rename_i g2; injection hc with hc; exact .inl ⟨g1, .inl ⟨g2, hc.symm⟩⟩
  rename_i g2
  split at hc
  · rename_i g3; injection hc with hc; exact .inl ⟨g1, .inr ⟨by omega, by omega, hc.symm⟩⟩
  rename_i g3
  rw [cutM] at hc
  split at hc
  case isFalse => cases hc
  split at hc
  · cases hc
  rename_i g4 g5
  split at hc
  · rename_i g6; injection hc with hc; exact .inr (.inl ⟨by omega, by omega, g5, .inl ⟨g6, hc.symm⟩⟩)
  rename_i g6
  split at hc
  · rename_i g7; injection hc with hc; exact .inr (.inl ⟨by omega, by omega, g5, .inr ⟨by omega, by omega, hc.symm⟩⟩)
  rename_i g7
  rw [cutM] at hc
  split at hc
  case isFalse => cases hc
  split at hc
  · cases hc
  rename_i g8 g9
  split at hc
  · rename_i g10; injection hc with hc; exact .inr (.inr ⟨by omega, by omega, g9, .inl ⟨g10, hc.symm⟩⟩)
  rename_i g10
  split at hc
  · rename_i g11; injection hc with hc; exact .inr (.inr ⟨by omega, by omega, g9, .inr ⟨by omega, by omega, hc.symm⟩⟩)
  rename_i g11
  rw [cutM] at hc
  split at hc
  · rename_i g12; omega
  · cases hc
theorem cut_in {n : Nat} {lo hi p : Int} (h : Cls n lo hi) (hc : cut lo hi = some p) : lo < p ∧ p ≤ hi := by
  have hle := h.1
  have hb : 0 ≤ lo ∧ hi ≤ 1114111 := by unfold Cls at h; omega
  rcases cut_some h hc with ⟨g, ⟨g1, rfl⟩ | ⟨g1, g2, rfl⟩⟩ | ⟨g3, g4, g, ⟨g1, rfl⟩ | ⟨g1, g2, rfl⟩⟩ | ⟨g3, g4, g, ⟨g1, rfl⟩ | ⟨g1, g2, rfl⟩⟩ <;> constructor <;> omega
theorem b2_t {p : Prop} [Decidable p] (h : p) : b2 p = 1 := if_pos h
theorem b2_f {p : Prop} [Decidable p] (h : ¬ p) : b2 p = 0 := if_neg h
def lv (m lo hi : Int) : Int := if lo / m = hi / m then 0 else b2 (lo % m ≠ 0) + b2 (hi % m ≠ m - 1)
theorem lv_pos (m lo hi : Int) : 0 ≤ lv m lo hi := by
  unfold lv
  have h1 := b2_le (lo % m ≠ 0)
  have h2 := b2_le (hi % m ≠ m - 1)
  split <;> omega
theorem lv_same {m lo hi : Int} (h : lo / m = hi / m) : lv m lo hi = 0 := if_pos h
theorem lv_whole {m lo hi : Int} (h0 : lo % m = 0) (h1 : hi % m = m - 1) : lv m lo hi = 0 := by
  unfold lv
  rw [b2_f (by omega), b2_f (by omega)]
  split <;> rfl
theorem lv_left {m lo hi : Int} (h : lo / m ≠ hi / m) (h0 : lo % m ≠ 0) : lv m lo hi = 1 + b2 (hi % m ≠ m - 1) := by
  unfold lv
  rw [if_neg h, b2_t h0]
theorem lv_right {m lo hi : Int} (h : lo / m ≠ hi / m) (h0 : hi % m ≠ m - 1) : lv m lo hi = b2 (lo % m ≠ 0) + 1 := by
  unfold lv
  rw [if_neg h, b2_t h0]
theorem lv_le_right (m lo hi : Int) (h0 : lo % m = 0) : lv m lo hi ≤ b2 (hi % m ≠ m - 1) := by
  unfold lv
  have h2 := b2_le (hi % m ≠ m - 1)
  rw [b2_f (by omega)]
  split <;> omega
theorem lv_le_left (m lo hi : Int) (h0 : hi % m = m - 1) : lv m lo hi ≤ b2 (lo % m ≠ 0) := by
  unfold lv
  have h2 := b2_le (lo % m ≠ 0)
  rw [b2_f (p := hi % m ≠ m - 1) (by omega)]
  split <;> omega
/-- The left end is moved up within its block: a greater level weighs no more. -/
theorem lv_up {m lo p hi : Int} (h1 : lo / m ≤ p / m) (h2 : p / m ≤ hi / m) (h : lo % m ≠ 0) : lv m p hi ≤ lv m lo hi := by
  by_cases e : p / m = hi / m
  · rw [lv_same e]; exact lv_pos _ _ _
  · rw [lv_left (lo := lo) (by omega) h]
    unfold lv
    have h3 := b2_le (p % m ≠ 0)
    rw [if_neg e]
    omega
theorem lv_down {m lo p hi : Int} (h1 : lo / m ≤ p / m) (h2 : p / m ≤ hi / m) (h : hi % m ≠ m - 1) : lv m lo p ≤ lv m lo hi := by
  by_cases e : lo / m = p / m
  · rw [lv_same e]; exact lv_pos _ _ _
  · rw [lv_right (lo := lo) (hi := hi) (by omega) h]
    unfold lv
    have h3 := b2_le (p % m ≠ m - 1)
    rw [if_neg e]
    omega
theorem wgt_lv (lo hi : Int) : wgt lo hi = 1 + lv 64 lo hi + lv 4096 lo hi + lv 262144 lo hi := rfl
/-- Where one parts: one side is of one row, the other one weighs less. -/
theorem cut_wgt {n : Nat} {lo hi p : Int} (h : Cls n lo hi) (hc : cut lo hi = some p) : wgt lo (p - 1) + wgt p hi ≤ wgt lo hi := by
  have hle := h.1
  have hb : 0 ≤ lo ∧ hi ≤ 1114111 := by unfold Cls at h; omega
  rw [wgt_lv, wgt_lv, wgt_lv]
  rcases cut_some h hc with ⟨g, ⟨g1, e⟩ | ⟨g1, g2, e⟩⟩ | ⟨g3, g4, g, ⟨g1, e⟩ | ⟨g1, g2, e⟩⟩ | ⟨g3, g4, g, ⟨g1, e⟩ | ⟨g1, g2, e⟩⟩
  · rw [lv_same (m := 64) (lo := lo) (hi := p - 1) (by omega), lv_same (m := 4096) (lo := lo) (hi := p - 1) (by omega), lv_same (m := 262144) (lo := lo) (hi := p - 1) (by omega), lv_left (m := 64) (lo := lo) g g1]
    have k1 := lv_le_right 64 p hi (by omega)
    have k2 := lv_up (m := 4096) (lo := lo) (p := p) (hi := hi) (by omega) (by omega) (by omega)
    have k3 := lv_up (m := 262144) (lo := lo) (p := p) (hi := hi) (by omega) (by omega) (by omega)
    omega
  · rw [lv_same (m := 64) (lo := p) (hi := hi) (by omega), lv_same (m := 4096) (lo := p) (hi := hi) (by omega), lv_same (m := 262144) (lo := p) (hi := hi) (by omega), lv_right (m := 64) (lo := lo) (hi := hi) g g2]
    have k1 := lv_le_left 64 lo (p - 1) (by omega)
    have k2 := lv_down (m := 4096) (lo := lo) (p := p - 1) (hi := hi) (by omega) (by omega) (by omega)
    have k3 := lv_down (m := 262144) (lo := lo) (p := p - 1) (hi := hi) (by omega) (by omega) (by omega)
    omega
  · rw [lv_whole (m := 64) (lo := lo) (hi := p - 1) (by omega) (by omega), lv_same (m := 4096) (lo := lo) (hi := p - 1) (by omega), lv_same (m := 262144) (lo := lo) (hi := p - 1) (by omega), lv_whole (m := 64) (lo := p) (hi := hi) (by omega) (by omega), lv_whole (m := 64) (lo := lo) (hi := hi) (by omega) (by omega), lv_left (m := 4096) (lo := lo) g g1]
    have k1 := lv_le_right 4096 p hi (by omega)
    have k3 := lv_up (m := 262144) (lo := lo) (p := p) (hi := hi) (by omega) (by omega) (by omega)
    omega
  · rw [lv_whole (m := 64) (lo := lo) (hi := p - 1) (by omega) (by omega), lv_same (m := 4096) (lo := p) (hi := hi) (by omega), lv_same (m := 262144) (lo := p) (hi := hi) (by omega), lv_whole (m := 64) (lo := p) (hi := hi) (by omega) (by omega), lv_whole (m := 64) (lo := lo) (hi := hi) (by omega) (by omega), lv_right (m := 4096) (lo := lo) (hi := hi) g g2]
    have k1 := lv_le_left 4096 lo (p - 1) (by omega)
    have k3 := lv_down (m := 262144) (lo := lo) (p := p - 1) (hi := hi) (by omega) (by omega) (by omega)
    omega
  · rw [lv_whole (m := 64) (lo := lo) (hi := p - 1) (by omega) (by omega), lv_whole (m := 4096) (lo := lo) (hi := p - 1) (by omega) (by omega), lv_same (m := 262144) (lo := lo) (hi := p - 1) (by omega), lv_whole (m := 64) (lo := p) (hi := hi) (by omega) (by omega), lv_whole (m := 4096) (lo := p) (hi := hi) (by omega) (by omega), lv_whole (m := 64) (lo := lo) (hi := hi) (by omega) (by omega), lv_whole (m := 4096) (lo := lo) (hi := hi) (by omega) (by omega), lv_left (m := 262144) (lo := lo) g g1]
    have k1 := lv_le_right 262144 p hi (by omega)
    omega
  · rw [lv_whole (m := 64) (lo := lo) (hi := p - 1) (by omega) (by omega), lv_whole (m := 4096) (lo := lo) (hi := p - 1) (by omega) (by omega), lv_same (m := 262144) (lo := p) (hi := hi) (by omega), lv_whole (m := 64) (lo := p) (hi := hi) (by omega) (by omega), lv_whole (m := 4096) (lo := p) (hi := hi) (by omega) (by omega), lv_whole (m := 64) (lo := lo) (hi := hi) (by omega) (by omega), lv_whole (m := 4096) (lo := lo) (hi := hi) (by omega) (by omega), lv_right (m := 262144) (lo := lo) (hi := hi) g g2]
    have k1 := lv_le_left 262144 lo (p - 1) (by omega)
    omega
/-- Tiles of code points from lo to hi, each of one row. -/
inductive Til (n : Nat) : Int → Int → List S35 → Prop
  | one {lo hi : Int} (h : Cls n lo hi) (hl : Leafy lo hi) : Til n lo hi [⟨lo, hi⟩]
  | app {lo p hi : Int} {a b : List S35} (h1 : lo < p) (h2 : p ≤ hi) (ha : Til n lo (p - 1) a) (hb : Til n p hi b) : Til n lo hi (a ++ b)
theorem parts_some {n : Nat} : ∀ (d : Nat) (lo hi : Int), hi - lo < d → Cls n lo hi → ∃ L, (∀ k, d ≤ k → parts k lo hi = some L) ∧ Til n lo hi L ∧ (L.length : Int) ≤ wgt lo hi := by
  intro d
  induction d with
  | zero => intro lo hi h hc; have := hc.1; omega
  | succ d ih =>
    intro lo hi h hc
    cases e : cut lo hi with
    | none =>
      refine ⟨[⟨lo, hi⟩], fun k hk => ?_, .one hc (cut_none hc e), ?_⟩
      · obtain ⟨k, rfl⟩ : ∃ k', k = k' + 1 := ⟨k - 1, by omega⟩
        rw [parts, e]
      · have := (wgt_le lo hi).1; simpa using this
    | some p =>
      obtain ⟨h1, h2⟩ := cut_in hc e
      obtain ⟨a, a1, a2, a3⟩ := ih lo (p - 1) (by omega) (hc.sub (Int.le_refl _) (by omega) (by omega))
      obtain ⟨b, b1, b2, b3⟩ := ih p hi (by omega) (hc.sub (by omega) h2 (Int.le_refl _))
      refine ⟨a ++ b, fun k hk => ?_, .app h1 h2 a2 b2, ?_⟩
      · obtain ⟨k, rfl⟩ : ∃ k', k = k' + 1 := ⟨k - 1, by omega⟩
        rw [parts, e]
        simp only
        rw [a1 k (by omega), b1 k (by omega)]
        rfl
      · have := cut_wgt hc e
        rw [List.length_append]
        omega
/-- Each tile: of one row, within. -/
theorem Til.mem {n : Nat} {lo hi : Int} {L : List S35} (h : Til n lo hi L) : ∀ t ∈ L, lo ≤ t.f0 ∧ t.f1 ≤ hi ∧ Cls n t.f0 t.f1 ∧ Leafy t.f0 t.f1 := by
  induction h with
  | one h hl =>
    intro t ht
    simp only [List.mem_singleton] at ht
    subst ht
    exact ⟨Int.le_refl _, Int.le_refl _, h, hl⟩
  | app h1 h2 ha hb i1 i2 =>
    intro t ht
    rcases List.mem_append.1 ht with ht | ht
    · obtain ⟨j1, j2, j3⟩ := i1 t ht
      exact ⟨j1, by omega, j3⟩
    · obtain ⟨j1, j2, j3⟩ := i2 t ht
      exact ⟨by omega, j2, j3⟩
theorem Til.cover {n : Nat} {lo hi : Int} {L : List S35} (h : Til n lo hi L) (c : Int) : (lo ≤ c ∧ c ≤ hi) ↔ ∃ t ∈ L, t.f0 ≤ c ∧ c ≤ t.f1 := by
  constructor
  · intro hc
    induction h with
    | one h hl => exact ⟨_, List.mem_singleton.2 rfl, hc⟩
    | @app lo p hi a b h1 h2 ha hb i1 i2 =>
      by_cases e : c < p
      · obtain ⟨t, ht, h3⟩ := i1 (by omega)
        exact ⟨t, List.mem_append_left _ ht, h3⟩
      · obtain ⟨t, ht, h3⟩ := i2 (by omega)
        exact ⟨t, List.mem_append_right _ ht, h3⟩
  · rintro ⟨t, ht, h1, h2⟩
    obtain ⟨j1, j2, _⟩ := h.mem t ht
    omega
theorem Til.sorted {n : Nat} {lo hi : Int} {L : List S35} (h : Til n lo hi L) : L.Pairwise (fun x y => x.f1 < y.f0) := by
  induction h with
  | one h hl => exact List.pairwise_singleton _ _
  | app h1 h2 ha hb i1 i2 =>
    refine List.pairwise_append.2 ⟨i1, i2, fun x hx y hy => ?_⟩
    have := (ha.mem x hx).2.1
    have := (hb.mem y hy).1
    omega
/-- How many code points. -/
def sz (L : List S35) : Int := (L.map fun t => t.f1 - t.f0 + 1).sum
theorem sz_append (a b : List S35) : sz (a ++ b) = sz a + sz b := by simp [sz]
theorem Til.size {n : Nat} {lo hi : Int} {L : List S35} (h : Til n lo hi L) : sz L = hi - lo + 1 := by
  induction h with
  | one h hl => simp [sz]
  | app h1 h2 ha hb i1 i2 => rw [sz_append, i1, i2]; omega
/-! ### how many texts match a row -/
def prodL (r : List S35) : Int := r.foldl (fun n t => n * (t.f1 - t.f0 + 1)) 1
theorem leaf_prod {n : Nat} {lo hi : Int} (h : Cls n lo hi) (hl : Leafy lo hi) : prodL (rowOf lo hi) = hi - lo + 1 := by
  obtain ⟨h0, h | h | h | h⟩ := h
  · rw [rowOf, enc_1 lo (by omega), enc_1 hi (by omega)]
    simp only [List.zipWith_cons_cons, List.zipWith_nil_right, prodL, List.foldl_cons, List.foldl_nil]
    omega
  · rw [rowOf, enc_2 lo (by omega), enc_2 hi (by omega)]
    simp only [List.zipWith_cons_cons, List.zipWith_nil_right, prodL, List.foldl_cons, List.foldl_nil]
    have k := leaf_digs hl (by omega) h0
    have e0 := dig lo (by omega)
    have e1 := dig hi (by omega)
    have a0 : lo / 262144 = 0 := by omega
    have a1 : hi / 262144 = 0 := by omega
    have b0 : lo / 4096 % 64 = 0 := by omega
    have b1 : hi / 4096 % 64 = 0 := by omega
    have c0 : lo / 64 % 64 = lo / 64 := by omega
    have c1 : hi / 64 % 64 = hi / 64 := by omega
    rw [a0, b0, c0] at e0
    rw [a1, b1, c1] at e1
    rw [a0, b0, c0, a1, b1, c1] at k
    clear a0 a1 b0 b1 c0 c1 hl
    generalize lo / 64 = C0 at *
    generalize hi / 64 = C1 at *
    generalize lo % 64 = D0 at *
    generalize hi % 64 = D1 at *
    rcases k with ⟨_, _, k3⟩ | ⟨_, _, k3, k4⟩ | ⟨_, k3, k4, k5, k6⟩ | ⟨k1, k2, _⟩
    · subst k3
      rw [show 192 + C0 - (192 + C0) + 1 = (1 : Int) by omega, Int.mul_one, Int.one_mul]
      omega
    · subst k3 k4
      rw [show 128 + (63 : Int) - (128 + 0) + 1 = 64 by omega]
      omega
    · subst k3 k4 k5 k6
      omega
    · omega
  · rw [rowOf, enc_3 lo (by omega) (by omega), enc_3 hi (by omega) (by omega)]
    simp only [List.zipWith_cons_cons, List.zipWith_nil_right, prodL, List.foldl_cons, List.foldl_nil]
    have k := leaf_digs hl (by omega) h0
    have e0 := dig lo (by omega)
    have e1 := dig hi (by omega)
    have a0 : lo / 262144 = 0 := by omega
    have a1 : hi / 262144 = 0 := by omega
    have b0 : lo / 4096 % 64 = lo / 4096 := by omega
    have b1 : hi / 4096 % 64 = hi / 4096 := by omega
    rw [a0, b0] at e0
    rw [a1, b1] at e1
    rw [a0, b0, a1, b1] at k
    have d0 : hi / 4096 < 63 := by omega
    clear a0 a1 b0 b1 hl
    generalize lo / 4096 = B0 at *
    generalize hi / 4096 = B1 at *
    generalize lo / 64 % 64 = C0 at *
    generalize hi / 64 % 64 = C1 at *
    generalize lo % 64 = D0 at *
    generalize hi % 64 = D1 at *
    rcases k with ⟨_, k2, k3⟩ | ⟨_, k2, k3, k4⟩ | ⟨_, k3, k4, k5, k6⟩ | ⟨k1, k2, _⟩
    · subst k2 k3
      rw [show 224 + B0 - (224 + B0) + 1 = (1 : Int) by omega, show 128 + C0 - (128 + C0) + 1 = (1 : Int) by omega, Int.mul_one, Int.mul_one, Int.one_mul]
      omega
    · subst k2 k3 k4
      rw [show 224 + B0 - (224 + B0) + 1 = (1 : Int) by omega, show 128 + (63 : Int) - (128 + 0) + 1 = 64 by omega, Int.mul_one, Int.one_mul]
      omega
    · subst k3 k4 k5 k6
      rw [show 128 + (63 : Int) - (128 + 0) + 1 = 64 by omega, Int.one_mul]
      omega
    · omega
  · rw [rowOf, enc_4 lo (by omega), enc_4 hi (by omega)]
    simp only [List.zipWith_cons_cons, List.zipWith_nil_right, prodL, List.foldl_cons, List.foldl_nil]
    have k := leaf_digs hl (by omega) h0
    have e0 := dig lo (by omega)
    have e1 := dig hi (by omega)
    clear hl
    generalize lo / 262144 = A0 at *
    generalize hi / 262144 = A1 at *
    generalize lo / 4096 % 64 = B0 at *
    generalize hi / 4096 % 64 = B1 at *
    generalize lo / 64 % 64 = C0 at *
    generalize hi / 64 % 64 = C1 at *
    generalize lo % 64 = D0 at *
    generalize hi % 64 = D1 at *
    rcases k with ⟨k1, k2, k3⟩ | ⟨k1, k2, k3, k4⟩ | ⟨k1, k3, k4, k5, k6⟩ | ⟨k1, k2, k3, k4, k5, k6⟩
    · subst k1 k2 k3
      rw [show 240 + A0 - (240 + A0) + 1 = (1 : Int) by omega, show 128 + B0 - (128 + B0) + 1 = (1 : Int) by omega, show 128 + C0 - (128 + C0) + 1 = (1 : Int) by omega, Int.mul_one, Int.mul_one, Int.mul_one, Int.one_mul]
      omega
    · subst k1 k2 k3 k4
      rw [show 240 + A0 - (240 + A0) + 1 = (1 : Int) by omega, show 128 + B0 - (128 + B0) + 1 = (1 : Int) by omega, show 128 + (63 : Int) - (128 + 0) + 1 = 64 by omega, Int.mul_one, Int.mul_one, Int.one_mul]
      omega
    · subst k1 k3 k4 k5 k6
      rw [show 240 + A0 - (240 + A0) + 1 = (1 : Int) by omega, show 128 + (63 : Int) - (128 + 0) + 1 = 64 by omega, Int.mul_one, Int.one_mul]
      omega
    · subst k1 k2 k3 k4 k5 k6
      rw [show 128 + (63 : Int) - (128 + 0) + 1 = 64 by omega, Int.one_mul]
      omega
/-! ### how many numbers -/
def cnt (P : Nat → Bool) : Nat → Nat
  | 0 => 0
  | n + 1 => cnt P n + (if P n = true then 1 else 0)
theorem cnt_or (P Q : Nat → Bool) (h : ∀ i, ¬ (P i = true ∧ Q i = true)) : ∀ n, cnt (fun i => P i || Q i) n = cnt P n + cnt Q n := by
  intro n
  induction n with
  | zero => rfl
  | succ n ih =>
    simp only [cnt, ih]
    have hn := h n
    by_cases hp : P n = true
    · have hq : Q n = false := by cases e : Q n with | false => rfl | true => exact absurd ⟨hp, e⟩ hn
      simp [hp, hq]; omega
    · have hp' : P n = false := by simpa using hp
      simp [hp']; omega
theorem cnt_congr {P Q : Nat → Bool} {n : Nat} (h : ∀ i, i < n → P i = Q i) : cnt P n = cnt Q n := by
  induction n with
  | zero => rfl
  | succ n ih => simp only [cnt]; rw [ih (fun i hi => h i (by omega)), h n (by omega)]
theorem cnt_none (P : Nat → Bool) (h : ∀ i, P i = false) : ∀ n, cnt P n = 0 := by
  intro n
  induction n with
  | zero => rfl
  | succ n ih => simp [cnt, ih, h]
theorem cnt_iv (a b : Nat) (h : a ≤ b) : ∀ n, b < n → cnt (fun i => decide (a ≤ i) && decide (i ≤ b)) n = b - a + 1 := by
  have key : ∀ n, cnt (fun i => decide (a ≤ i) && decide (i ≤ b)) n = min n (b + 1) - a := by
    intro n
    induction n with
    | zero => simp [cnt]
    | succ n ih =>
      simp only [cnt, ih, Bool.and_eq_true, decide_eq_true_eq]
      split <;> omega
  intro n hn
  rw [key]
  omega
/-- Ranges one behind the other. -/
def Dj (L : List S35) : Prop := L.Pairwise (fun x y => x.f1 < y.f0) ∧ ∀ t ∈ L, 0 ≤ t.f0 ∧ t.f0 ≤ t.f1 ∧ t.f1 ≤ 1114111
def inB (L : List S35) (c : Int) : Bool := L.any fun t => decide (t.f0 ≤ c) && decide (c ≤ t.f1)
theorem inB_iff (L : List S35) (c : Int) : inB L c = true ↔ ∃ t ∈ L, t.f0 ≤ c ∧ c ≤ t.f1 := by simp [inB]
theorem sz_cnt : ∀ (L : List S35), Dj L → sz L = (cnt (fun i => inB L (i : Int)) 1114112 : Int) := by
  intro L
  induction L with
  | nil => intro _; rw [show cnt (fun i => inB [] (i : Int)) 1114112 = 0 from cnt_none _ (fun i => rfl) _]; rfl
  | cons t L ih =>
    intro h
    obtain ⟨h1, h2⟩ := h
    have ht := h2 t (List.mem_cons_self ..)
    have hs := List.pairwise_cons.1 h1
    have e := ih ⟨hs.2, fun x hx => h2 x (List.mem_cons_of_mem _ hx)⟩
    have e2 : cnt (fun i => inB (t :: L) (i : Int)) 1114112 = cnt (fun i => decide (t.f0.toNat ≤ i) && decide (i ≤ t.f1.toNat)) 1114112 + cnt (fun i => inB L (i : Int)) 1114112 := by
      rw [← cnt_or]
      · refine cnt_congr fun i _ => ?_
        simp only [inB, List.any_cons]
        congr 1
        rw [Bool.eq_iff_iff]
        simp only [Bool.and_eq_true, decide_eq_true_eq]
        omega
      · rintro i ⟨p, q⟩
        simp only [Bool.and_eq_true, decide_eq_true_eq] at p
        obtain ⟨y, hy, q1, q2⟩ := (inB_iff L i).1 q
        have := hs.1 y hy
        omega
    rw [e2, cnt_iv _ _ (by omega) _ (by omega)]
    have : sz (t :: L) = (t.f1 - t.f0 + 1) + sz L := by simp [sz]
    rw [this, e]
    omega
/-- The same numbers: as many. -/
theorem sz_same (X Y : List S35) (hx : Dj X) (hy : Dj Y) (h : ∀ c : Int, 0 ≤ c → c ≤ 1114111 → (inB X c = true ↔ inB Y c = true)) : sz X = sz Y := by
  rw [sz_cnt X hx, sz_cnt Y hy]
  rw [cnt_congr (n := 1114112) (fun i hi => Bool.eq_iff_iff.2 (h (i : Int) (by omega) (by omega)))]
/-! ### the order of bytes -/
def lexI : List Int → List Int → Bool
  | _, [] => false
  | [], _ :: _ => true
  | a :: x, b :: y => decide (a < b) || (decide (a = b) && lexI x y)
theorem lex_enc {n : Nat} {c d : Int} (hc : Cls n c c) (hd : Cls n d d) (h : c < d) : lexI (encU c) (encU d) = true := by
  obtain ⟨_, hc⟩ := hc
  obtain ⟨_, hd⟩ := hd
  rcases hc with hc | hc | hc | hc
  · rw [enc_1 c (by omega), enc_1 d (by omega)]
    simp [lexI]; omega
  · rw [enc_2 c (by omega), enc_2 d (by omega)]
    simp [lexI]; omega
  · rw [enc_3 c (by omega) (by omega), enc_3 d (by omega) (by omega)]
    simp only [lexI, Bool.or_eq_true, Bool.and_eq_true, decide_eq_true_eq]
    by_cases e1 : c / 4096 < d / 4096
    · exact .inl (by omega)
    refine .inr ⟨by omega, ?_⟩
    by_cases e2 : c / 64 % 64 < d / 64 % 64
    · exact .inl (by omega)
    exact .inr ⟨by omega, .inl (by omega)⟩
  · rw [enc_4 c (by omega), enc_4 d (by omega)]
    have e0 := dig c (by omega)
    have e1 := dig d (by omega)
    simp only [lexI, Bool.or_eq_true, Bool.and_eq_true, decide_eq_true_eq]
    have b1 : 0 ≤ c / 4096 % 64 ∧ c / 4096 % 64 < 64 := by omega
    have b2 : 0 ≤ c / 64 % 64 ∧ c / 64 % 64 < 64 := by omega
    have b3 : 0 ≤ c % 64 ∧ c % 64 < 64 := by omega
    have b4 : 0 ≤ d / 4096 % 64 ∧ d / 4096 % 64 < 64 := by omega
    have b5 : 0 ≤ d / 64 % 64 ∧ d / 64 % 64 < 64 := by omega
    have b6 : 0 ≤ d % 64 ∧ d % 64 < 64 := by omega
    clear hc hd
    generalize c / 262144 = A0 at *
    generalize d / 262144 = A1 at *
    generalize c / 4096 % 64 = B0 at *
    generalize d / 4096 % 64 = B1 at *
    generalize c / 64 % 64 = C0 at *
    generalize d / 64 % 64 = C1 at *
    generalize c % 64 = D0 at *
    generalize d % 64 = D1 at *
    by_cases f1 : A0 < A1
    · exact .inl (by omega)
    refine .inr ⟨by omega, ?_⟩
    by_cases f2 : B0 < B1
    · exact .inl (by omega)
    refine .inr ⟨by omega, ?_⟩
    by_cases f3 : C0 < C1
    · exact .inl (by omega)
    exact .inr ⟨by omega, .inl (by omega)⟩
def partsAll (k : Nat) : List S35 → Option (List S35)
  | [] => some []
  | r :: rs => (parts k r.f0 r.f1).bind fun a => (partsAll k rs).bind fun b => some (a ++ b)
/-- What all tiles of some ranges of one length are. -/
structure Tls (n : Nat) (X T : List S35) : Prop where
  sorted : T.Pairwise (fun x y => x.f1 < y.f0)
  tile : ∀ t ∈ T, Cls n t.f0 t.f1 ∧ Leafy t.f0 t.f1
  inn : ∀ t ∈ T, ∃ r ∈ X, r.f0 ≤ t.f0 ∧ t.f1 ≤ r.f1
  same : ∀ c, inB T c = true ↔ inB X c = true
  few : T.length ≤ 7 * X.length
theorem partsAll_good (n : Nat) : ∀ X : List S35, X.Pairwise (fun x y => x.f1 < y.f0) → (∀ r ∈ X, Cls n r.f0 r.f1) → ∃ T, (∀ k, 1200000 ≤ k → partsAll k X = some T) ∧ Tls n X T := by
  intro X
  induction X with
  | nil => intro _ _; exact ⟨[], fun _ _ => rfl, ⟨List.Pairwise.nil, (by simp), (by simp), fun _ => Iff.rfl, (by simp)⟩⟩
  | cons r X ih =>
    intro hs hc
    have h2 := List.pairwise_cons.1 hs
    have hr := hc r (List.mem_cons_self ..)
    obtain ⟨T, t1, t2⟩ := ih h2.2 (fun x hx => hc x (List.mem_cons_of_mem _ hx))
    obtain ⟨A, a1, a2, a3⟩ := parts_some 1200000 r.f0 r.f1 (by unfold Cls at hr; omega) hr
    have hw := (wgt_le r.f0 r.f1).2
    refine ⟨A ++ T, fun k hk => ?_, ?_, ?_, ?_, ?_, ?_⟩
    · rw [partsAll, a1 k hk, t1 k hk]; rfl
    · refine List.pairwise_append.2 ⟨a2.sorted, t2.sorted, fun x hx y hy => ?_⟩
      obtain ⟨q, hq, q1, q2⟩ := t2.inn y hy
      have := h2.1 q hq
      have := (a2.mem x hx).2.1
      omega
    · intro t ht
      rcases List.mem_append.1 ht with ht | ht
      · exact (a2.mem t ht).2.2
      · exact t2.tile t ht
    · intro t ht
      rcases List.mem_append.1 ht with ht | ht
      · obtain ⟨m1, m2, _⟩ := a2.mem t ht
        exact ⟨r, List.mem_cons_self .., m1, m2⟩
      · obtain ⟨q, hq, q1, q2⟩ := t2.inn t ht
        exact ⟨q, List.mem_cons_of_mem _ hq, q1, q2⟩
    · intro c
      have e1 := a2.cover c
      have e2 := t2.same c
      have e3 : inB (A ++ T) c = (inB A c || inB T c) := by simp [inB]
      have e4 : inB (r :: X) c = ((decide (r.f0 ≤ c) && decide (c ≤ r.f1)) || inB X c) := by simp [inB]
      rw [e3, e4, Bool.or_eq_true, Bool.or_eq_true, e2, inB_iff, ← e1]
      simp
    · rw [List.length_append, List.length_cons]
      have := t2.few
      omega
/-! ### rows -/
def rowT (t : S35) : List S35 := rowOf t.f0 t.f1
theorem row_len {n : Nat} {lo hi : Int} (h : Cls n lo hi) : (rowOf lo hi).length = n := by
  unfold rowOf
  rw [List.length_zipWith, (h.enc lo (Int.le_refl _) h.1).1, (h.enc hi h.1 (Int.le_refl _)).1, Nat.min_self]
theorem mat_bounds : ∀ (r : List S35) (t : List Int), matL r t = true → ∀ x ∈ r, x.f0 ≤ x.f1 := by
  intro r
  induction r with
  | nil => intro t _ x hx; cases hx
  | cons y r ih =>
    intro t h x hx
    obtain ⟨z, zs, rfl, h1, h2⟩ := (mat_cons y r t).1 h
    rcases List.mem_cons.1 hx with rfl | hx
    · omega
    · exact ih zs h2 x hx
theorem zip_mem : ∀ (a b : List Int) (x : S35), x ∈ List.zipWith (fun a b => (⟨a, b⟩ : S35)) a b → x.f0 ∈ a ∧ x.f1 ∈ b := by
  intro a
  induction a with
  | nil => intro b x hx; simp at hx
  | cons y a ih =>
    intro b x hx
    cases b with
    | nil => simp at hx
    | cons z b =>
      rw [List.zipWith_cons_cons] at hx
      rcases List.mem_cons.1 hx with rfl | hx
      · exact ⟨List.mem_cons_self .., List.mem_cons_self ..⟩
      · obtain ⟨h1, h2⟩ := ih b x hx
        exact ⟨List.mem_cons_of_mem _ h1, List.mem_cons_of_mem _ h2⟩
theorem enc_byte (c : Int) : ∀ x ∈ encU c, 0 ≤ x ∧ x < 256 := by
  intro x hx
  unfold encU at hx
  split at hx
  · rename_i h
    rw [sc_iff] at h
    (repeat' split at hx) <;> (simp only [List.mem_cons, List.not_mem_nil, or_false] at hx; omega)
  · cases hx
theorem row_bytes {n : Nat} {lo hi : Int} (h : Cls n lo hi) (hl : Leafy lo hi) : ∀ x ∈ rowOf lo hi, 0 ≤ x.f0 ∧ x.f0 ≤ x.f1 ∧ x.f1 ≤ 255 := by
  intro x hx
  have hm := (leaf_mat h hl (encU lo)).2 ⟨lo, Int.le_refl _, h.1, rfl⟩
  have h1 := mat_bounds _ _ hm x hx
  obtain ⟨h2, h3⟩ := zip_mem _ _ x hx
  have := enc_byte lo _ h2
  have := enc_byte hi _ h3
  omega
theorem row_lo {n : Nat} {lo hi : Int} (h : Cls n lo hi) : (rowOf lo hi).map S35.f0 = encU lo := by
  unfold rowOf
  have e1 := (h.enc lo (Int.le_refl _) h.1).1
  have e2 := (h.enc hi h.1 (Int.le_refl _)).1
  generalize encU lo = a at *
  generalize encU hi = b at *
  have e : a.length = b.length := by omega
  clear e1 e2 h
  induction a generalizing b with
  | nil => rfl
  | cons x a ih =>
    cases b with
    | nil => cases e
    | cons y b =>
      rw [List.zipWith_cons_cons, List.map_cons, ih b (by simpa using e)]
theorem Cls.one {n : Nat} {lo hi : Int} (h : Cls n lo hi) : Cls n lo lo := h.sub (Int.le_refl _) (Int.le_refl _) h.1
theorem Cls.up {n m : Nat} {a b c d : Int} (h : Cls n a b) (g : Cls m c d) (e : b < c) : n ≤ m := by
  unfold Cls at h g; omega
/-- How rows stand to one another: by length, then by their least texts. -/
theorem row_rise {n m : Nat} {x y : S35} (h : Cls n x.f0 x.f1) (g : Cls m y.f0 y.f1) (e : x.f1 < y.f0) : (rowT x).length < (rowT y).length ∨ ((rowT x).length = (rowT y).length ∧ lexI ((rowT x).map S35.f0) ((rowT y).map S35.f0) = true) := by
  unfold rowT
  rw [row_len h, row_len g, row_lo h, row_lo g]
  have := h.up g e
  by_cases q : n = m
  · subst q
    have := h.1
    exact .inr ⟨rfl, lex_enc h.one g.one (by omega)⟩
  · exact .inl (by omega)
/-- How many texts match some rows. -/
theorem rows_prod (T : List S35) (hc : ∀ t ∈ T, ∃ n, Cls n t.f0 t.f1 ∧ Leafy t.f0 t.f1) : (T.map fun t => prodL (rowT t)).sum = sz T := by
  unfold sz
  congr 1
  refine List.map_congr_left fun t ht => ?_
  obtain ⟨n, h1, h2⟩ := hc t ht
  exact leaf_prod h1 h2
end Go.Proofs.YtedoopnjhpbjfaaDoor.PlB

/- The first code point of a text: what the program's reader tells, plainly. No condition. -/
import Derived.Test.YtfknoaokoncneaaDoorPUx2
import Derived.Test.YtfknoaokoncneaaDoorPlD
set_option linter.unusedSimpArgs false
set_option linter.unusedVariables false
namespace Go.Proofs.YtfknoaokoncneaaDoor.PlU
open Go.RowKit Go.Proofs.YtfknoaokoncneaaDoorW.PrintWords Go.Proofs.YtfknoaokoncneaaDoorW.PrintLast Go.Proofs.YtfknoaokoncneaaDoorW.PrintMore Go.Proofs.YtfknoaokoncneaaDoor.PU
/-- The code point that so many bytes begin with, and how many it has. -/
def decB (n : Nat) (b0 b1 b2 b3 : Int) : Int × Int :=
  if n = 0 then (-1, 0)
  else if b0 < 128 then (b0, 1)
  else if b0 < 194 ∨ 244 < b0 then (-1, 1)
  else if b0 < 224 then (if 2 ≤ n ∧ 128 ≤ b1 ∧ b1 ≤ 191 then ((b0 - 192) * 64 + (b1 - 128), 2) else (-1, 1))
  else if b0 < 240 then (if 3 ≤ n ∧ (if b0 = 224 then 160 else 128) ≤ b1 ∧ b1 ≤ (if b0 = 237 then 159 else 191) ∧ 128 ≤ b2 ∧ b2 ≤ 191 then ((b0 - 224) * 4096 + (b1 - 128) * 64 + (b2 - 128), 3) else (-1, 1))
  else (if 4 ≤ n ∧ (if b0 = 240 then 144 else 128) ≤ b1 ∧ b1 ≤ (if b0 = 244 then 143 else 191) ∧ 128 ≤ b2 ∧ b2 ≤ 191 ∧ 128 ≤ b3 ∧ b3 ≤ 191 then ((b0 - 240) * 262144 + (b1 - 128) * 4096 + (b2 - 128) * 64 + (b3 - 128), 4) else (-1, 1))
theorem w32 (x : Int) (h0 : -2147483648 ≤ x) (h1 : x < 2147483648) : wrap32 x = x := by unfold wrap32; omega
theorem w64 (x : Int) (h0 : -9223372036854775808 ≤ x) (h1 : x < 9223372036854775808) : wrap64 x = x := by unfold wrap64; omega
def firstF (n : Nat) : Int := if n < 128 then 240 else if n < 194 then 241 else if n < 224 then 2 else if n = 224 then 19 else if n = 237 then 35 else if n < 240 then 3 else if n = 240 then 52 else if n < 244 then 4 else if n = 244 then 68 else 241
theorem first_eq : ∀ n : Nat, n < 256 → rd tab_utf8_first (n : Int) = firstF n := by decide +kernel
theorem bad_one : ∀ n : Nat, n < 256 → 128 ≤ n → 240 ≤ firstF n → Go.bits .or .i32 (Go.bits .andNot .i32 (wrap32 (n : Int)) ((wrap32 ((wrap32 (firstF n)) * 2147483648)) / 2147483648)) (Go.bits .and .i32 65533 ((wrap32 ((wrap32 (firstF n)) * 2147483648)) / 2147483648)) = 65533 := by decide +kernel
theorem two (b0 b1 : Int) (h0 : 192 ≤ b0 ∧ b0 ≤ 223) (h1 : 128 ≤ b1 ∧ b1 ≤ 191) : Go.bits .or .i32 (wrap32 ((wrap32 (Go.bits .and .u8 b0 31)) * 64)) (wrap32 (Go.bits .and .u8 b1 63)) = (b0 - 192) * 64 + (b1 - 128) := by
  rw [Go.u8_and31 b0 (by omega) (by omega), Go.u8_and63 b1 (by omega) (by omega), w32 (b0 % 32) (by omega) (by omega), w32 (b0 % 32 * 64) (by omega) (by omega), w32 (b1 % 64) (by omega) (by omega), Go.i32_or6 (b0 % 32 * 64) (b1 % 64) (by omega) (by omega) (by omega) (by omega) (by omega)]
  omega
theorem three (b0 b1 b2 : Int) (h0 : 224 ≤ b0 ∧ b0 ≤ 239) (h1 : 128 ≤ b1 ∧ b1 ≤ 191) (h2 : 128 ≤ b2 ∧ b2 ≤ 191) : Go.bits .or .i32 (Go.bits .or .i32 (wrap32 ((wrap32 (Go.bits .and .u8 b0 15)) * 4096)) (wrap32 ((wrap32 (Go.bits .and .u8 b1 63)) * 64))) (wrap32 (Go.bits .and .u8 b2 63)) = (b0 - 224) * 4096 + (b1 - 128) * 64 + (b2 - 128) := by
  rw [Go.u8_and15 b0 (by omega) (by omega), Go.u8_and63 b1 (by omega) (by omega), Go.u8_and63 b2 (by omega) (by omega), w32 (b0 % 16) (by omega) (by omega), w32 (b0 % 16 * 4096) (by omega) (by omega), w32 (b1 % 64) (by omega) (by omega), w32 (b1 % 64 * 64) (by omega) (by omega), w32 (b2 % 64) (by omega) (by omega),
    Go.i32_or12 (b0 % 16 * 4096) (b1 % 64 * 64) (by omega) (by omega) (by omega) (by omega) (by omega), Go.i32_or6 (b0 % 16 * 4096 + b1 % 64 * 64) (b2 % 64) (by omega) (by omega) (by omega) (by omega) (by omega)]
  omega
theorem four (b0 b1 b2 b3 : Int) (h0 : 240 ≤ b0 ∧ b0 ≤ 247) (h1 : 128 ≤ b1 ∧ b1 ≤ 191) (h2 : 128 ≤ b2 ∧ b2 ≤ 191) (h3 : 128 ≤ b3 ∧ b3 ≤ 191) : Go.bits .or .i32 (Go.bits .or .i32 (Go.bits .or .i32 (wrap32 ((wrap32 (Go.bits .and .u8 b0 7)) * 262144)) (wrap32 ((wrap32 (Go.bits .and .u8 b1 63)) * 4096))) (wrap32 ((wrap32 (Go.bits .and .u8 b2 63)) * 64))) (wrap32 (Go.bits .and .u8 b3 63)) = (b0 - 240) * 262144 + (b1 - 128) * 4096 + (b2 - 128) * 64 + (b3 - 128) := by
  rw [Go.u8_and7 b0 (by omega) (by omega), Go.u8_and63 b1 (by omega) (by omega), Go.u8_and63 b2 (by omega) (by omega), Go.u8_and63 b3 (by omega) (by omega), w32 (b0 % 8) (by omega) (by omega), w32 (b0 % 8 * 262144) (by omega) (by omega), w32 (b1 % 64) (by omega) (by omega), w32 (b1 % 64 * 4096) (by omega) (by omega), w32 (b2 % 64) (by omega) (by omega), w32 (b2 % 64 * 64) (by omega) (by omega), w32 (b3 % 64) (by omega) (by omega),
    Go.i32_or18 (b0 % 8 * 262144) (b1 % 64 * 4096) (by omega) (by omega) (by omega) (by omega) (by omega), Go.i32_or12 (b0 % 8 * 262144 + b1 % 64 * 4096) (b2 % 64 * 64) (by omega) (by omega) (by omega) (by omega) (by omega), Go.i32_or6 (b0 % 8 * 262144 + b1 % 64 * 4096 + b2 % 64 * 64) (b3 % 64) (by omega) (by omega) (by omega) (by omega) (by omega)]
  omega
theorem bt_byte (s : ByteArray) (i : Int) : 0 ≤ bt s i ∧ bt s i < 256 := by
  unfold bt
  split
  · have := (s[i.toNat]).toNat_lt; omega
  · omega
/-- What the library's slow reader tells. -/
def slowT (d : Int × Int) : Int × Int := if d.1 < 0 then (65533, d.2) else d
theorem slow_go (s : ByteArray) (k : Nat) (v sz lo hi : Int) (h0 : 0 < s.size) (hv : rd tab_utf8_first (bt s 0) = v) (h1 : 0 ≤ v ∧ v < 240) (hsz : wrap64 (Go.bits .and .u8 v 7) = sz) (hz : 1 < sz)
    (hlo : (rd_T69 tab_utf8_acceptRanges (v / 16)).f0 = lo) (hhi : (rd_T69 tab_utf8_acceptRanges (v / 16)).f1 = hi) :
    utf8_decodeRuneInStringSlow.f k s = if (s.size : Int) < sz then some (65533, 1) else utf8_decodeRuneInStringSlow.j0 k s (bt s 0) sz (bt s 1) (decide (bt s 1 < lo) || decide (hi < bt s 1)) := by
  have hb := bt_byte s 0
  unfold utf8_decodeRuneInStringSlow.f
  rw [if_neg (by omega), if_pos (by omega), if_pos hb.1, if_pos hb.2, hv, if_neg (by omega), if_pos (by omega), if_pos (by omega), hsz, hlo, hhi]
  by_cases c1 : (s.size : Int) < sz
  · rw [if_pos c1, if_pos c1]
  · rw [if_neg c1, if_neg c1, if_pos (by omega)]
    by_cases c2 : bt s 1 < lo
    · rw [if_pos c2, decide_eq_true c2, Bool.true_or]
    · rw [if_neg c2, decide_eq_false c2, Bool.false_or]
theorem slow_bad (s : ByteArray) (k : Nat) (h0 : 0 < s.size) (n : Nat) (hn : bt s 0 = (n : Int)) (h1 : 128 ≤ n) (h2 : n < 256) (h3 : 240 ≤ firstF n) : utf8_decodeRuneInStringSlow.f k s = some (65533, 1) := by
  unfold utf8_decodeRuneInStringSlow.f
  rw [hn, if_neg (by omega), if_pos (by omega), if_pos (by omega), if_pos (by omega), first_eq n h2, if_pos h3, bad_one n h2 h1 h3]
theorem slow_2 (s : ByteArray) (k : Nat) (x : Bool) (b0 b1 : Int) (h0 : 192 ≤ b0 ∧ b0 ≤ 223) (h1 : x = false → 128 ≤ b1 ∧ b1 ≤ 191) :
    utf8_decodeRuneInStringSlow.j0 (k + 1) s b0 2 b1 x = some (if x = true then (65533, 1) else ((b0 - 192) * 64 + (b1 - 128), 2)) := by
  rw [utf8_decodeRuneInStringSlow.j0]
  cases x with
  | true => rw [if_pos rfl, if_pos rfl]
  | false => rw [if_neg (by decide), if_pos (by decide), two b0 b1 h0 (h1 rfl), if_neg (by decide)]
theorem slow_3 (s : ByteArray) (k : Nat) (x : Bool) (b0 b1 : Int) (hs : 3 ≤ s.size) (h0 : 224 ≤ b0 ∧ b0 ≤ 239) (h1 : x = false → 128 ≤ b1 ∧ b1 ≤ 191) :
    utf8_decodeRuneInStringSlow.j0 (k + 2) s b0 3 b1 x = some (if x = true ∨ ¬ (128 ≤ bt s 2 ∧ bt s 2 ≤ 191) then (65533, 1) else ((b0 - 224) * 4096 + (b1 - 128) * 64 + (bt s 2 - 128), 3)) := by
  rw [utf8_decodeRuneInStringSlow.j0]
  cases x with
  | true => rw [if_pos rfl, if_pos (.inl rfl)]
  | false =>
    rw [if_neg (by decide), if_neg (by decide), if_pos (by omega)]
    by_cases c1 : bt s 2 < 128
    · rw [if_pos c1, utf8_decodeRuneInStringSlow.j1, if_pos rfl, if_pos (.inr (by omega))]
    · rw [if_neg c1, utf8_decodeRuneInStringSlow.j1]
      by_cases c2 : 191 < bt s 2
      · rw [decide_eq_true c2, if_pos rfl, if_pos (.inr (by omega))]
      · rw [decide_eq_false c2, if_neg (by decide), if_pos (by decide), three b0 b1 (bt s 2) h0 (h1 rfl) (by omega), if_neg (fun h => h.elim (fun e => by cases e) (fun e => e ⟨by omega, by omega⟩))]
theorem slow_4 (s : ByteArray) (k : Nat) (x : Bool) (b0 b1 : Int) (hs : 4 ≤ s.size) (h0 : 240 ≤ b0 ∧ b0 ≤ 247) (h1 : x = false → 128 ≤ b1 ∧ b1 ≤ 191) :
    utf8_decodeRuneInStringSlow.j0 (k + 2) s b0 4 b1 x = some (if x = true ∨ ¬ (128 ≤ bt s 2 ∧ bt s 2 ≤ 191) ∨ ¬ (128 ≤ bt s 3 ∧ bt s 3 ≤ 191) then (65533, 1) else ((b0 - 240) * 262144 + (b1 - 128) * 4096 + (bt s 2 - 128) * 64 + (bt s 3 - 128), 4)) := by
  rw [utf8_decodeRuneInStringSlow.j0]
  cases x with
  | true => rw [if_pos rfl, if_pos (.inl rfl)]
  | false =>
    rw [if_neg (by decide), if_neg (by decide), if_pos (by omega)]
    by_cases c1 : bt s 2 < 128
    · rw [if_pos c1, utf8_decodeRuneInStringSlow.j1, if_pos rfl, if_pos (.inr (.inl (by omega)))]
    · rw [if_neg c1, utf8_decodeRuneInStringSlow.j1]
      by_cases c2 : 191 < bt s 2
      · rw [decide_eq_true c2, if_pos rfl, if_pos (.inr (.inl (by omega)))]
      · rw [decide_eq_false c2, if_neg (by decide), if_neg (by decide), if_pos (by omega)]
        by_cases c3 : bt s 3 < 128
        · rw [if_pos c3, if_pos (.inr (.inr (by omega)))]
        · rw [if_neg c3]
          by_cases c4 : 191 < bt s 3
          · rw [if_pos c4, if_pos (.inr (.inr (by omega)))]
          · rw [if_neg c4, four b0 b1 (bt s 2) (bt s 3) h0 (h1 rfl) (by omega) (by omega), if_neg (fun h => h.elim (fun e => by cases e) (fun e => e.elim (fun e => e ⟨by omega, by omega⟩) (fun e => e ⟨by omega, by omega⟩)))]
theorem tab_row (i : Int) (lo hi : Int) (j : Nat) (hj : i = (j : Int)) (h : tab_utf8_acceptRanges.getD j z69 = ⟨lo, hi⟩) : (rd_T69 tab_utf8_acceptRanges i).f0 = lo ∧ (rd_T69 tab_utf8_acceptRanges i).f1 = hi := by
  subst hj
  have e : rd_T69 tab_utf8_acceptRanges (j : Int) = ⟨lo, hi⟩ := h
  rw [e]
  exact ⟨rfl, rfl⟩
set_option maxHeartbeats 4000000 in
theorem slow_f (s : ByteArray) (k : Nat) (h0 : 0 < s.size) (h1 : 128 ≤ bt s 0) : utf8_decodeRuneInStringSlow.f (k + 2) s = some (slowT (decB s.size (bt s 0) (bt s 1) (bt s 2) (bt s 3))) := by
  have hb := bt_byte s 0
  have hb1 := bt_byte s 1
  obtain ⟨n, hn⟩ : ∃ n : Nat, bt s 0 = (n : Int) := ⟨(bt s 0).toNat, by omega⟩
  have hn2 : n < 256 := by omega
  have hfe := first_eq n hn2
  rw [← hn] at hfe
  unfold decB
  rw [if_neg (by omega), if_neg (by omega)]
  by_cases A : bt s 0 < 194 ∨ 244 < bt s 0
  · rw [if_pos A, slow_bad s (k + 2) h0 n hn (by omega) hn2 (by unfold firstF; (repeat' split) <;> omega)]
    rfl
  · rw [if_neg A]
    have run : ∀ (v sz lo hi : Int) (j : Nat), firstF n = v → (0 ≤ v ∧ v < 240) → wrap64 (Go.bits .and .u8 v 7) = sz → 1 < sz → v / 16 = (j : Int) → tab_utf8_acceptRanges.getD j z69 = ⟨lo, hi⟩ →
        utf8_decodeRuneInStringSlow.f (k + 2) s = if (s.size : Int) < sz then some (65533, 1) else utf8_decodeRuneInStringSlow.j0 (k + 2) s (bt s 0) sz (bt s 1) (decide (bt s 1 < lo) || decide (hi < bt s 1)) := by
      intro v sz lo hi j e1 e2 e3 e4 e5 e6
      obtain ⟨t1, t2⟩ := tab_row (v / 16) lo hi j e5 e6
      exact slow_go s (k + 2) v sz lo hi h0 (by rw [hfe, e1]) e2 e3 e4 t1 t2
    have hx : ∀ (lo hi : Int), 128 ≤ lo → hi ≤ 191 → (decide (bt s 1 < lo) || decide (hi < bt s 1)) = false → 128 ≤ bt s 1 ∧ bt s 1 ≤ 191 := by
      intro lo hi l1 l2 e
      rw [Bool.or_eq_false_iff, decide_eq_false_iff_not, decide_eq_false_iff_not] at e
      omega
    by_cases B : bt s 0 < 224
    · rw [if_pos B, run 2 2 128 191 0 (by unfold firstF; (repeat' split) <;> omega) (by decide) (by decide +kernel) (by decide) (by decide) rfl]
      by_cases c1 : (s.size : Int) < 2
      · rw [if_pos c1, if_neg (by omega)]; rfl
      · rw [if_neg c1, slow_2 s (k + 1) _ (bt s 0) (bt s 1) (by omega) (hx 128 191 (by decide) (by decide))]
        by_cases c2 : 128 ≤ bt s 1 ∧ bt s 1 ≤ 191
        · rw [decide_eq_false (show ¬ bt s 1 < 128 by omega), decide_eq_false (show ¬ 191 < bt s 1 by omega), if_neg (by decide), if_pos ⟨by omega, c2.1, c2.2⟩, slowT, if_neg (by simp only; omega)]
        · rw [if_pos (by rw [Bool.or_eq_true, decide_eq_true_iff, decide_eq_true_iff]; omega), if_neg (fun h => c2 h.2)]; rfl
    · rw [if_neg B]
      by_cases C : bt s 0 < 240
      · rw [if_pos C]
        have fin : ∀ (lo hi : Int), 128 ≤ lo → hi ≤ 191 → (if bt s 0 = 224 then (160 : Int) else 128) = lo → (if bt s 0 = 237 then (159 : Int) else 191) = hi →
            (if (s.size : Int) < 3 then some ((65533 : Int), (1 : Int)) else utf8_decodeRuneInStringSlow.j0 (k + 2) s (bt s 0) 3 (bt s 1) (decide (bt s 1 < lo) || decide (hi < bt s 1))) = some (slowT (if 3 ≤ s.size ∧ (if bt s 0 = 224 then (160 : Int) else 128) ≤ bt s 1 ∧ bt s 1 ≤ (if bt s 0 = 237 then (159 : Int) else 191) ∧ 128 ≤ bt s 2 ∧ bt s 2 ≤ 191 then ((bt s 0 - 224) * 4096 + (bt s 1 - 128) * 64 + (bt s 2 - 128), 3) else (-1, 1))) := by
          intro lo hi l1 l2 e1 e2
          rw [e1, e2]
          by_cases c1 : (s.size : Int) < 3
          · rw [if_pos c1, if_neg (by omega)]; rfl
          · rw [if_neg c1, slow_3 s k _ (bt s 0) (bt s 1) (by omega) (by omega) (hx lo hi l1 l2)]
            by_cases c2 : lo ≤ bt s 1 ∧ bt s 1 ≤ hi ∧ 128 ≤ bt s 2 ∧ bt s 2 ≤ 191
            · rw [decide_eq_false (show ¬ bt s 1 < lo by omega), decide_eq_false (show ¬ hi < bt s 1 by omega), if_neg (fun h => h.elim (fun e => by cases e) (fun e => e ⟨c2.2.2.1, c2.2.2.2⟩)), if_pos ⟨by omega, c2⟩, slowT, if_neg (by simp only; omega)]
            · rw [if_pos (by rw [Bool.or_eq_true, decide_eq_true_iff, decide_eq_true_iff]; omega), if_neg (fun h => c2 h.2)]; rfl
        by_cases D : bt s 0 = 224
        · rw [run 19 3 160 191 1 (by unfold firstF; (repeat' split) <;> omega) (by decide) (by decide +kernel) (by decide) (by decide) rfl]
          exact fin 160 191 (by decide) (by decide) (if_pos D) (if_neg (by omega))
        · by_cases E : bt s 0 = 237
          · rw [run 35 3 128 159 2 (by unfold firstF; (repeat' split) <;> omega) (by decide) (by decide +kernel) (by decide) (by decide) rfl]
            exact fin 128 159 (by decide) (by decide) (if_neg D) (if_pos E)
          · rw [run 3 3 128 191 0 (by unfold firstF; (repeat' split) <;> omega) (by decide) (by decide +kernel) (by decide) (by decide) rfl]
            exact fin 128 191 (by decide) (by decide) (if_neg D) (if_neg E)
      · rw [if_neg C]
        have fin : ∀ (lo hi : Int), 128 ≤ lo → hi ≤ 191 → (if bt s 0 = 240 then (144 : Int) else 128) = lo → (if bt s 0 = 244 then (143 : Int) else 191) = hi →
            (if (s.size : Int) < 4 then some ((65533 : Int), (1 : Int)) else utf8_decodeRuneInStringSlow.j0 (k + 2) s (bt s 0) 4 (bt s 1) (decide (bt s 1 < lo) || decide (hi < bt s 1))) = some (slowT (if 4 ≤ s.size ∧ (if bt s 0 = 240 then (144 : Int) else 128) ≤ bt s 1 ∧ bt s 1 ≤ (if bt s 0 = 244 then (143 : Int) else 191) ∧ 128 ≤ bt s 2 ∧ bt s 2 ≤ 191 ∧ 128 ≤ bt s 3 ∧ bt s 3 ≤ 191 then ((bt s 0 - 240) * 262144 + (bt s 1 - 128) * 4096 + (bt s 2 - 128) * 64 + (bt s 3 - 128), 4) else (-1, 1))) := by
          intro lo hi l1 l2 e1 e2
          rw [e1, e2]
          by_cases c1 : (s.size : Int) < 4
          · rw [if_pos c1, if_neg (by omega)]; rfl
          · rw [if_neg c1, slow_4 s k _ (bt s 0) (bt s 1) (by omega) (by omega) (hx lo hi l1 l2)]
            by_cases c2 : lo ≤ bt s 1 ∧ bt s 1 ≤ hi ∧ 128 ≤ bt s 2 ∧ bt s 2 ≤ 191 ∧ 128 ≤ bt s 3 ∧ bt s 3 ≤ 191
            · rw [decide_eq_false (show ¬ bt s 1 < lo by omega), decide_eq_false (show ¬ hi < bt s 1 by omega), if_neg (fun h => h.elim (fun e => by cases e) (fun e => e.elim (fun e => e ⟨c2.2.2.1, c2.2.2.2.1⟩) (fun e => e ⟨c2.2.2.2.2.1, c2.2.2.2.2.2⟩))), if_pos ⟨by omega, c2⟩, slowT, if_neg (by simp only; omega)]
            · rw [if_pos (by rw [Bool.or_eq_true, decide_eq_true_iff, decide_eq_true_iff]; omega), if_neg (fun h => c2 h.2)]; rfl
        by_cases D : bt s 0 = 240
        · rw [run 52 4 144 191 3 (by unfold firstF; (repeat' split) <;> omega) (by decide) (by decide +kernel) (by decide) (by decide) rfl]
          exact fin 144 191 (by decide) (by decide) (if_pos D) (if_neg (by omega))
        · by_cases E : bt s 0 = 244
          · rw [run 68 4 128 143 4 (by unfold firstF; (repeat' split) <;> omega) (by decide) (by decide +kernel) (by decide) (by decide) rfl]
            exact fin 128 143 (by decide) (by decide) (if_neg D) (if_pos E)
          · rw [run 4 4 128 191 0 (by unfold firstF; (repeat' split) <;> omega) (by decide) (by decide +kernel) (by decide) (by decide) rfl]
            exact fin 128 191 (by decide) (by decide) (if_neg D) (if_neg E)
/-- The first code point of a text. -/
def getU (s : ByteArray) : Int × Int := decB s.size (bt s 0) (bt s 1) (bt s 2) (bt s 3)
set_option maxHeartbeats 1000000 in
theorem getU_two (s : ByteArray) : (getU s).1 < 2147483648 ∧ -1 ≤ (getU s).1 ∧ 0 ≤ (getU s).2 ∧ (getU s).2 ≤ 4 ∧ ((getU s).1 < 0 → (getU s).2 < 2) ∧ ((getU s).1 = 65533 → 2 ≤ (getU s).2) ∧ (0 < s.size → 1 ≤ (getU s).2) ∧ (getU s).2 ≤ s.size := by
  have h0 := bt_byte s 0
  have h1 := bt_byte s 1
  have h2 := bt_byte s 2
  have h3 := bt_byte s 3
  unfold getU decB
  (repeat' split) <;> (simp only; omega)
theorem Get_f (s : ByteArray) (k : Nat) : utf_Get.f (k + 2) s = some (getU s) := by
  obtain ⟨g1, g2, g3, g4, g5, g6, g7, g8⟩ := getU_two s
  have hb := bt_byte s 0
  unfold utf_Get.f utf8_DecodeRuneInString.f
  by_cases h0 : s.size = 0
  · have e : s.toList = ([] : List UInt8) := PlD.L_nil.mpr (List.length_eq_zero_iff.mp (by rw [PlD.L_len]; exact h0))
    have e2 : utf8_decodeRuneInStringSlow.f (k + 2) s = some (65533, 0) := by
      unfold utf8_decodeRuneInStringSlow.f
      rw [if_pos (by omega)]
    have e3 : getU s = (-1, 0) := by unfold getU decB; rw [if_pos h0]
    rw [if_pos e, e2, e3]
    rfl
  · have hne : ¬ s.toList = ([] : List UInt8) := fun e => h0 (by rw [← PlD.L_len, PlD.L_nil.mp e]; rfl)
    rw [if_neg hne, if_pos (by omega)]
    by_cases h1 : bt s 0 < 128
    · have e3 : getU s = (bt s 0, 1) := by unfold getU decB; rw [if_neg h0, if_pos h1]
      rw [if_pos h1, e3, w32 _ (by omega) (by omega)]
      simp only [Option.bind_some]
      rw [if_neg (by omega), w64 _ (by omega) (by omega)]
    · rw [if_neg h1, slow_f s k (by omega) (by omega)]
      simp only [Option.bind_some]
      show (if (slowT (getU s)).1 = 65533 then _ else _) = _
      by_cases c : (getU s).1 < 0
      · have e1 : slowT (getU s) = (65533, (getU s).2) := if_pos c
        have e2 : (getU s).1 = -1 := by omega
        show (if (slowT (getU s)).1 = 65533 then (if (slowT (getU s)).2 < 2 then some (-1, (slowT (getU s)).2) else some (wrap64 (slowT (getU s)).1, (slowT (getU s)).2)) else some (wrap64 (slowT (getU s)).1, (slowT (getU s)).2)) = some (getU s)
        rw [e1, if_pos rfl, if_pos (g5 c), ← e2]
      · have e1 : slowT (getU s) = getU s := if_neg c
        show (if (slowT (getU s)).1 = 65533 then (if (slowT (getU s)).2 < 2 then some (-1, (slowT (getU s)).2) else some (wrap64 (slowT (getU s)).1, (slowT (getU s)).2)) else some (wrap64 (slowT (getU s)).1, (slowT (getU s)).2)) = some (getU s)
        rw [e1, w64 _ (by omega) (by omega)]
        by_cases c2 : (getU s).1 = 65533
        · rw [if_pos c2, if_neg (by have := g6 c2; omega)]
        · rw [if_neg c2]
end Go.Proofs.YtfknoaokoncneaaDoor.PlU

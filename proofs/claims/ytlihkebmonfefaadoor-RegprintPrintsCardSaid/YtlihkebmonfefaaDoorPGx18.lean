-- WRITTEN BY A PROGRAM OF THIS SESSION (patchprint.py over the kit's print)
import Derived.Test.YtlihkebmonfefaaDoorPGx0
import Derived.Test.YtlihkebmonfefaaDoorPGx9
namespace Go.Proofs.YtlihkebmonfefaaDoor.PG
open Go.RowKit Go.Proofs.YtlihkebmonfefaaDoorW.PrintWords Go.Proofs.YtlihkebmonfefaaDoorW.PrintLast Go.Proofs.YtlihkebmonfefaaDoorW.PrintMore
attribute [local go_sem] max2_int min2_int max_two min_two max_three min_three max_four min_four   -- for this text's walks alone
set_option linter.unusedVariables false
set_option linter.unusedSimpArgs false
def spoolref11_Plain.f (a0 : Int) : Option (Bool) := if a0 ≥ 97 then (if a0 ≤ 122 then (some true) else (if a0 ≥ 65 then (if a0 ≤ 90 then (some true) else (if a0 ≥ 48 then (some (decide (a0 ≤ 57))) else (some false))) else (if a0 ≥ 48 then (some (decide (a0 ≤ 57))) else (some false)))) else (if a0 ≥ 65 then (if a0 ≤ 90 then (some true) else (if a0 ≥ 48 then (some (decide (a0 ≤ 57))) else (some false))) else (if a0 ≥ 48 then (some (decide (a0 ≤ 57))) else (some false)))
set_option maxHeartbeats 8000000 in
set_option maxRecDepth 100000 in
theorem spoolref11_Plain.calls (a0 : Int) (r : Bool) (w : World) (h : spoolref11_Plain.f a0 = some r) :
  Calls Tryd.prog 32 #[.int .u8 a0] w fun e w' => e = .returned (.bool r) ∧ Drawn0 w w' := by
 have H : (if a0 ≥ 97 then (if a0 ≤ 122 then (some true) else (if a0 ≥ 65 then (if a0 ≤ 90 then (some true) else (if a0 ≥ 48 then (some (decide (a0 ≤ 57))) else (some false))) else (if a0 ≥ 48 then (some (decide (a0 ≤ 57))) else (some false)))) else (if a0 ≥ 65 then (if a0 ≤ 90 then (some true) else (if a0 ≥ 48 then (some (decide (a0 ≤ 57))) else (some false))) else (if a0 ≥ 48 then (some (decide (a0 ≤ 57))) else (some false)))) = some r := h
 clear h
 by_cases c2 : a0 ≥ 97
 ·rw [if_pos c2] at H
  have c2b0 : decide (97 ≤ a0) = true := decide_eq_true c2
  clear c2
  by_cases c3 : a0 ≤ 122
  ·rw [if_pos c3] at H
   have c3b0 : decide (a0 ≤ 122) = true := decide_eq_true c3
   clear c3
   obtain rfl := Option.some.inj H
   go_enter Tryd.func32, Tryd.ntmps32
   go_wp2
   go_ret
   exact ⟨fib_, by repeat (first | exact Drawn0.refl _ | apply Drawn0.step)⟩
  ·rw [if_neg c3] at H
   have c3b0 : decide (a0 ≤ 122) = false := decide_eq_false c3
   clear c3
   by_cases c4 : a0 ≥ 65
   ·rw [if_pos c4] at H
    have c4b0 : decide (65 ≤ a0) = true := decide_eq_true c4
    clear c4
    by_cases c5 : a0 ≤ 90
    ·rw [if_pos c5] at H
     have c5b0 : decide (a0 ≤ 90) = true := decide_eq_true c5
     clear c5
     obtain rfl := Option.some.inj H
     go_enter Tryd.func32, Tryd.ntmps32
     go_wp2
     go_ret
     exact ⟨fib_, by repeat (first | exact Drawn0.refl _ | apply Drawn0.step)⟩
    ·rw [if_neg c5] at H
     have c5b0 : decide (a0 ≤ 90) = false := decide_eq_false c5
     clear c5
     by_cases c6 : a0 ≥ 48
     ·rw [if_pos c6] at H
      have c6b0 : decide (48 ≤ a0) = true := decide_eq_true c6
      clear c6
      obtain rfl := Option.some.inj H
      go_enter Tryd.func32, Tryd.ntmps32
      go_wp2
      go_ret
      exact ⟨fib_, by repeat (first | exact Drawn0.refl _ | apply Drawn0.step)⟩
     ·rw [if_neg c6] at H
      have c6b0 : decide (48 ≤ a0) = false := decide_eq_false c6
      clear c6
      obtain rfl := Option.some.inj H
      go_enter Tryd.func32, Tryd.ntmps32
      go_wp2
      go_ret
      exact ⟨fib_, by repeat (first | exact Drawn0.refl _ | apply Drawn0.step)⟩
   ·rw [if_neg c4] at H
    have c4b0 : decide (65 ≤ a0) = false := decide_eq_false c4
    clear c4
    by_cases c7 : a0 ≥ 48
    ·rw [if_pos c7] at H
     have c7b0 : decide (48 ≤ a0) = true := decide_eq_true c7
     clear c7
     obtain rfl := Option.some.inj H
     go_enter Tryd.func32, Tryd.ntmps32
     go_wp2
     go_ret
     exact ⟨fib_, by repeat (first | exact Drawn0.refl _ | apply Drawn0.step)⟩
    ·rw [if_neg c7] at H
     have c7b0 : decide (48 ≤ a0) = false := decide_eq_false c7
     clear c7
     obtain rfl := Option.some.inj H
     go_enter Tryd.func32, Tryd.ntmps32
     go_wp2
     go_ret
     exact ⟨fib_, by repeat (first | exact Drawn0.refl _ | apply Drawn0.step)⟩
 ·rw [if_neg c2] at H
  have c2b0 : decide (97 ≤ a0) = false := decide_eq_false c2
  clear c2
  by_cases c8 : a0 ≥ 65
  ·rw [if_pos c8] at H
   have c8b0 : decide (65 ≤ a0) = true := decide_eq_true c8
   clear c8
   by_cases c9 : a0 ≤ 90
   ·rw [if_pos c9] at H
    have c9b0 : decide (a0 ≤ 90) = true := decide_eq_true c9
    clear c9
    obtain rfl := Option.some.inj H
    go_enter Tryd.func32, Tryd.ntmps32
    go_wp2
    go_ret
    exact ⟨fib_, by repeat (first | exact Drawn0.refl _ | apply Drawn0.step)⟩
   ·rw [if_neg c9] at H
    have c9b0 : decide (a0 ≤ 90) = false := decide_eq_false c9
    clear c9
    by_cases c10 : a0 ≥ 48
    ·rw [if_pos c10] at H
     have c10b0 : decide (48 ≤ a0) = true := decide_eq_true c10
     clear c10
     obtain rfl := Option.some.inj H
     go_enter Tryd.func32, Tryd.ntmps32
     go_wp2
     go_ret
     exact ⟨fib_, by repeat (first | exact Drawn0.refl _ | apply Drawn0.step)⟩
    ·rw [if_neg c10] at H
     have c10b0 : decide (48 ≤ a0) = false := decide_eq_false c10
     clear c10
     obtain rfl := Option.some.inj H
     go_enter Tryd.func32, Tryd.ntmps32
     go_wp2
     go_ret
     exact ⟨fib_, by repeat (first | exact Drawn0.refl _ | apply Drawn0.step)⟩
  ·rw [if_neg c8] at H
   have c8b0 : decide (65 ≤ a0) = false := decide_eq_false c8
   clear c8
   by_cases c11 : a0 ≥ 48
   ·rw [if_pos c11] at H
    have c11b0 : decide (48 ≤ a0) = true := decide_eq_true c11
    clear c11
    obtain rfl := Option.some.inj H
    go_enter Tryd.func32, Tryd.ntmps32
    go_wp2
    go_ret
    exact ⟨fib_, by repeat (first | exact Drawn0.refl _ | apply Drawn0.step)⟩
   ·rw [if_neg c11] at H
    have c11b0 : decide (48 ≤ a0) = false := decide_eq_false c11
    clear c11
    obtain rfl := Option.some.inj H
    go_enter Tryd.func32, Tryd.ntmps32
    go_wp2
    go_ret
    exact ⟨fib_, by repeat (first | exact Drawn0.refl _ | apply Drawn0.step)⟩
mutual
def spoolref01_HexText.j0 : Nat → Int → Int → Option (ByteArray)
 | 0, _, _ => none
 | k + 1, x0, x1 => spoolref01_HexText.l0 k x0 x1 (⟨#[]⟩ : ByteArray) 0
def spoolref01_HexText.l0 : Nat → Int → Int → ByteArray → Int → Option (ByteArray)
 | 0, _, _, _, _ => none
 | k + 1, x0, x1, x5, x6 => if x6 < 16 then (if x0 > 0 then (if 0 ≤ (Int.tmod x0 16) then (if (Int.tmod x0 16) ≤ (wrap64 ((Int.tmod x0 16) + 1)) then (if (wrap64 ((Int.tmod x0 16) + 1)) ≤ 16 then (if ((⟨#[48, 49, 50, 51, 52, 53, 54, 55, 56, 57, 97, 98, 99, 100, 101, 102]⟩ : ByteArray).extract ((Int.tmod x0 16) : Int).toNat ((wrap64 ((Int.tmod x0 16) + 1)) : Int).toNat).size + x5.size ≤ 9223372036854775807 then (spoolref01_HexText.l0 k (wrap64 (Int.tdiv x0 16)) x1 (((⟨#[48, 49, 50, 51, 52, 53, 54, 55, 56, 57, 97, 98, 99, 100, 101, 102]⟩ : ByteArray).extract ((Int.tmod x0 16) : Int).toNat ((wrap64 ((Int.tmod x0 16) + 1)) : Int).toNat) ++ x5) (wrap64 (x6 + 1))) else (none)) else (none)) else (none)) else (none)) else (if (x5.size : Int) < 1 then (if 0 ≤ (Int.tmod x0 16) then (if (Int.tmod x0 16) ≤ (wrap64 ((Int.tmod x0 16) + 1)) then (if (wrap64 ((Int.tmod x0 16) + 1)) ≤ 16 then (if ((⟨#[48, 49, 50, 51, 52, 53, 54, 55, 56, 57, 97, 98, 99, 100, 101, 102]⟩ : ByteArray).extract ((Int.tmod x0 16) : Int).toNat ((wrap64 ((Int.tmod x0 16) + 1)) : Int).toNat).size + x5.size ≤ 9223372036854775807 then (spoolref01_HexText.l0 k (wrap64 (Int.tdiv x0 16)) x1 (((⟨#[48, 49, 50, 51, 52, 53, 54, 55, 56, 57, 97, 98, 99, 100, 101, 102]⟩ : ByteArray).extract ((Int.tmod x0 16) : Int).toNat ((wrap64 ((Int.tmod x0 16) + 1)) : Int).toNat) ++ x5) (wrap64 (x6 + 1))) else (none)) else (none)) else (none)) else (none)) else (if (x5.size : Int) < x1 then (if (x5.size : Int) < 8 then (if 0 ≤ (Int.tmod x0 16) then (if (Int.tmod x0 16) ≤ (wrap64 ((Int.tmod x0 16) + 1)) then (if (wrap64 ((Int.tmod x0 16) + 1)) ≤ 16 then (if ((⟨#[48, 49, 50, 51, 52, 53, 54, 55, 56, 57, 97, 98, 99, 100, 101, 102]⟩ : ByteArray).extract ((Int.tmod x0 16) : Int).toNat ((wrap64 ((Int.tmod x0 16) + 1)) : Int).toNat).size + x5.size ≤ 9223372036854775807 then (spoolref01_HexText.l0 k (wrap64 (Int.tdiv x0 16)) x1 (((⟨#[48, 49, 50, 51, 52, 53, 54, 55, 56, 57, 97, 98, 99, 100, 101, 102]⟩ : ByteArray).extract ((Int.tmod x0 16) : Int).toNat ((wrap64 ((Int.tmod x0 16) + 1)) : Int).toNat) ++ x5) (wrap64 (x6 + 1))) else (none)) else (none)) else (none)) else (none)) else (some x5)) else (some x5)))) else (some x5)
end
def spoolref01_HexText.f (k : Nat) (a0 : Int) (a1 : Int) : Option (ByteArray) := if a0 < 0 then (spoolref01_HexText.j0 k 0 a1) else (spoolref01_HexText.j0 k a0 a1)
theorem spoolref01_HexText.mono_l : ∀ k, (∀ y0 y1, LeO (spoolref01_HexText.j0 k y0 y1) (spoolref01_HexText.j0 (k + 1) y0 y1)) ∧ (∀ y0 y1 y2 y3, LeO (spoolref01_HexText.l0 k y0 y1 y2 y3) (spoolref01_HexText.l0 (k + 1) y0 y1 y2 y3))
 | 0 => ⟨fun _ _ r h => by simp [spoolref01_HexText.j0] at h, fun _ _ _ _ r h => by simp [spoolref01_HexText.l0] at h⟩
 | k + 1 => by
  obtain ⟨ih0, ih1⟩ := spoolref01_HexText.mono_l k
  refine ⟨?_, ?_⟩
  ·intro y0 y1
   unfold spoolref01_HexText.j0
   repeat' first
   | (with_reducible exact ih0 _ _)
   | (with_reducible exact ih1 _ _ _ _)
   | (with_reducible exact LeO.refl _)
   | (with_reducible exact LeO.none _)
   | (with_reducible refine LeO.ite ?_ ?_)
   | (with_reducible refine LeO.bind ?_ (fun _ => ?_))
   | exact ih0 _ _
   | exact ih1 _ _ _ _
   | exact LeO.none _
   | refine LeO.ite ?_ ?_
   | refine LeO.bind ?_ (fun _ => ?_)
  ·intro y0 y1 y2 y3
   unfold spoolref01_HexText.l0
   repeat' first
   | (with_reducible exact ih0 _ _)
   | (with_reducible exact ih1 _ _ _ _)
   | (with_reducible exact LeO.refl _)
   | (with_reducible exact LeO.none _)
   | (with_reducible refine LeO.ite ?_ ?_)
   | (with_reducible refine LeO.bind ?_ (fun _ => ?_))
   | exact ih0 _ _
   | exact ih1 _ _ _ _
   | exact LeO.none _
   | refine LeO.ite ?_ ?_
   | refine LeO.bind ?_ (fun _ => ?_)
theorem spoolref01_HexText.mono : ∀ a0 a1 k, LeO (spoolref01_HexText.f k a0 a1) (spoolref01_HexText.f (k + 1) a0 a1) := by
 intro a0 a1 k
 obtain ⟨ih0, ih1⟩ := spoolref01_HexText.mono_l k
 unfold spoolref01_HexText.f
 repeat' first
   | (with_reducible exact ih0 _ _)
   | (with_reducible exact ih1 _ _ _ _)
   | (with_reducible exact LeO.refl _)
   | (with_reducible exact LeO.none _)
   | (with_reducible refine LeO.ite ?_ ?_)
   | (with_reducible refine LeO.bind ?_ (fun _ => ?_))
   | exact ih0 _ _
   | exact ih1 _ _ _ _
   | exact LeO.none _
   | refine LeO.ite ?_ ?_
   | refine LeO.bind ?_ (fun _ => ?_)
set_option maxHeartbeats 8000000 in
set_option maxRecDepth 100000 in
theorem spoolref01_HexText.calls (k : Nat) (a0 : Int) (a1 : Int) (r : ByteArray) (w : World) (h : spoolref01_HexText.f k a0 a1 = some r) :
  Calls Tryd.prog 49 #[.int .i64 a0, .int .i64 a1] w fun e w' => e = .returned (.string r) ∧ Drawn0 w w' := by
 have H : (if a0 < 0 then (spoolref01_HexText.j0 k 0 a1) else (spoolref01_HexText.j0 k a0 a1)) = some r := h
 clear h
 have HC3 := Aside0.mk H
 clear H
 go_enter Tryd.func49, Tryd.ntmps49
 go_upto_if 9 with (fail)
 go_cut [0] (fun v0 wc => ∃ (kq : Nat) (x0_2 : Int), v0 = .int .i64 x0_2 ∧ Aside0 (spoolref01_HexText.j0 kq x0_2 a1 = some r) ∧ Aside0 (kq ≤ k) ∧ Drawn0 w wc)
 case first =>
  have H := HC3.out
  clear HC3
  by_cases c4 : a0 < 0
  ·rw [if_pos c4] at H
   have c4b0 : decide (a0 < 0) = true := decide_eq_true c4
   clear c4
   (first | rw [c4b0] | (simp only [i64_w, i32_w]; rw [c4b0]) | skip)
   have H' := Aside0.mk H
   clear H
   go_wp2
   go_meet
   case rel => exact ⟨_, (0), fib_, H', ⟨by first | omega | exact Nat.le_refl _⟩, by repeat (first | exact Drawn0.refl _ | apply Drawn0.step)⟩
  ·rw [if_neg c4] at H
   have c4b0 : decide (a0 < 0) = false := decide_eq_false c4
   clear c4
   (first | rw [c4b0] | (simp only [i64_w, i32_w]; rw [c4b0]) | skip)
   have H' := Aside0.mk H
   clear H
   go_wp2
   go_meet
   case rel => exact ⟨_, (a0), fib_, H', ⟨by first | omega | exact Nat.le_refl _⟩, by repeat (first | exact Drawn0.refl _ | apply Drawn0.step)⟩
 case rest =>
  clear HC3
  try clear p2
  try clear c4
  try clear c4b0
  obtain ⟨kq, x0_2, rfl, HA, HJ2, ⟨mc2, rfl⟩⟩ := hcut
  cases kq with
  | zero => exact absurd HA.out (by simp [spoolref01_HexText.j0])
  | succ kj2 =>
   have H := HA.out
   clear HA
   simp only [spoolref01_HexText.j0] at H
   have H' := Aside0.mk H
   clear H
   go_wp2
   go_loopg [0, 5, 6] kj2 (fun kq v0 v5 v6 w' => ∃ (x0_2 : Int) (x5_2 : ByteArray) (x6_2 : Int), v0 = .int .i64 x0_2 ∧ v5 = .string x5_2 ∧ v6 = .int .i64 x6_2 ∧ Aside0 (spoolref01_HexText.l0 kq x0_2 a1 x5_2 x6_2 = some r) ∧ Aside0 (kq ≤ kj2) ∧ Drawn0 w w')
   case atStart => exact ⟨(x0_2), ((⟨#[]⟩ : ByteArray)), (0), fib_, fib_, fib_, H', ⟨Nat.le_refl _⟩, by repeat (first | exact Drawn0.refl _ | apply Drawn0.step)⟩
   case round =>
    clear H'
    try clear c2
    try clear p2
    try clear c4
    try clear c4b0
    try clear p2
    obtain ⟨x0_2, x5_2, x6_2, rfl, rfl, rfl, HA, HK2, ⟨m2, rfl⟩⟩ := hrel
    cases gk with
    | zero => exact absurd HA.out (by simp [spoolref01_HexText.l0])
    | succ k2 =>
     have H := HA.out
     clear HA
     simp only [spoolref01_HexText.l0] at H
     by_cases c5 : x6_2 < 16
     ·rw [if_pos c5] at H
      have c5b0 : decide (x6_2 < 16) = true := decide_eq_true c5
      clear c5
      by_cases c6 : x0_2 > 0
      ·rw [if_pos c6] at H
       have c6b0 : decide (0 < x0_2) = true := decide_eq_true c6
       clear c6
       obtain ⟨ji7, hji7⟩ : ∃ j_ : Int, (Int.tmod x0_2 16) = j_ := ⟨_, rfl⟩
       replace H : (if 0 ≤ (ji7) then (if (ji7) ≤ (wrap64 ((ji7) + 1)) then (if (wrap64 ((ji7) + 1)) ≤ 16 then (if ((⟨#[48, 49, 50, 51, 52, 53, 54, 55, 56, 57, 97, 98, 99, 100, 101, 102]⟩ : ByteArray).extract ((ji7) : Int).toNat ((wrap64 ((ji7) + 1)) : Int).toNat).size + x5_2.size ≤ 9223372036854775807 then (spoolref01_HexText.l0 k2 (wrap64 (Int.tdiv x0_2 16)) a1 (((⟨#[48, 49, 50, 51, 52, 53, 54, 55, 56, 57, 97, 98, 99, 100, 101, 102]⟩ : ByteArray).extract ((ji7) : Int).toNat ((wrap64 ((ji7) + 1)) : Int).toNat) ++ x5_2) (wrap64 (x6_2 + 1))) else (none)) else (none)) else (none)) else (none)) = some r := by first | (rw [hji7] at H; exact H) | (simp only [hji7] at H ⊢; exact H)
       by_cases c8 : 0 ≤ (ji7)
       ·rw [if_pos c8] at H
        have c8b0 := eq_true c8
        have c8b1 : decide (0 ≤ (ji7)) = true := decide_eq_true c8
        clear c8
        by_cases c9 : (ji7) ≤ (wrap64 ((ji7) + 1))
        ·rw [if_pos c9] at H
         have c9b0 := eq_true c9
         have c9b1 : decide ((ji7) ≤ (wrap64 ((ji7) + 1))) = true := decide_eq_true c9
         by_cases c10 : (wrap64 ((ji7) + 1)) ≤ 16
         ·rw [if_pos c10] at H
          have c10b0 := eq_true c10
          have c10b1 : decide ((wrap64 ((ji7) + 1)) ≤ 16) = true := decide_eq_true c10
          by_cases c11 : ((⟨#[48, 49, 50, 51, 52, 53, 54, 55, 56, 57, 97, 98, 99, 100, 101, 102]⟩ : ByteArray).extract ((ji7) : Int).toNat ((wrap64 ((ji7) + 1)) : Int).toNat).size + x5_2.size ≤ 9223372036854775807
          ·rw [if_pos c11] at H
           have c11b0 := eq_true c11
           have c11b1 : decide (((⟨#[48, 49, 50, 51, 52, 53, 54, 55, 56, 57, 97, 98, 99, 100, 101, 102]⟩ : ByteArray).extract ((ji7) : Int).toNat ((wrap64 ((ji7) + 1)) : Int).toNat).size + x5_2.size ≤ 9223372036854775807) = true := decide_eq_true c11
           try have c11b2 : (9223372036854775807 < ((⟨#[48, 49, 50, 51, 52, 53, 54, 55, 56, 57, 97, 98, 99, 100, 101, 102]⟩ : ByteArray).extract ((ji7) : Int).toNat ((wrap64 ((ji7) + 1)) : Int).toNat).size + x5_2.size) = False := eq_false (Nat.not_lt.2 c11)
           have H' := Aside0.mk H
           clear H
           go_wp2
           go_roundg k2
           case measure => have := HJ2.out; have := HK2.out; omega
           case rel => exact ⟨(wrap64 (Int.tdiv x0_2 16)), (((⟨#[48, 49, 50, 51, 52, 53, 54, 55, 56, 57, 97, 98, 99, 100, 101, 102]⟩ : ByteArray).extract ((ji7) : Int).toNat ((wrap64 ((ji7) + 1)) : Int).toNat) ++ x5_2), (wrap64 (x6_2 + 1)), fib_, (by first | rfl | (simp; done) | (simp only [← hji7] <;> (first | rfl | simp)) | (simp [*]; done)), fib_, H', ⟨by have := HJ2.out; have := HK2.out; omega⟩, by repeat (first | exact Drawn0.refl _ | apply Drawn0.step)⟩
          ·rw [if_neg c11] at H
           exact absurd H (by simp)
         ·rw [if_neg c10] at H
          exact absurd H (by simp)
        ·rw [if_neg c9] at H
         exact absurd H (by simp)
       ·rw [if_neg c8] at H
        exact absurd H (by simp)
      ·rw [if_neg c6] at H
       have c6b0 : decide (0 < x0_2) = false := decide_eq_false c6
       clear c6
       by_cases c12 : (x5_2.size : Int) < 1
       ·rw [if_pos c12] at H
        have c12b0 : decide ((x5_2.size : Int) < 1) = true := decide_eq_true c12
        have c12b1 : decide (x5_2.size < 1) = true := decide_eq_true (by omega)
        clear c12
        obtain ⟨ji13, hji13⟩ : ∃ j_ : Int, (Int.tmod x0_2 16) = j_ := ⟨_, rfl⟩
        replace H : (if 0 ≤ (ji13) then (if (ji13) ≤ (wrap64 ((ji13) + 1)) then (if (wrap64 ((ji13) + 1)) ≤ 16 then (if ((⟨#[48, 49, 50, 51, 52, 53, 54, 55, 56, 57, 97, 98, 99, 100, 101, 102]⟩ : ByteArray).extract ((ji13) : Int).toNat ((wrap64 ((ji13) + 1)) : Int).toNat).size + x5_2.size ≤ 9223372036854775807 then (spoolref01_HexText.l0 k2 (wrap64 (Int.tdiv x0_2 16)) a1 (((⟨#[48, 49, 50, 51, 52, 53, 54, 55, 56, 57, 97, 98, 99, 100, 101, 102]⟩ : ByteArray).extract ((ji13) : Int).toNat ((wrap64 ((ji13) + 1)) : Int).toNat) ++ x5_2) (wrap64 (x6_2 + 1))) else (none)) else (none)) else (none)) else (none)) = some r := by first | (rw [hji13] at H; exact H) | (simp only [hji13] at H ⊢; exact H)
        by_cases c14 : 0 ≤ (ji13)
        ·rw [if_pos c14] at H
         have c14b0 := eq_true c14
         have c14b1 : decide (0 ≤ (ji13)) = true := decide_eq_true c14
         clear c14
         by_cases c15 : (ji13) ≤ (wrap64 ((ji13) + 1))
         ·rw [if_pos c15] at H
          have c15b0 := eq_true c15
          have c15b1 : decide ((ji13) ≤ (wrap64 ((ji13) + 1))) = true := decide_eq_true c15
          by_cases c16 : (wrap64 ((ji13) + 1)) ≤ 16
          ·rw [if_pos c16] at H
           have c16b0 := eq_true c16
           have c16b1 : decide ((wrap64 ((ji13) + 1)) ≤ 16) = true := decide_eq_true c16
           by_cases c17 : ((⟨#[48, 49, 50, 51, 52, 53, 54, 55, 56, 57, 97, 98, 99, 100, 101, 102]⟩ : ByteArray).extract ((ji13) : Int).toNat ((wrap64 ((ji13) + 1)) : Int).toNat).size + x5_2.size ≤ 9223372036854775807
           ·rw [if_pos c17] at H
            have c17b0 := eq_true c17
            have c17b1 : decide (((⟨#[48, 49, 50, 51, 52, 53, 54, 55, 56, 57, 97, 98, 99, 100, 101, 102]⟩ : ByteArray).extract ((ji13) : Int).toNat ((wrap64 ((ji13) + 1)) : Int).toNat).size + x5_2.size ≤ 9223372036854775807) = true := decide_eq_true c17
            try have c17b2 : (9223372036854775807 < ((⟨#[48, 49, 50, 51, 52, 53, 54, 55, 56, 57, 97, 98, 99, 100, 101, 102]⟩ : ByteArray).extract ((ji13) : Int).toNat ((wrap64 ((ji13) + 1)) : Int).toNat).size + x5_2.size) = False := eq_false (Nat.not_lt.2 c17)
            have H' := Aside0.mk H
            clear H
            go_wp2
            go_roundg k2
            case measure => have := HJ2.out; have := HK2.out; omega
            case rel => exact ⟨(wrap64 (Int.tdiv x0_2 16)), (((⟨#[48, 49, 50, 51, 52, 53, 54, 55, 56, 57, 97, 98, 99, 100, 101, 102]⟩ : ByteArray).extract ((ji13) : Int).toNat ((wrap64 ((ji13) + 1)) : Int).toNat) ++ x5_2), (wrap64 (x6_2 + 1)), fib_, (by first | rfl | (simp; done) | (simp only [← hji13] <;> (first | rfl | simp)) | (simp [*]; done)), fib_, H', ⟨by have := HJ2.out; have := HK2.out; omega⟩, by repeat (first | exact Drawn0.refl _ | apply Drawn0.step)⟩
           ·rw [if_neg c17] at H
            exact absurd H (by simp)
          ·rw [if_neg c16] at H
           exact absurd H (by simp)
         ·rw [if_neg c15] at H
          exact absurd H (by simp)
        ·rw [if_neg c14] at H
         exact absurd H (by simp)
       ·rw [if_neg c12] at H
        have c12b0 : decide ((x5_2.size : Int) < 1) = false := decide_eq_false c12
        have c12b1 : decide (x5_2.size < 1) = false := decide_eq_false (by omega)
        clear c12
        by_cases c18 : (x5_2.size : Int) < a1
        ·rw [if_pos c18] at H
         have c18b0 : decide ((x5_2.size : Int) < a1) = true := decide_eq_true c18
         clear c18
         by_cases c19 : (x5_2.size : Int) < 8
         ·rw [if_pos c19] at H
          have c19b0 : decide ((x5_2.size : Int) < 8) = true := decide_eq_true c19
          have c19b1 : decide (x5_2.size < 8) = true := decide_eq_true (by omega)
          clear c19
          obtain ⟨ji20, hji20⟩ : ∃ j_ : Int, (Int.tmod x0_2 16) = j_ := ⟨_, rfl⟩
          replace H : (if 0 ≤ (ji20) then (if (ji20) ≤ (wrap64 ((ji20) + 1)) then (if (wrap64 ((ji20) + 1)) ≤ 16 then (if ((⟨#[48, 49, 50, 51, 52, 53, 54, 55, 56, 57, 97, 98, 99, 100, 101, 102]⟩ : ByteArray).extract ((ji20) : Int).toNat ((wrap64 ((ji20) + 1)) : Int).toNat).size + x5_2.size ≤ 9223372036854775807 then (spoolref01_HexText.l0 k2 (wrap64 (Int.tdiv x0_2 16)) a1 (((⟨#[48, 49, 50, 51, 52, 53, 54, 55, 56, 57, 97, 98, 99, 100, 101, 102]⟩ : ByteArray).extract ((ji20) : Int).toNat ((wrap64 ((ji20) + 1)) : Int).toNat) ++ x5_2) (wrap64 (x6_2 + 1))) else (none)) else (none)) else (none)) else (none)) = some r := by first | (rw [hji20] at H; exact H) | (simp only [hji20] at H ⊢; exact H)
          by_cases c21 : 0 ≤ (ji20)
          ·rw [if_pos c21] at H
           have c21b0 := eq_true c21
           have c21b1 : decide (0 ≤ (ji20)) = true := decide_eq_true c21
           clear c21
           by_cases c22 : (ji20) ≤ (wrap64 ((ji20) + 1))
           ·rw [if_pos c22] at H
            have c22b0 := eq_true c22
            have c22b1 : decide ((ji20) ≤ (wrap64 ((ji20) + 1))) = true := decide_eq_true c22
            by_cases c23 : (wrap64 ((ji20) + 1)) ≤ 16
            ·rw [if_pos c23] at H
             have c23b0 := eq_true c23
             have c23b1 : decide ((wrap64 ((ji20) + 1)) ≤ 16) = true := decide_eq_true c23
             by_cases c24 : ((⟨#[48, 49, 50, 51, 52, 53, 54, 55, 56, 57, 97, 98, 99, 100, 101, 102]⟩ : ByteArray).extract ((ji20) : Int).toNat ((wrap64 ((ji20) + 1)) : Int).toNat).size + x5_2.size ≤ 9223372036854775807
             ·rw [if_pos c24] at H
              have c24b0 := eq_true c24
              have c24b1 : decide (((⟨#[48, 49, 50, 51, 52, 53, 54, 55, 56, 57, 97, 98, 99, 100, 101, 102]⟩ : ByteArray).extract ((ji20) : Int).toNat ((wrap64 ((ji20) + 1)) : Int).toNat).size + x5_2.size ≤ 9223372036854775807) = true := decide_eq_true c24
              try have c24b2 : (9223372036854775807 < ((⟨#[48, 49, 50, 51, 52, 53, 54, 55, 56, 57, 97, 98, 99, 100, 101, 102]⟩ : ByteArray).extract ((ji20) : Int).toNat ((wrap64 ((ji20) + 1)) : Int).toNat).size + x5_2.size) = False := eq_false (Nat.not_lt.2 c24)
              have H' := Aside0.mk H
              clear H
              go_wp2
              go_roundg k2
              case measure => have := HJ2.out; have := HK2.out; omega
              case rel => exact ⟨(wrap64 (Int.tdiv x0_2 16)), (((⟨#[48, 49, 50, 51, 52, 53, 54, 55, 56, 57, 97, 98, 99, 100, 101, 102]⟩ : ByteArray).extract ((ji20) : Int).toNat ((wrap64 ((ji20) + 1)) : Int).toNat) ++ x5_2), (wrap64 (x6_2 + 1)), fib_, (by first | rfl | (simp; done) | (simp only [← hji20] <;> (first | rfl | simp)) | (simp [*]; done)), fib_, H', ⟨by have := HJ2.out; have := HK2.out; omega⟩, by repeat (first | exact Drawn0.refl _ | apply Drawn0.step)⟩
             ·rw [if_neg c24] at H
              exact absurd H (by simp)
            ·rw [if_neg c23] at H
             exact absurd H (by simp)
           ·rw [if_neg c22] at H
            exact absurd H (by simp)
          ·rw [if_neg c21] at H
           exact absurd H (by simp)
         ·rw [if_neg c19] at H
          have c19b0 : decide ((x5_2.size : Int) < 8) = false := decide_eq_false c19
          have c19b1 : decide (x5_2.size < 8) = false := decide_eq_false (by omega)
          clear c19
          obtain rfl := Option.some.inj H
          go_wp2
          go_ret
          exact ⟨fib_, by repeat (first | exact Drawn0.refl _ | apply Drawn0.step)⟩
        ·rw [if_neg c18] at H
         have c18b0 : decide ((x5_2.size : Int) < a1) = false := decide_eq_false c18
         clear c18
         obtain rfl := Option.some.inj H
         go_wp2
         go_ret
         exact ⟨fib_, by repeat (first | exact Drawn0.refl _ | apply Drawn0.step)⟩
     ·rw [if_neg c5] at H
      have c5b0 : decide (x6_2 < 16) = false := decide_eq_false c5
      clear c5
      obtain rfl := Option.some.inj H
      go_wp2
      go_ret
      exact ⟨fib_, by repeat (first | exact Drawn0.refl _ | apply Drawn0.step)⟩
def spoolref11_Text.f (k : Nat) (a0 : Int) : Option (ByteArray) := (spoolref01_HexText.f k a0 1).bind fun t326 => (if 3 + t326.size ≤ 9223372036854775807 then (if ((⟨#[92, 117, 123]⟩ : ByteArray) ++ t326).size + 1 ≤ 9223372036854775807 then (some (((⟨#[92, 117, 123]⟩ : ByteArray) ++ t326) ++ (⟨#[125]⟩ : ByteArray))) else (none)) else (none))
theorem spoolref11_Text.mono : ∀ a0 k, LeO (spoolref11_Text.f k a0) (spoolref11_Text.f (k + 1) a0) := by
 intro a0 k
 unfold spoolref11_Text.f
 repeat' first
   | (with_reducible exact spoolref01_HexText.mono _ _ _)
   | (with_reducible exact LeO.refl _)
   | (with_reducible exact LeO.none _)
   | (with_reducible refine LeO.ite ?_ ?_)
   | (with_reducible refine LeO.bind ?_ (fun _ => ?_))
   | exact spoolref01_HexText.mono _ _ _
   | exact LeO.none _
   | refine LeO.ite ?_ ?_
   | refine LeO.bind ?_ (fun _ => ?_)
set_option maxHeartbeats 8000000 in
set_option maxRecDepth 100000 in
theorem spoolref11_Text.calls (k : Nat) (a0 : Int) (r : ByteArray) (w : World) (h : spoolref11_Text.f k a0 = some r) :
  Calls Tryd.prog 43 #[.int .i64 a0] w fun e w' => e = .returned (.string r) ∧ Drawn0 w w' := by
 have H : ((spoolref01_HexText.f k a0 1).bind fun t326 => (if 3 + t326.size ≤ 9223372036854775807 then (if ((⟨#[92, 117, 123]⟩ : ByteArray) ++ t326).size + 1 ≤ 9223372036854775807 then (some (((⟨#[92, 117, 123]⟩ : ByteArray) ++ t326) ++ (⟨#[125]⟩ : ByteArray))) else (none)) else (none))) = some r := h
 clear h
 replace H := Option.bind_eq_some_iff.mp H
 obtain ⟨t326, A20, H⟩ := H
 replace H : (if 3 + t326.size ≤ 9223372036854775807 then (if ((⟨#[92, 117, 123]⟩ : ByteArray) ++ t326).size + 1 ≤ 9223372036854775807 then (some (((⟨#[92, 117, 123]⟩ : ByteArray) ++ t326) ++ (⟨#[125]⟩ : ByteArray))) else (none)) else (none)) = some r := H
 have A2 := Aside0.mk A20
 clear A20
 by_cases c3 : 3 + t326.size ≤ 9223372036854775807
 ·rw [if_pos c3] at H
  have c3b0 := eq_true c3
  have c3b1 : decide (3 + t326.size ≤ 9223372036854775807) = true := decide_eq_true c3
  try have c3b2 : (9223372036854775807 < 3 + t326.size) = False := eq_false (Nat.not_lt.2 c3)
  by_cases c4 : ((⟨#[92, 117, 123]⟩ : ByteArray) ++ t326).size + 1 ≤ 9223372036854775807
  ·rw [if_pos c4] at H
   have c4b0 := eq_true c4
   have c4b1 : decide (((⟨#[92, 117, 123]⟩ : ByteArray) ++ t326).size + 1 ≤ 9223372036854775807) = true := decide_eq_true c4
   try have c4b1s : decide ((3 + t326.size) + 1 ≤ 9223372036854775807) = true := (by have h_ := c4b1; simp only [ByteArray.size_append] at h_; exact h_)
   try have c4b2 : (9223372036854775807 < ((⟨#[92, 117, 123]⟩ : ByteArray) ++ t326).size + 1) = False := eq_false (Nat.not_lt.2 c4)
   try have c4b2s : (9223372036854775807 < (3 + t326.size) + 1) = False := (by have h_ := c4b2; simp only [ByteArray.size_append] at h_; exact h_)
   obtain rfl := Option.some.inj H
   go_enter Tryd.func43, Tryd.ntmps43
   go_wp2_with (first | ((with_reducible refine gate_callee (f := 49) rfl ?_); refine goesL_ (some 4) rfl rfl Tryd.func49 (by kernel_rfl) rfl #[.int .i64 a0, .int .i64 1] rfl lma_ ?_; (with_reducible refine (spoolref01_HexText.calls k a0 1 t326 _ A2.out).mono ?_); rintro e w' ⟨rfl, ⟨nd, rfl⟩⟩; refine ⟨_, rfl, ?_⟩))
   go_ret
   exact ⟨fib_, by repeat (first | exact Drawn0.refl _ | apply Drawn0.step)⟩
  ·rw [if_neg c4] at H
   exact absurd H (by simp)
 ·rw [if_neg c3] at H
  exact absurd H (by simp)
def spoolref12_Text.l0 : Nat → List (S60) → ByteArray → Int → Option (ByteArray)
 | 0, _, _, _ => none
 | k + 1, x3, x4, x5 => if x5 < (x3.length : Int) then (if 0 ≤ x5 then ((spoolref11_Text.f k ((rd_T60 x3 x5).f0)).bind fun t331 => (if x4.size + t331.size ≤ 9223372036854775807 then (if ((rd_T60 x3 x5).f1) > ((rd_T60 x3 x5).f0) then (if (x4 ++ t331).size + 1 ≤ 9223372036854775807 then ((spoolref11_Text.f k ((rd_T60 x3 x5).f1)).bind fun t335 => (if ((x4 ++ t331) ++ (⟨#[45]⟩ : ByteArray)).size + t335.size ≤ 9223372036854775807 then (spoolref12_Text.l0 k x3 (((x4 ++ t331) ++ (⟨#[45]⟩ : ByteArray)) ++ t335) (wrap64 (x5 + 1))) else (none))) else (none)) else (spoolref12_Text.l0 k x3 (x4 ++ t331) (wrap64 (x5 + 1)))) else (none))) else (none)) else (if (x3.length : Int) = 0 then ((spoolref11_Text.f k 0).bind fun t336 => (if 2 + t336.size ≤ 9223372036854775807 then (if ((⟨#[91, 94]⟩ : ByteArray) ++ t336).size + 1 ≤ 9223372036854775807 then ((spoolref11_Text.f k 1114111).bind fun t337 => (if (((⟨#[91, 94]⟩ : ByteArray) ++ t336) ++ (⟨#[45]⟩ : ByteArray)).size + t337.size ≤ 9223372036854775807 then (if ((((⟨#[91, 94]⟩ : ByteArray) ++ t336) ++ (⟨#[45]⟩ : ByteArray)) ++ t337).size + 1 ≤ 9223372036854775807 then (some (((((⟨#[91, 94]⟩ : ByteArray) ++ t336) ++ (⟨#[45]⟩ : ByteArray)) ++ t337) ++ (⟨#[93]⟩ : ByteArray))) else (none)) else (none))) else (none)) else (none))) else (if x4.size + 1 ≤ 9223372036854775807 then (some (x4 ++ (⟨#[93]⟩ : ByteArray))) else (none)))
def spoolref12_Text.f (k : Nat) (l0 : List (S60)) : Option (ByteArray) := (spoolref05_Set.f k 0 l0 ([] : List (S60))).bind fun t327 => (spoolref12_Text.l0 k t327 (⟨#[91]⟩ : ByteArray) 0)
theorem spoolref12_Text.mono_l : ∀ k, (∀ y0 y1 y2, LeO (spoolref12_Text.l0 k y0 y1 y2) (spoolref12_Text.l0 (k + 1) y0 y1 y2))
 | 0 => fun _ _ _ r h => by simp [spoolref12_Text.l0] at h
 | k + 1 => by
  have ih0 := spoolref12_Text.mono_l k
  ·intro y0 y1 y2
   unfold spoolref12_Text.l0
   repeat' first
   | (with_reducible exact ih0 _ _ _)
   | (with_reducible exact spoolref05_Set.mono _ _ _ _)
   | (with_reducible exact spoolref11_Text.mono _ _)
   | (with_reducible exact LeO.refl _)
   | (with_reducible exact LeO.none _)
   | (with_reducible refine LeO.ite ?_ ?_)
   | (with_reducible refine LeO.bind ?_ (fun _ => ?_))
   | exact ih0 _ _ _
   | exact spoolref05_Set.mono _ _ _ _
   | exact spoolref11_Text.mono _ _
   | exact LeO.none _
   | refine LeO.ite ?_ ?_
   | refine LeO.bind ?_ (fun _ => ?_)
theorem spoolref12_Text.mono : ∀ a0 k, LeO (spoolref12_Text.f k a0) (spoolref12_Text.f (k + 1) a0) := by
 intro a0 k
 have ih0 := spoolref12_Text.mono_l k
 unfold spoolref12_Text.f
 repeat' first
   | (with_reducible exact ih0 _ _ _)
   | (with_reducible exact spoolref05_Set.mono _ _ _ _)
   | (with_reducible exact spoolref11_Text.mono _ _)
   | (with_reducible exact LeO.refl _)
   | (with_reducible exact LeO.none _)
   | (with_reducible refine LeO.ite ?_ ?_)
   | (with_reducible refine LeO.bind ?_ (fun _ => ?_))
   | exact ih0 _ _ _
   | exact spoolref05_Set.mono _ _ _ _
   | exact spoolref11_Text.mono _ _
   | exact LeO.none _
   | refine LeO.ite ?_ ?_
   | refine LeO.bind ?_ (fun _ => ?_)
set_option maxHeartbeats 8000000 in
set_option maxRecDepth 100000 in
theorem spoolref12_Text.calls (k : Nat) (A0 : Option Addr) (c0 : Nat) (l0 : List (S60)) (r : ByteArray) (w : World) (hr0 : Kd.C k60 w A0 l0.length l0) (hc0 : l0.length ≤ c0) (h : spoolref12_Text.f k l0 = some r) :
  Calls Tryd.prog 33 #[.slice A0 l0.length c0] w fun e w' => e = .returned (.string r) ∧ Below w.heap.size w w' := by
 have HR0 := Aside0.mk hr0
 have HC0 := Aside0.mk hc0
 clear hr0 hc0
 have HB := Aside0.mk (Below.refl w.heap.size w)
 have H : ((spoolref05_Set.f k 0 l0 ([] : List (S60))).bind fun t327 => (spoolref12_Text.l0 k t327 (⟨#[91]⟩ : ByteArray) 0)) = some r := h
 clear h
 replace H := Option.bind_eq_some_iff.mp H
 obtain ⟨t327, A20, H⟩ := H
 replace H : (spoolref12_Text.l0 k t327 (⟨#[91]⟩ : ByteArray) 0) = some r := H
 have A2 := Aside0.mk A20
 clear A20
 have H' := Aside0.mk H
 clear H
 go_enter Tryd.func33, Tryd.ntmps33
 go_wp2_with (first | (go_at_call 30; (refine (spoolref05_Set.calls k 0 _ _ l0 _ _ ([] : List (S60)) t327 _ ?side1 ?side2 ?side3 ?side4 A2.out).mono ?_); (case side1 => repeat (first | exact HR0.out | (with_reducible refine Kd.C_alloc ?_ _) | (with_reducible refine Kd.C_drewN ?_ _) | (with_reducible refine Kd.C_drew ?_))); (case side2 => exact HC0.out); (case side3 => exact Kd.C_nil _ _); (case side4 => exact Nat.le_refl _); rintro e w3 ⟨v328, rfl, ho0, hb⟩; have n0_ := Aside0.mk (Kd.R_lower ho0 (below_size (blw_ HB.out))); have n1_ := Aside0.mk (below_step (blw_ HB.out) hb); clear HB; have HO329 := n0_; have HB := n1_; clear n0_ n1_; (try clear hb); (try clear hb2); (try clear hk); (try clear hi); (try clear ho0)))
 repeat (go_quiet (first | (go_at_call 30; (refine (spoolref05_Set.calls k 0 _ _ l0 _ _ ([] : List (S60)) t327 _ ?side1 ?side2 ?side3 ?side4 A2.out).mono ?_); (case side1 => repeat (first | exact HR0.out | (with_reducible refine Kd.C_alloc ?_ _) | (with_reducible refine Kd.C_drewN ?_ _) | (with_reducible refine Kd.C_drew ?_))); (case side2 => exact HC0.out); (case side3 => exact Kd.C_nil _ _); (case side4 => exact Nat.le_refl _); rintro e w3 ⟨v328, rfl, ho0, hb⟩; have n0_ := Aside0.mk (Kd.R_lower ho0 (below_size (blw_ HB.out))); have n1_ := Aside0.mk (below_step (blw_ HB.out) hb); clear HB; have HO329 := n0_; have HB := n1_; clear n0_ n1_; (try clear hb); (try clear hb2); (try clear hk); (try clear hi); (try clear ho0))); try go_wp2_with (first | (go_at_call 30; (refine (spoolref05_Set.calls k 0 _ _ l0 _ _ ([] : List (S60)) t327 _ ?side1 ?side2 ?side3 ?side4 A2.out).mono ?_); (case side1 => repeat (first | exact HR0.out | (with_reducible refine Kd.C_alloc ?_ _) | (with_reducible refine Kd.C_drewN ?_ _) | (with_reducible refine Kd.C_drew ?_))); (case side2 => exact HC0.out); (case side3 => exact Kd.C_nil _ _); (case side4 => exact Nat.le_refl _); rintro e w3 ⟨v328, rfl, ho0, hb⟩; have n0_ := Aside0.mk (Kd.R_lower ho0 (below_size (blw_ HB.out))); have n1_ := Aside0.mk (below_step (blw_ HB.out) hb); clear HB; have HO329 := n0_; have HB := n1_; clear n0_ n1_; (try clear hb); (try clear hb2); (try clear hk); (try clear hi); (try clear ho0))))
 go_loopg [4, 5] k (fun kq v4 v5 w' => ∃ (x4_1 : ByteArray) (x5_1 : Int), v4 = .string x4_1 ∧ v5 = .int .i64 x5_1 ∧ Aside0 (spoolref12_Text.l0 kq t327 x4_1 x5_1 = some r) ∧ Aside0 (kq ≤ k) ∧ Aside0 (Kd.R k60 60 w' w.heap.size (fun _ => True) v328 t327) ∧ Aside0 (Below w.heap.size w w'))
 case atStart => exact ⟨((⟨#[91]⟩ : ByteArray)), (0), fib_, fib_, H', ⟨Nat.le_refl _⟩, ⟨by (with_reducible repeat (first | apply Kd.R_alloc | apply Kd.R_drewN | apply Kd.R_drew)); exact HO329.out⟩, ⟨blw_ HB.out⟩⟩
 case round =>
  clear H'
  try clear p2
  try clear c3
  obtain ⟨x4_1, x5_1, rfl, rfl, HA, HK1, HO_3, HB⟩ := hrel
  cases gk with
  | zero => exact absurd HA.out (by simp [spoolref12_Text.l0])
  | succ k1 =>
   have H := HA.out
   clear HA
   simp only [spoolref12_Text.l0] at H
   by_cases c4 : x5_1 < (t327.length : Int)
   ·rw [if_pos c4] at H
    have c4b0 : decide (x5_1 < (t327.length : Int)) = true := decide_eq_true c4
    clear c4
    by_cases c5 : 0 ≤ x5_1
    ·rw [if_pos c5] at H
     have c5b0 : decide (0 ≤ x5_1) = true := decide_eq_true c5
     clear c5
     replace H := Option.bind_eq_some_iff.mp H
     obtain ⟨t331, A60, H⟩ := H
     replace H : (if x4_1.size + t331.size ≤ 9223372036854775807 then (if ((rd_T60 t327 x5_1).f1) > ((rd_T60 t327 x5_1).f0) then (if (x4_1 ++ t331).size + 1 ≤ 9223372036854775807 then ((spoolref11_Text.f k1 ((rd_T60 t327 x5_1).f1)).bind fun t335 => (if ((x4_1 ++ t331) ++ (⟨#[45]⟩ : ByteArray)).size + t335.size ≤ 9223372036854775807 then (spoolref12_Text.l0 k1 t327 (((x4_1 ++ t331) ++ (⟨#[45]⟩ : ByteArray)) ++ t335) (wrap64 (x5_1 + 1))) else (none))) else (none)) else (spoolref12_Text.l0 k1 t327 (x4_1 ++ t331) (wrap64 (x5_1 + 1)))) else (none)) = some r := H
     have A6 := Aside0.mk A60
     clear A60
     by_cases c7 : x4_1.size + t331.size ≤ 9223372036854775807
     ·rw [if_pos c7] at H
      have c7b0 := eq_true c7
      have c7b1 : decide (x4_1.size + t331.size ≤ 9223372036854775807) = true := decide_eq_true c7
      try have c7b2 : (9223372036854775807 < x4_1.size + t331.size) = False := eq_false (Nat.not_lt.2 c7)
      by_cases c8 : ((rd_T60 t327 x5_1).f1) > ((rd_T60 t327 x5_1).f0)
      ·rw [if_pos c8] at H
       have c8b0 : decide (((rd_T60 t327 x5_1).f0) < ((rd_T60 t327 x5_1).f1)) = true := decide_eq_true c8
       clear c8
       by_cases c9 : (x4_1 ++ t331).size + 1 ≤ 9223372036854775807
       ·rw [if_pos c9] at H
        have c9b0 := eq_true c9
        have c9b1 : decide ((x4_1 ++ t331).size + 1 ≤ 9223372036854775807) = true := decide_eq_true c9
        try have c9b1s : decide ((x4_1.size + t331.size) + 1 ≤ 9223372036854775807) = true := (by have h_ := c9b1; simp only [ByteArray.size_append] at h_; exact h_)
        try have c9b2 : (9223372036854775807 < (x4_1 ++ t331).size + 1) = False := eq_false (Nat.not_lt.2 c9)
        try have c9b2s : (9223372036854775807 < (x4_1.size + t331.size) + 1) = False := (by have h_ := c9b2; simp only [ByteArray.size_append] at h_; exact h_)
        replace H := Option.bind_eq_some_iff.mp H
        obtain ⟨t335, A100, H⟩ := H
        replace H : (if ((x4_1 ++ t331) ++ (⟨#[45]⟩ : ByteArray)).size + t335.size ≤ 9223372036854775807 then (spoolref12_Text.l0 k1 t327 (((x4_1 ++ t331) ++ (⟨#[45]⟩ : ByteArray)) ++ t335) (wrap64 (x5_1 + 1))) else (none)) = some r := H
        have A10 := Aside0.mk A100
        clear A100
        by_cases c11 : ((x4_1 ++ t331) ++ (⟨#[45]⟩ : ByteArray)).size + t335.size ≤ 9223372036854775807
        ·rw [if_pos c11] at H
         have c11b0 := eq_true c11
         have c11b1 : decide (((x4_1 ++ t331) ++ (⟨#[45]⟩ : ByteArray)).size + t335.size ≤ 9223372036854775807) = true := decide_eq_true c11
         try have c11b1s : decide (((x4_1.size + t331.size) + 1) + t335.size ≤ 9223372036854775807) = true := (by have h_ := c11b1; simp only [ByteArray.size_append] at h_; exact h_)
         try have c11b2 : (9223372036854775807 < ((x4_1 ++ t331) ++ (⟨#[45]⟩ : ByteArray)).size + t335.size) = False := eq_false (Nat.not_lt.2 c11)
         try have c11b2s : (9223372036854775807 < ((x4_1.size + t331.size) + 1) + t335.size) = False := (by have h_ := c11b2; simp only [ByteArray.size_append] at h_; exact h_)
         have H' := Aside0.mk H
         clear H
         obtain ⟨Ao12, co12, eo12⟩ := Kd.R_slice HO_3.out
         subst eo12
         have p330 : 0 ≤ (x5_1 : Int) := of_decide_eq_true asa_
         have q330 : x5_1 < (t327.length : Int) := of_decide_eq_true asa_
         obtain ⟨ad330, e330, hx330_0, hx330_1⟩ := at_T60 (Kd.R_reads' HO_3.out).2.2 x5_1 p330 q330
         cases e330
         replace p330 := eq_true p330
         replace q330 := eq_true q330
         go_wp2_with (first | (go_at_call 43; (with_reducible refine (spoolref11_Text.calls k1 ((rd_T60 t327 x5_1).f0) t331 _ A6.out).mono ?_); rintro e w' ⟨rfl, ⟨nd, rfl⟩⟩; (try first | exact ⟨rfl, _, World.drewN_drewN _ _ _⟩ | exact ⟨rfl, _, Eq.trans (World.drewN_drewN _ _ _) (congrArg (World.drewN _) (Nat.add_assoc _ _ _))⟩); have p332 : 0 ≤ (x5_1 : Int) := of_decide_eq_true asa_; have q332 : x5_1 < (t327.length : Int) := of_decide_eq_true asa_; obtain ⟨ad332, e332, hx332_0, hx332_1⟩ := at_T60 (Kd.R_reads' HO_3.out).2.2 x5_1 p332 q332; obtain rfl : ad330 = ad332 := (by injection e332); replace p332 := eq_true p332; replace q332 := eq_true q332; have p333 : 0 ≤ (x5_1 : Int) := of_decide_eq_true asa_; have q333 : x5_1 < (t327.length : Int) := of_decide_eq_true asa_; obtain ⟨ad333, e333, hx333_0, hx333_1⟩ := at_T60 (Kd.R_reads' HO_3.out).2.2 x5_1 p333 q333; obtain rfl : ad330 = ad333 := (by injection e333); replace p333 := eq_true p333; replace q333 := eq_true q333; have p334 : 0 ≤ (x5_1 : Int) := of_decide_eq_true asa_; have q334 : x5_1 < (t327.length : Int) := of_decide_eq_true asa_; obtain ⟨ad334, e334, hx334_0, hx334_1⟩ := at_T60 (Kd.R_reads' HO_3.out).2.2 x5_1 p334 q334; obtain rfl : ad330 = ad334 := (by injection e334); replace p334 := eq_true p334; replace q334 := eq_true q334) | (go_at_call 43; (with_reducible refine (spoolref11_Text.calls k1 ((rd_T60 t327 x5_1).f1) t335 _ A10.out).mono ?_); rintro e w' ⟨rfl, ⟨nd, rfl⟩⟩; (try first | exact ⟨rfl, _, World.drewN_drewN _ _ _⟩ | exact ⟨rfl, _, Eq.trans (World.drewN_drewN _ _ _) (congrArg (World.drewN _) (Nat.add_assoc _ _ _))⟩)))
         repeat (go_quiet (first | (go_at_call 43; (with_reducible refine (spoolref11_Text.calls k1 ((rd_T60 t327 x5_1).f0) t331 _ A6.out).mono ?_); rintro e w' ⟨rfl, ⟨nd, rfl⟩⟩; (try first | exact ⟨rfl, _, World.drewN_drewN _ _ _⟩ | exact ⟨rfl, _, Eq.trans (World.drewN_drewN _ _ _) (congrArg (World.drewN _) (Nat.add_assoc _ _ _))⟩); have p332 : 0 ≤ (x5_1 : Int) := of_decide_eq_true asa_; have q332 : x5_1 < (t327.length : Int) := of_decide_eq_true asa_; obtain ⟨ad332, e332, hx332_0, hx332_1⟩ := at_T60 (Kd.R_reads' HO_3.out).2.2 x5_1 p332 q332; obtain rfl : ad330 = ad332 := (by injection e332); replace p332 := eq_true p332; replace q332 := eq_true q332; have p333 : 0 ≤ (x5_1 : Int) := of_decide_eq_true asa_; have q333 : x5_1 < (t327.length : Int) := of_decide_eq_true asa_; obtain ⟨ad333, e333, hx333_0, hx333_1⟩ := at_T60 (Kd.R_reads' HO_3.out).2.2 x5_1 p333 q333; obtain rfl : ad330 = ad333 := (by injection e333); replace p333 := eq_true p333; replace q333 := eq_true q333; have p334 : 0 ≤ (x5_1 : Int) := of_decide_eq_true asa_; have q334 : x5_1 < (t327.length : Int) := of_decide_eq_true asa_; obtain ⟨ad334, e334, hx334_0, hx334_1⟩ := at_T60 (Kd.R_reads' HO_3.out).2.2 x5_1 p334 q334; obtain rfl : ad330 = ad334 := (by injection e334); replace p334 := eq_true p334; replace q334 := eq_true q334) | (go_at_call 43; (with_reducible refine (spoolref11_Text.calls k1 ((rd_T60 t327 x5_1).f1) t335 _ A10.out).mono ?_); rintro e w' ⟨rfl, ⟨nd, rfl⟩⟩; (try first | exact ⟨rfl, _, World.drewN_drewN _ _ _⟩ | exact ⟨rfl, _, Eq.trans (World.drewN_drewN _ _ _) (congrArg (World.drewN _) (Nat.add_assoc _ _ _))⟩))); try go_wp2_with (first | (go_at_call 43; (with_reducible refine (spoolref11_Text.calls k1 ((rd_T60 t327 x5_1).f0) t331 _ A6.out).mono ?_); rintro e w' ⟨rfl, ⟨nd, rfl⟩⟩; (try first | exact ⟨rfl, _, World.drewN_drewN _ _ _⟩ | exact ⟨rfl, _, Eq.trans (World.drewN_drewN _ _ _) (congrArg (World.drewN _) (Nat.add_assoc _ _ _))⟩); have p332 : 0 ≤ (x5_1 : Int) := of_decide_eq_true asa_; have q332 : x5_1 < (t327.length : Int) := of_decide_eq_true asa_; obtain ⟨ad332, e332, hx332_0, hx332_1⟩ := at_T60 (Kd.R_reads' HO_3.out).2.2 x5_1 p332 q332; obtain rfl : ad330 = ad332 := (by injection e332); replace p332 := eq_true p332; replace q332 := eq_true q332; have p333 : 0 ≤ (x5_1 : Int) := of_decide_eq_true asa_; have q333 : x5_1 < (t327.length : Int) := of_decide_eq_true asa_; obtain ⟨ad333, e333, hx333_0, hx333_1⟩ := at_T60 (Kd.R_reads' HO_3.out).2.2 x5_1 p333 q333; obtain rfl : ad330 = ad333 := (by injection e333); replace p333 := eq_true p333; replace q333 := eq_true q333; have p334 : 0 ≤ (x5_1 : Int) := of_decide_eq_true asa_; have q334 : x5_1 < (t327.length : Int) := of_decide_eq_true asa_; obtain ⟨ad334, e334, hx334_0, hx334_1⟩ := at_T60 (Kd.R_reads' HO_3.out).2.2 x5_1 p334 q334; obtain rfl : ad330 = ad334 := (by injection e334); replace p334 := eq_true p334; replace q334 := eq_true q334) | (go_at_call 43; (with_reducible refine (spoolref11_Text.calls k1 ((rd_T60 t327 x5_1).f1) t335 _ A10.out).mono ?_); rintro e w' ⟨rfl, ⟨nd, rfl⟩⟩; (try first | exact ⟨rfl, _, World.drewN_drewN _ _ _⟩ | exact ⟨rfl, _, Eq.trans (World.drewN_drewN _ _ _) (congrArg (World.drewN _) (Nat.add_assoc _ _ _))⟩))))
         go_roundg k1
         case measure => have := HK1.out; omega
         case rel => exact ⟨(((x4_1 ++ t331) ++ (⟨#[45]⟩ : ByteArray)) ++ t335), (wrap64 (x5_1 + 1)), fib_, fib_, H', ⟨by have := HK1.out; omega⟩, ⟨by (with_reducible repeat (first | apply Kd.R_alloc | apply Kd.R_drewN | apply Kd.R_drew)); exact HO_3.out⟩, ⟨blw_ HB.out⟩⟩
        ·rw [if_neg c11] at H
         exact absurd H (by simp)
       ·rw [if_neg c9] at H
        exact absurd H (by simp)
      ·rw [if_neg c8] at H
       have c8b0 : decide (((rd_T60 t327 x5_1).f0) < ((rd_T60 t327 x5_1).f1)) = false := decide_eq_false c8
       clear c8
       have H' := Aside0.mk H
       clear H
       obtain ⟨Ao13, co13, eo13⟩ := Kd.R_slice HO_3.out
       subst eo13
       have p330 : 0 ≤ (x5_1 : Int) := of_decide_eq_true asa_
       have q330 : x5_1 < (t327.length : Int) := of_decide_eq_true asa_
       obtain ⟨ad330, e330, hx330_0, hx330_1⟩ := at_T60 (Kd.R_reads' HO_3.out).2.2 x5_1 p330 q330
       cases e330
       replace p330 := eq_true p330
       replace q330 := eq_true q330
       go_wp2_with (first | (go_at_call 43; (with_reducible refine (spoolref11_Text.calls k1 ((rd_T60 t327 x5_1).f0) t331 _ A6.out).mono ?_); rintro e w' ⟨rfl, ⟨nd, rfl⟩⟩; (try first | exact ⟨rfl, _, World.drewN_drewN _ _ _⟩ | exact ⟨rfl, _, Eq.trans (World.drewN_drewN _ _ _) (congrArg (World.drewN _) (Nat.add_assoc _ _ _))⟩); have p332 : 0 ≤ (x5_1 : Int) := of_decide_eq_true asa_; have q332 : x5_1 < (t327.length : Int) := of_decide_eq_true asa_; obtain ⟨ad332, e332, hx332_0, hx332_1⟩ := at_T60 (Kd.R_reads' HO_3.out).2.2 x5_1 p332 q332; obtain rfl : ad330 = ad332 := (by injection e332); replace p332 := eq_true p332; replace q332 := eq_true q332; have p333 : 0 ≤ (x5_1 : Int) := of_decide_eq_true asa_; have q333 : x5_1 < (t327.length : Int) := of_decide_eq_true asa_; obtain ⟨ad333, e333, hx333_0, hx333_1⟩ := at_T60 (Kd.R_reads' HO_3.out).2.2 x5_1 p333 q333; obtain rfl : ad330 = ad333 := (by injection e333); replace p333 := eq_true p333; replace q333 := eq_true q333))
       repeat (go_quiet (first | (go_at_call 43; (with_reducible refine (spoolref11_Text.calls k1 ((rd_T60 t327 x5_1).f0) t331 _ A6.out).mono ?_); rintro e w' ⟨rfl, ⟨nd, rfl⟩⟩; (try first | exact ⟨rfl, _, World.drewN_drewN _ _ _⟩ | exact ⟨rfl, _, Eq.trans (World.drewN_drewN _ _ _) (congrArg (World.drewN _) (Nat.add_assoc _ _ _))⟩); have p332 : 0 ≤ (x5_1 : Int) := of_decide_eq_true asa_; have q332 : x5_1 < (t327.length : Int) := of_decide_eq_true asa_; obtain ⟨ad332, e332, hx332_0, hx332_1⟩ := at_T60 (Kd.R_reads' HO_3.out).2.2 x5_1 p332 q332; obtain rfl : ad330 = ad332 := (by injection e332); replace p332 := eq_true p332; replace q332 := eq_true q332; have p333 : 0 ≤ (x5_1 : Int) := of_decide_eq_true asa_; have q333 : x5_1 < (t327.length : Int) := of_decide_eq_true asa_; obtain ⟨ad333, e333, hx333_0, hx333_1⟩ := at_T60 (Kd.R_reads' HO_3.out).2.2 x5_1 p333 q333; obtain rfl : ad330 = ad333 := (by injection e333); replace p333 := eq_true p333; replace q333 := eq_true q333)); try go_wp2_with (first | (go_at_call 43; (with_reducible refine (spoolref11_Text.calls k1 ((rd_T60 t327 x5_1).f0) t331 _ A6.out).mono ?_); rintro e w' ⟨rfl, ⟨nd, rfl⟩⟩; (try first | exact ⟨rfl, _, World.drewN_drewN _ _ _⟩ | exact ⟨rfl, _, Eq.trans (World.drewN_drewN _ _ _) (congrArg (World.drewN _) (Nat.add_assoc _ _ _))⟩); have p332 : 0 ≤ (x5_1 : Int) := of_decide_eq_true asa_; have q332 : x5_1 < (t327.length : Int) := of_decide_eq_true asa_; obtain ⟨ad332, e332, hx332_0, hx332_1⟩ := at_T60 (Kd.R_reads' HO_3.out).2.2 x5_1 p332 q332; obtain rfl : ad330 = ad332 := (by injection e332); replace p332 := eq_true p332; replace q332 := eq_true q332; have p333 : 0 ≤ (x5_1 : Int) := of_decide_eq_true asa_; have q333 : x5_1 < (t327.length : Int) := of_decide_eq_true asa_; obtain ⟨ad333, e333, hx333_0, hx333_1⟩ := at_T60 (Kd.R_reads' HO_3.out).2.2 x5_1 p333 q333; obtain rfl : ad330 = ad333 := (by injection e333); replace p333 := eq_true p333; replace q333 := eq_true q333)))
       go_roundg k1
       case measure => have := HK1.out; omega
       case rel => exact ⟨(x4_1 ++ t331), (wrap64 (x5_1 + 1)), fib_, fib_, H', ⟨by have := HK1.out; omega⟩, ⟨by (with_reducible repeat (first | apply Kd.R_alloc | apply Kd.R_drewN | apply Kd.R_drew)); exact HO_3.out⟩, ⟨blw_ HB.out⟩⟩
     ·rw [if_neg c7] at H
      exact absurd H (by simp)
    ·rw [if_neg c5] at H
     exact absurd H (by simp)
   ·rw [if_neg c4] at H
    have c4b0 : decide (x5_1 < (t327.length : Int)) = false := decide_eq_false c4
    clear c4
    by_cases c14 : (t327.length : Int) = 0
    ·rw [if_pos c14] at H
     have c14b0 : ((t327.length : Int) == 0) = true := beq_iff_eq.mpr c14
     have c14b1 : ((t327.length : Int) != 0) = false := bne_eq_false_iff_eq.mpr c14
     clear c14
     replace H := Option.bind_eq_some_iff.mp H
     obtain ⟨t336, A150, H⟩ := H
     replace H : (if 2 + t336.size ≤ 9223372036854775807 then (if ((⟨#[91, 94]⟩ : ByteArray) ++ t336).size + 1 ≤ 9223372036854775807 then ((spoolref11_Text.f k1 1114111).bind fun t337 => (if (((⟨#[91, 94]⟩ : ByteArray) ++ t336) ++ (⟨#[45]⟩ : ByteArray)).size + t337.size ≤ 9223372036854775807 then (if ((((⟨#[91, 94]⟩ : ByteArray) ++ t336) ++ (⟨#[45]⟩ : ByteArray)) ++ t337).size + 1 ≤ 9223372036854775807 then (some (((((⟨#[91, 94]⟩ : ByteArray) ++ t336) ++ (⟨#[45]⟩ : ByteArray)) ++ t337) ++ (⟨#[93]⟩ : ByteArray))) else (none)) else (none))) else (none)) else (none)) = some r := H
     have A15 := Aside0.mk A150
     clear A150
     by_cases c16 : 2 + t336.size ≤ 9223372036854775807
     ·rw [if_pos c16] at H
      have c16b0 := eq_true c16
      have c16b1 : decide (2 + t336.size ≤ 9223372036854775807) = true := decide_eq_true c16
      try have c16b2 : (9223372036854775807 < 2 + t336.size) = False := eq_false (Nat.not_lt.2 c16)
      by_cases c17 : ((⟨#[91, 94]⟩ : ByteArray) ++ t336).size + 1 ≤ 9223372036854775807
      ·rw [if_pos c17] at H
       have c17b0 := eq_true c17
       have c17b1 : decide (((⟨#[91, 94]⟩ : ByteArray) ++ t336).size + 1 ≤ 9223372036854775807) = true := decide_eq_true c17
       try have c17b1s : decide ((2 + t336.size) + 1 ≤ 9223372036854775807) = true := (by have h_ := c17b1; simp only [ByteArray.size_append] at h_; exact h_)
       try have c17b2 : (9223372036854775807 < ((⟨#[91, 94]⟩ : ByteArray) ++ t336).size + 1) = False := eq_false (Nat.not_lt.2 c17)
       try have c17b2s : (9223372036854775807 < (2 + t336.size) + 1) = False := (by have h_ := c17b2; simp only [ByteArray.size_append] at h_; exact h_)
       replace H := Option.bind_eq_some_iff.mp H
       obtain ⟨t337, A180, H⟩ := H
       replace H : (if (((⟨#[91, 94]⟩ : ByteArray) ++ t336) ++ (⟨#[45]⟩ : ByteArray)).size + t337.size ≤ 9223372036854775807 then (if ((((⟨#[91, 94]⟩ : ByteArray) ++ t336) ++ (⟨#[45]⟩ : ByteArray)) ++ t337).size + 1 ≤ 9223372036854775807 then (some (((((⟨#[91, 94]⟩ : ByteArray) ++ t336) ++ (⟨#[45]⟩ : ByteArray)) ++ t337) ++ (⟨#[93]⟩ : ByteArray))) else (none)) else (none)) = some r := H
       have A18 := Aside0.mk A180
       clear A180
       by_cases c19 : (((⟨#[91, 94]⟩ : ByteArray) ++ t336) ++ (⟨#[45]⟩ : ByteArray)).size + t337.size ≤ 9223372036854775807
       ·rw [if_pos c19] at H
        have c19b0 := eq_true c19
        have c19b1 : decide ((((⟨#[91, 94]⟩ : ByteArray) ++ t336) ++ (⟨#[45]⟩ : ByteArray)).size + t337.size ≤ 9223372036854775807) = true := decide_eq_true c19
        try have c19b1s : decide (((2 + t336.size) + 1) + t337.size ≤ 9223372036854775807) = true := (by have h_ := c19b1; simp only [ByteArray.size_append] at h_; exact h_)
        try have c19b2 : (9223372036854775807 < (((⟨#[91, 94]⟩ : ByteArray) ++ t336) ++ (⟨#[45]⟩ : ByteArray)).size + t337.size) = False := eq_false (Nat.not_lt.2 c19)
        try have c19b2s : (9223372036854775807 < ((2 + t336.size) + 1) + t337.size) = False := (by have h_ := c19b2; simp only [ByteArray.size_append] at h_; exact h_)
        by_cases c20 : ((((⟨#[91, 94]⟩ : ByteArray) ++ t336) ++ (⟨#[45]⟩ : ByteArray)) ++ t337).size + 1 ≤ 9223372036854775807
        ·rw [if_pos c20] at H
         have c20b0 := eq_true c20
         have c20b1 : decide (((((⟨#[91, 94]⟩ : ByteArray) ++ t336) ++ (⟨#[45]⟩ : ByteArray)) ++ t337).size + 1 ≤ 9223372036854775807) = true := decide_eq_true c20
         try have c20b1s : decide ((((2 + t336.size) + 1) + t337.size) + 1 ≤ 9223372036854775807) = true := (by have h_ := c20b1; simp only [ByteArray.size_append] at h_; exact h_)
         try have c20b2 : (9223372036854775807 < ((((⟨#[91, 94]⟩ : ByteArray) ++ t336) ++ (⟨#[45]⟩ : ByteArray)) ++ t337).size + 1) = False := eq_false (Nat.not_lt.2 c20)
         try have c20b2s : (9223372036854775807 < (((2 + t336.size) + 1) + t337.size) + 1) = False := (by have h_ := c20b2; simp only [ByteArray.size_append] at h_; exact h_)
         obtain rfl := Option.some.inj H
         obtain ⟨Ao21, co21, eo21⟩ := Kd.R_slice HO_3.out
         subst eo21
         go_wp2_with (first | (go_at_call 43; (with_reducible refine (spoolref11_Text.calls k1 0 t336 _ A15.out).mono ?_); rintro e w' ⟨rfl, ⟨nd, rfl⟩⟩; (try first | exact ⟨rfl, _, World.drewN_drewN _ _ _⟩ | exact ⟨rfl, _, Eq.trans (World.drewN_drewN _ _ _) (congrArg (World.drewN _) (Nat.add_assoc _ _ _))⟩)) | (go_at_call 43; (with_reducible refine (spoolref11_Text.calls k1 1114111 t337 _ A18.out).mono ?_); rintro e w' ⟨rfl, ⟨nd, rfl⟩⟩; (try first | exact ⟨rfl, _, World.drewN_drewN _ _ _⟩ | exact ⟨rfl, _, Eq.trans (World.drewN_drewN _ _ _) (congrArg (World.drewN _) (Nat.add_assoc _ _ _))⟩)))
         repeat (go_quiet (first | (go_at_call 43; (with_reducible refine (spoolref11_Text.calls k1 0 t336 _ A15.out).mono ?_); rintro e w' ⟨rfl, ⟨nd, rfl⟩⟩; (try first | exact ⟨rfl, _, World.drewN_drewN _ _ _⟩ | exact ⟨rfl, _, Eq.trans (World.drewN_drewN _ _ _) (congrArg (World.drewN _) (Nat.add_assoc _ _ _))⟩)) | (go_at_call 43; (with_reducible refine (spoolref11_Text.calls k1 1114111 t337 _ A18.out).mono ?_); rintro e w' ⟨rfl, ⟨nd, rfl⟩⟩; (try first | exact ⟨rfl, _, World.drewN_drewN _ _ _⟩ | exact ⟨rfl, _, Eq.trans (World.drewN_drewN _ _ _) (congrArg (World.drewN _) (Nat.add_assoc _ _ _))⟩))); try go_wp2_with (first | (go_at_call 43; (with_reducible refine (spoolref11_Text.calls k1 0 t336 _ A15.out).mono ?_); rintro e w' ⟨rfl, ⟨nd, rfl⟩⟩; (try first | exact ⟨rfl, _, World.drewN_drewN _ _ _⟩ | exact ⟨rfl, _, Eq.trans (World.drewN_drewN _ _ _) (congrArg (World.drewN _) (Nat.add_assoc _ _ _))⟩)) | (go_at_call 43; (with_reducible refine (spoolref11_Text.calls k1 1114111 t337 _ A18.out).mono ?_); rintro e w' ⟨rfl, ⟨nd, rfl⟩⟩; (try first | exact ⟨rfl, _, World.drewN_drewN _ _ _⟩ | exact ⟨rfl, _, Eq.trans (World.drewN_drewN _ _ _) (congrArg (World.drewN _) (Nat.add_assoc _ _ _))⟩))))
         go_ret
         exact ⟨fia_, blw_ HB.out⟩
        ·rw [if_neg c20] at H
         exact absurd H (by simp)
       ·rw [if_neg c19] at H
        exact absurd H (by simp)
      ·rw [if_neg c17] at H
       exact absurd H (by simp)
     ·rw [if_neg c16] at H
      exact absurd H (by simp)
    ·rw [if_neg c14] at H
     have c14b0 : ((t327.length : Int) == 0) = false := beq_eq_false_iff_ne.mpr c14
     have c14b1 : ((t327.length : Int) != 0) = true := bne_iff_ne.mpr c14
     have c14b2 : ¬ (t327 = []) := fun h_ => c14 (by rw [h_]; rfl)
     by_cases c22 : x4_1.size + 1 ≤ 9223372036854775807
     ·rw [if_pos c22] at H
      have c22b0 := eq_true c22
      have c22b1 : decide (x4_1.size + 1 ≤ 9223372036854775807) = true := decide_eq_true c22
      try have c22b2 : (9223372036854775807 < x4_1.size + 1) = False := eq_false (Nat.not_lt.2 c22)
      obtain rfl := Option.some.inj H
      obtain ⟨Ao23, co23, eo23⟩ := Kd.R_slice HO_3.out
      subst eo23
      go_wp2
      repeat (go_quiet (fail); try go_wp2)
      go_ret
      exact ⟨fia_, blw_ HB.out⟩
     ·rw [if_neg c22] at H
      exact absurd H (by simp)
end Go.Proofs.YtlihkebmonfefaaDoor.PG

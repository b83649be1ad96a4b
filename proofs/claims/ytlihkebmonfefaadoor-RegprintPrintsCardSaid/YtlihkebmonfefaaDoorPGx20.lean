-- WRITTEN BY A PROGRAM OF THIS SESSION (patchprint.py over the kit's print)
import Derived.Test.YtlihkebmonfefaaDoorPGx0
namespace Go.Proofs.YtlihkebmonfefaaDoor.PG
open Go.RowKit Go.Proofs.YtlihkebmonfefaaDoorW.PrintWords Go.Proofs.YtlihkebmonfefaaDoorW.PrintLast Go.Proofs.YtlihkebmonfefaaDoorW.PrintMore
attribute [local go_sem] max2_int min2_int max_two min_two max_three min_three max_four min_four   -- for this text's walks alone
set_option linter.unusedVariables false
set_option linter.unusedSimpArgs false
mutual
def spoolref14_Deep.l0 : Nat → ByteArray → Int → Int → Bool → Int → Option (Int)
 | 0, _, _, _, _, _ => none
 | k + 1, x0, x3, x4, x5, x6 => if x6 < (x0.size : Int) then (if 0 ≤ x6 then (if (bt x0 x6) = 91 then (spoolref14_Deep.j1 k x0 x3 x4 true x6) else (spoolref14_Deep.j1 k x0 x3 x4 x5 x6)) else (none)) else (some x3)
def spoolref14_Deep.j1 : Nat → ByteArray → Int → Int → Bool → Int → Option (Int)
 | 0, _, _, _, _, _ => none
 | k + 1, x0, x3, x4, x5, x6 => if 0 ≤ x6 then (if x6 < (x0.size : Int) then (if (bt x0 x6) = 93 then (spoolref14_Deep.j2 k x0 x3 x4 false x6) else (spoolref14_Deep.j2 k x0 x3 x4 x5 x6)) else (none)) else (none)
def spoolref14_Deep.j2 : Nat → ByteArray → Int → Int → Bool → Int → Option (Int)
 | 0, _, _, _, _, _ => none
 | k + 1, x0, x3, x4, x5, x6 => if 0 ≤ x6 then (if x6 < (x0.size : Int) then (if (bt x0 x6) = 40 then (spoolref14_Deep.j3 k x0 x3 x4 x5 x6 (!x5)) else (spoolref14_Deep.j3 k x0 x3 x4 x5 x6 false)) else (none)) else (none)
def spoolref14_Deep.j3 : Nat → ByteArray → Int → Int → Bool → Int → Bool → Option (Int)
 | 0, _, _, _, _, _, _ => none
 | k + 1, x0, x3, x4, x5, x6, x28 => if x28 = true then (spoolref14_Deep.j4 k x0 x3 (wrap64 (x4 + 1)) x5 x6) else (spoolref14_Deep.j4 k x0 x3 x4 x5 x6)
def spoolref14_Deep.j4 : Nat → ByteArray → Int → Int → Bool → Int → Option (Int)
 | 0, _, _, _, _, _ => none
 | k + 1, x0, x3, x4, x5, x6 => if 0 ≤ x6 then (if x6 < (x0.size : Int) then (if (bt x0 x6) = 41 then (spoolref14_Deep.j5 k x0 x3 x4 x5 x6 (!x5)) else (spoolref14_Deep.j5 k x0 x3 x4 x5 x6 false)) else (none)) else (none)
def spoolref14_Deep.j5 : Nat → ByteArray → Int → Int → Bool → Int → Bool → Option (Int)
 | 0, _, _, _, _, _, _ => none
 | k + 1, x0, x3, x4, x5, x6, x38 => if x38 = true then (if (wrap64 (x4 - 1)) > x3 then (spoolref14_Deep.l0 k x0 (wrap64 (x4 - 1)) (wrap64 (x4 - 1)) x5 (wrap64 (x6 + 1))) else (spoolref14_Deep.l0 k x0 x3 (wrap64 (x4 - 1)) x5 (wrap64 (x6 + 1)))) else (if x4 > x3 then (spoolref14_Deep.l0 k x0 x4 x4 x5 (wrap64 (x6 + 1))) else (spoolref14_Deep.l0 k x0 x3 x4 x5 (wrap64 (x6 + 1))))
end
def spoolref14_Deep.f (k : Nat) (a0 : ByteArray) : Option (Int) := spoolref14_Deep.l0 k a0 0 0 false 0
set_option maxHeartbeats 8000000 in
set_option maxRecDepth 100000 in
theorem spoolref14_Deep.calls (k : Nat) (a0 : ByteArray) (r : Int) (w : World) (h : spoolref14_Deep.f k a0 = some r) :
  Calls Tryd.prog 10 #[.string a0] w fun e w' => e = .returned (.int .i64 r) ∧ Drawn0 w w' := by
 have H : (spoolref14_Deep.l0 k a0 0 0 false 0) = some r := h
 clear h
 have H' := Aside0.mk H
 clear H
 go_enter Tryd.func10, Tryd.ntmps10
 go_wp2
 go_loopg [3, 4, 5, 6] k (fun kq v3 v4 v5 v6 w' => ∃ (x3_1 : Int) (x4_1 : Int) (x5_1 : Bool) (x6_1 : Int), v3 = .int .i64 x3_1 ∧ v4 = .int .i64 x4_1 ∧ v5 = .bool x5_1 ∧ v6 = .int .i64 x6_1 ∧ Aside0 (spoolref14_Deep.l0 kq a0 x3_1 x4_1 x5_1 x6_1 = some r) ∧ Aside0 (kq ≤ k) ∧ Drawn0 w w')
 case atStart => exact ⟨(0), (0), (false), (0), fib_, fib_, fib_, fib_, H', ⟨Nat.le_refl _⟩, by repeat (first | exact Drawn0.refl _ | apply Drawn0.step)⟩
 case round =>
  clear H'
  try clear c1
  obtain ⟨x3_1, x4_1, x5_1, x6_1, rfl, rfl, rfl, rfl, HA, HK1, ⟨m1, rfl⟩⟩ := hrel
  cases gk with
  | zero => exact absurd HA.out (by simp [spoolref14_Deep.l0])
  | succ k1 =>
   have H := HA.out
   clear HA
   simp only [spoolref14_Deep.l0] at H
   by_cases c2 : x6_1 < (a0.size : Int)
   ·rw [if_pos c2] at H
    have c2b0 : decide (x6_1 < (a0.size : Int)) = true := decide_eq_true c2
    clear c2
    by_cases c3 : 0 ≤ x6_1
    ·rw [if_pos c3] at H
     have c3b0 : decide (0 ≤ x6_1) = true := decide_eq_true c3
     clear c3
     have HC5 := Aside0.mk H
     clear H
     have p4 : 0 ≤ (x6_1 : Int) := of_decide_eq_true asa_
     have q4 : x6_1 < (a0.size : Int) := of_decide_eq_true asa_
     have hx4 := bt_at a0 x6_1
     replace p4 := eq_true p4
     replace q4 := eq_true q4
     go_upto_if 16 with (fail)
     go_cut [5] (fun v5 wc => ∃ (kq : Nat) (x5_4 : Bool), v5 = .bool x5_4 ∧ Aside0 (spoolref14_Deep.j1 kq a0 x3_1 x4_1 x5_4 x6_1 = some r) ∧ Aside0 (kq ≤ k1) ∧ Drawn0 w wc)
     case first =>
      have H := HC5.out
      clear HC5
      by_cases c6 : (bt a0 x6_1) = 91
      ·rw [if_pos c6] at H
       have c6b0 : ((bt a0 x6_1) == 91) = true := beq_iff_eq.mpr c6
       have c6b1 : ((bt a0 x6_1) != 91) = false := bne_eq_false_iff_eq.mpr c6
       clear c6
       (first | rw [c6b0] | (simp only [i64_w, i32_w]; rw [c6b0]) | skip)
       have H' := Aside0.mk H
       clear H
       go_wp2
       go_meet
       case rel => exact ⟨_, (true), fib_, H', ⟨by have := HK1.out; first | omega | exact Nat.le_refl _⟩, by repeat (first | exact Drawn0.refl _ | apply Drawn0.step)⟩
      ·rw [if_neg c6] at H
       have c6b0 : ((bt a0 x6_1) == 91) = false := beq_eq_false_iff_ne.mpr c6
       have c6b1 : ((bt a0 x6_1) != 91) = true := bne_iff_ne.mpr c6
       (first | rw [c6b0] | (simp only [i64_w, i32_w]; rw [c6b0]) | skip)
       have H' := Aside0.mk H
       clear H
       go_wp2
       go_meet
       case rel => exact ⟨_, (x5_1), fib_, H', ⟨by have := HK1.out; first | omega | exact Nat.le_refl _⟩, by repeat (first | exact Drawn0.refl _ | apply Drawn0.step)⟩
     case rest =>
      clear HC5
      try clear c1
      try clear c2
      try clear c2b0
      try clear p2
      try clear c3
      try clear c3b0
      try clear p4
      try clear q4
      try clear hx4
      try clear c6
      try clear c6b0
      try clear c6b1
      try clear p4
      try clear q4
      obtain ⟨kq, x5_4, rfl, HA, HJ4, ⟨mc4, rfl⟩⟩ := hcut
      cases kq with
      | zero => exact absurd HA.out (by simp [spoolref14_Deep.j1])
      | succ kj4 =>
       have H := HA.out
       clear HA
       simp only [spoolref14_Deep.j1] at H
       by_cases c7 : 0 ≤ x6_1
       ·rw [if_pos c7] at H
        have c7b0 : decide (0 ≤ x6_1) = true := decide_eq_true c7
        clear c7
        by_cases c8 : x6_1 < (a0.size : Int)
        ·rw [if_pos c8] at H
         have c8b0 : decide (x6_1 < (a0.size : Int)) = true := decide_eq_true c8
         clear c8
         have HC10 := Aside0.mk H
         clear H
         have p9 : 0 ≤ (x6_1 : Int) := of_decide_eq_true asa_
         have q9 : x6_1 < (a0.size : Int) := of_decide_eq_true asa_
         have hx9 := bt_at a0 x6_1
         replace p9 := eq_true p9
         replace q9 := eq_true q9
         go_upto_if 20 with (fail)
         go_cut [5] (fun v5 wc => ∃ (kq : Nat) (x5_9 : Bool), v5 = .bool x5_9 ∧ Aside0 (spoolref14_Deep.j2 kq a0 x3_1 x4_1 x5_9 x6_1 = some r) ∧ Aside0 (kq ≤ kj4) ∧ Drawn0 w wc)
         case first =>
          have H := HC10.out
          clear HC10
          by_cases c11 : (bt a0 x6_1) = 93
          ·rw [if_pos c11] at H
           have c11b0 : ((bt a0 x6_1) == 93) = true := beq_iff_eq.mpr c11
           have c11b1 : ((bt a0 x6_1) != 93) = false := bne_eq_false_iff_eq.mpr c11
           clear c11
           (first | rw [c11b0] | (simp only [i64_w, i32_w]; rw [c11b0]) | skip)
           have H' := Aside0.mk H
           clear H
           go_wp2
           go_meet
           case rel => exact ⟨_, (false), fib_, H', ⟨by have := HK1.out; have := HJ4.out; first | omega | exact Nat.le_refl _⟩, by repeat (first | exact Drawn0.refl _ | apply Drawn0.step)⟩
          ·rw [if_neg c11] at H
           have c11b0 : ((bt a0 x6_1) == 93) = false := beq_eq_false_iff_ne.mpr c11
           have c11b1 : ((bt a0 x6_1) != 93) = true := bne_iff_ne.mpr c11
           (first | rw [c11b0] | (simp only [i64_w, i32_w]; rw [c11b0]) | skip)
           have H' := Aside0.mk H
           clear H
           go_wp2
           go_meet
           case rel => exact ⟨_, (x5_4), fib_, H', ⟨by have := HK1.out; have := HJ4.out; first | omega | exact Nat.le_refl _⟩, by repeat (first | exact Drawn0.refl _ | apply Drawn0.step)⟩
         case rest =>
          clear HC10
          try clear c1
          try clear c2
          try clear c2b0
          try clear p2
          try clear c3
          try clear c3b0
          try clear c4
          try clear p4
          try clear q4
          try clear hx4
          try clear c6
          try clear c6b0
          try clear c6b1
          try clear c7
          try clear c7b0
          try clear c8
          try clear c8b0
          try clear p9
          try clear q9
          try clear hx9
          try clear c10
          try clear c11
          try clear c11b0
          try clear c11b1
          try clear p2
          try clear p4
          try clear p9
          try clear q4
          try clear q9
          obtain ⟨kq, x5_9, rfl, HA, HJ9, ⟨mc9, rfl⟩⟩ := hcut
          cases kq with
          | zero => exact absurd HA.out (by simp [spoolref14_Deep.j2])
          | succ kj9 =>
           have H := HA.out
           clear HA
           simp only [spoolref14_Deep.j2] at H
           have HC12 := Aside0.mk H
           clear H
           go_upto_region 11 with (fail)
           go_cut [28] (fun v28 wc => ∃ (kq : Nat) (x28_11 : Bool), v28 = .bool x28_11 ∧ Aside0 (spoolref14_Deep.j3 kq a0 x3_1 x4_1 x5_9 x6_1 x28_11 = some r) ∧ Aside0 (kq ≤ kj9) ∧ Drawn0 w wc)
           case first =>
            have H := HC12.out
            clear HC12
            by_cases c13 : 0 ≤ x6_1
            ·rw [if_pos c13] at H
             have c13b0 : decide (0 ≤ x6_1) = true := decide_eq_true c13
             clear c13
             (first | rw [c13b0] | (simp only [i64_w, i32_w]; rw [c13b0]) | skip)
             by_cases c14 : x6_1 < (a0.size : Int)
             ·rw [if_pos c14] at H
              have c14b0 : decide (x6_1 < (a0.size : Int)) = true := decide_eq_true c14
              clear c14
              by_cases c16 : (bt a0 x6_1) = 40
              ·rw [if_pos c16] at H
               have c16b0 : ((bt a0 x6_1) == 40) = true := beq_iff_eq.mpr c16
               have c16b1 : ((bt a0 x6_1) != 40) = false := bne_eq_false_iff_eq.mpr c16
               clear c16
               have H' := Aside0.mk H
               clear H
               have p15 : 0 ≤ (x6_1 : Int) := of_decide_eq_true asa_
               have q15 : x6_1 < (a0.size : Int) := of_decide_eq_true asa_
               have hx15 := bt_at a0 x6_1
               replace p15 := eq_true p15
               replace q15 := eq_true q15
               go_wp2
               go_meet
               case rel => exact ⟨_, (!x5_9), fib_, H', ⟨by have := HK1.out; have := HJ4.out; have := HJ9.out; first | omega | exact Nat.le_refl _⟩, by repeat (first | exact Drawn0.refl _ | apply Drawn0.step)⟩
              ·rw [if_neg c16] at H
               have c16b0 : ((bt a0 x6_1) == 40) = false := beq_eq_false_iff_ne.mpr c16
               have c16b1 : ((bt a0 x6_1) != 40) = true := bne_iff_ne.mpr c16
               have H' := Aside0.mk H
               clear H
               have p15 : 0 ≤ (x6_1 : Int) := of_decide_eq_true asa_
               have q15 : x6_1 < (a0.size : Int) := of_decide_eq_true asa_
               have hx15 := bt_at a0 x6_1
               replace p15 := eq_true p15
               replace q15 := eq_true q15
               go_wp2
               go_meet
               case rel => exact ⟨_, (false), fib_, H', ⟨by have := HK1.out; have := HJ4.out; have := HJ9.out; first | omega | exact Nat.le_refl _⟩, by repeat (first | exact Drawn0.refl _ | apply Drawn0.step)⟩
             ·rw [if_neg c14] at H
              exact absurd H (by simp)
            ·rw [if_neg c13] at H
             exact absurd H (by simp)
           case rest =>
            clear HC12
            try clear c1
            try clear p1
            try clear q1
            try clear hx1
            try clear c2
            try clear c2b0
            try clear p2
            try clear c3
            try clear c3b0
            try clear c4
            try clear p4
            try clear q4
            try clear hx4
            try clear c6
            try clear c6b0
            try clear c6b1
            try clear c7
            try clear c7b0
            try clear c8
            try clear c8b0
            try clear c9
            try clear p9
            try clear q9
            try clear hx9
            try clear c10
            try clear c11
            try clear c11b0
            try clear c11b1
            try clear c13
            try clear c13b0
            try clear c14
            try clear c14b0
            try clear p15
            try clear q15
            try clear hx15
            try clear c16
            try clear c16b0
            try clear c16b1
            try clear p15
            try clear p2
            try clear p4
            try clear p9
            try clear q15
            try clear q4
            try clear q9
            obtain ⟨kq, x28_11, rfl, HA, HJ11, ⟨mc11, rfl⟩⟩ := hcut
            cases kq with
            | zero => exact absurd HA.out (by simp [spoolref14_Deep.j3])
            | succ kj11 =>
             have H := HA.out
             clear HA
             simp only [spoolref14_Deep.j3] at H
             have HC17 := Aside0.mk H
             clear H
             go_upto_if 28 with (fail)
             go_cut [4] (fun v4 wc => ∃ (kq : Nat) (x4_16 : Int), v4 = .int .i64 x4_16 ∧ Aside0 (spoolref14_Deep.j4 kq a0 x3_1 x4_16 x5_9 x6_1 = some r) ∧ Aside0 (kq ≤ kj11) ∧ Drawn0 w wc)
             case first =>
              have H := HC17.out
              clear HC17
              by_cases c18 : x28_11 = true
              ·subst c18
               have H1 : (spoolref14_Deep.j4 kj11 a0 x3_1 (wrap64 (x4_1 + 1)) x5_9 x6_1) = some r := by rw [if_pos rfl] at H; exact H
               clear H
               have H := H1
               clear H1
               have H' := Aside0.mk H
               clear H
               go_wp2
               go_meet
               case rel => exact ⟨_, (wrap64 (x4_1 + 1)), fib_, H', ⟨by have := HK1.out; have := HJ4.out; have := HJ9.out; have := HJ11.out; first | omega | exact Nat.le_refl _⟩, by repeat (first | exact Drawn0.refl _ | apply Drawn0.step)⟩
              ·replace c18 := Bool.eq_false_iff.mpr c18
               subst c18
               have H1 : (spoolref14_Deep.j4 kj11 a0 x3_1 x4_1 x5_9 x6_1) = some r := by rw [if_neg (show ¬ (false = true) by decide)] at H; exact H
               clear H
               have H := H1
               clear H1
               have H' := Aside0.mk H
               clear H
               go_wp2
               go_meet
               case rel => exact ⟨_, (x4_1), fib_, H', ⟨by have := HK1.out; have := HJ4.out; have := HJ9.out; have := HJ11.out; first | omega | exact Nat.le_refl _⟩, by repeat (first | exact Drawn0.refl _ | apply Drawn0.step)⟩
             case rest =>
              clear HC17
              try clear c1
              try clear p1
              try clear q1
              try clear hx1
              try clear c2
              try clear c2b0
              try clear p2
              try clear c3
              try clear c3b0
              try clear c4
              try clear p4
              try clear q4
              try clear hx4
              try clear c6
              try clear c6b0
              try clear c6b1
              try clear p6
              try clear c7
              try clear c7b0
              try clear c8
              try clear c8b0
              try clear c9
              try clear p9
              try clear q9
              try clear hx9
              try clear c10
              try clear c11
              try clear c11b0
              try clear c11b1
              try clear c13
              try clear c13b0
              try clear c14
              try clear c14b0
              try clear p15
              try clear q15
              try clear hx15
              try clear c16
              try clear c16b0
              try clear c16b1
              try clear c18
              try clear p1
              try clear p15
              try clear p2
              try clear p4
              try clear p9
              try clear q1
              try clear q15
              try clear q4
              try clear q9
              obtain ⟨kq, x4_16, rfl, HA, HJ16, ⟨mc16, rfl⟩⟩ := hcut
              cases kq with
              | zero => exact absurd HA.out (by simp [spoolref14_Deep.j4])
              | succ kj16 =>
               have H := HA.out
               clear HA
               simp only [spoolref14_Deep.j4] at H
               have HC19 := Aside0.mk H
               clear H
               go_upto_region 13 with (fail)
               go_cut [38] (fun v38 wc => ∃ (kq : Nat) (x38_18 : Bool), v38 = .bool x38_18 ∧ Aside0 (spoolref14_Deep.j5 kq a0 x3_1 x4_16 x5_9 x6_1 x38_18 = some r) ∧ Aside0 (kq ≤ kj16) ∧ Drawn0 w wc)
               case first =>
                have H := HC19.out
                clear HC19
                by_cases c20 : 0 ≤ x6_1
                ·rw [if_pos c20] at H
                 have c20b0 : decide (0 ≤ x6_1) = true := decide_eq_true c20
                 clear c20
                 (first | rw [c20b0] | (simp only [i64_w, i32_w]; rw [c20b0]) | skip)
                 by_cases c21 : x6_1 < (a0.size : Int)
                 ·rw [if_pos c21] at H
                  have c21b0 : decide (x6_1 < (a0.size : Int)) = true := decide_eq_true c21
                  clear c21
                  by_cases c23 : (bt a0 x6_1) = 41
                  ·rw [if_pos c23] at H
                   have c23b0 : ((bt a0 x6_1) == 41) = true := beq_iff_eq.mpr c23
                   have c23b1 : ((bt a0 x6_1) != 41) = false := bne_eq_false_iff_eq.mpr c23
                   clear c23
                   have H' := Aside0.mk H
                   clear H
                   have p22 : 0 ≤ (x6_1 : Int) := of_decide_eq_true asa_
                   have q22 : x6_1 < (a0.size : Int) := of_decide_eq_true asa_
                   have hx22 := bt_at a0 x6_1
                   replace p22 := eq_true p22
                   replace q22 := eq_true q22
                   go_wp2
                   go_meet
                   case rel => exact ⟨_, (!x5_9), fib_, H', ⟨by have := HK1.out; have := HJ4.out; have := HJ9.out; have := HJ11.out; have := HJ16.out; first | omega | exact Nat.le_refl _⟩, by repeat (first | exact Drawn0.refl _ | apply Drawn0.step)⟩
                  ·rw [if_neg c23] at H
                   have c23b0 : ((bt a0 x6_1) == 41) = false := beq_eq_false_iff_ne.mpr c23
                   have c23b1 : ((bt a0 x6_1) != 41) = true := bne_iff_ne.mpr c23
                   have H' := Aside0.mk H
                   clear H
                   have p22 : 0 ≤ (x6_1 : Int) := of_decide_eq_true asa_
                   have q22 : x6_1 < (a0.size : Int) := of_decide_eq_true asa_
                   have hx22 := bt_at a0 x6_1
                   replace p22 := eq_true p22
                   replace q22 := eq_true q22
                   go_wp2
                   go_meet
                   case rel => exact ⟨_, (false), fib_, H', ⟨by have := HK1.out; have := HJ4.out; have := HJ9.out; have := HJ11.out; have := HJ16.out; first | omega | exact Nat.le_refl _⟩, by repeat (first | exact Drawn0.refl _ | apply Drawn0.step)⟩
                 ·rw [if_neg c21] at H
                  exact absurd H (by simp)
                ·rw [if_neg c20] at H
                 exact absurd H (by simp)
               case rest =>
                clear HC19
                try clear c1
                try clear p1
                try clear q1
                try clear hx1
                try clear c2
                try clear c2b0
                try clear p2
                try clear q2
                try clear hx2
                try clear c3
                try clear c3b0
                try clear c4
                try clear p4
                try clear q4
                try clear hx4
                try clear c6
                try clear c6b0
                try clear c6b1
                try clear p6
                try clear c7
                try clear c7b0
                try clear c8
                try clear c8b0
                try clear c9
                try clear p9
                try clear q9
                try clear hx9
                try clear c10
                try clear c11
                try clear c11b0
                try clear c11b1
                try clear c13
                try clear c13b0
                try clear c14
                try clear c14b0
                try clear p15
                try clear q15
                try clear hx15
                try clear c16
                try clear c16b0
                try clear c16b1
                try clear c18
                try clear c20
                try clear c20b0
                try clear c21
                try clear c21b0
                try clear p22
                try clear q22
                try clear hx22
                try clear c23
                try clear c23b0
                try clear c23b1
                try clear p1
                try clear p15
                try clear p2
                try clear p22
                try clear p4
                try clear p6
                try clear p9
                try clear q1
                try clear q15
                try clear q22
                try clear q4
                try clear q9
                obtain ⟨kq, x38_18, rfl, HA, HJ18, ⟨mc18, rfl⟩⟩ := hcut
                cases kq with
                | zero => exact absurd HA.out (by simp [spoolref14_Deep.j5])
                | succ kj18 =>
                 have H := HA.out
                 clear HA
                 simp only [spoolref14_Deep.j5] at H
                 by_cases c24 : x38_18 = true
                 ·subst c24
                  have H1 : (if (wrap64 (x4_16 - 1)) > x3_1 then (spoolref14_Deep.l0 kj18 a0 (wrap64 (x4_16 - 1)) (wrap64 (x4_16 - 1)) x5_9 (wrap64 (x6_1 + 1))) else (spoolref14_Deep.l0 kj18 a0 x3_1 (wrap64 (x4_16 - 1)) x5_9 (wrap64 (x6_1 + 1)))) = some r := by rw [if_pos rfl] at H; exact H
                  clear H
                  have H := H1
                  clear H1
                  by_cases c25 : (wrap64 (x4_16 - 1)) > x3_1
                  ·rw [if_pos c25] at H
                   have c25b0 : decide (x3_1 < (wrap64 (x4_16 - 1))) = true := decide_eq_true c25
                   clear c25
                   have H' := Aside0.mk H
                   clear H
                   go_wp2
                   go_roundg kj18
                   case measure => have := HK1.out; have := HJ4.out; have := HJ9.out; have := HJ11.out; have := HJ16.out; have := HJ18.out; omega
                   case rel => exact ⟨(wrap64 (x4_16 - 1)), (wrap64 (x4_16 - 1)), (x5_9), (wrap64 (x6_1 + 1)), fib_, fib_, fib_, fib_, H', ⟨by have := HK1.out; have := HJ4.out; have := HJ9.out; have := HJ11.out; have := HJ16.out; have := HJ18.out; omega⟩, by repeat (first | exact Drawn0.refl _ | apply Drawn0.step)⟩
                  ·rw [if_neg c25] at H
                   have c25b0 : decide (x3_1 < (wrap64 (x4_16 - 1))) = false := decide_eq_false c25
                   clear c25
                   have H' := Aside0.mk H
                   clear H
                   go_wp2
                   go_roundg kj18
                   case measure => have := HK1.out; have := HJ4.out; have := HJ9.out; have := HJ11.out; have := HJ16.out; have := HJ18.out; omega
                   case rel => exact ⟨(x3_1), (wrap64 (x4_16 - 1)), (x5_9), (wrap64 (x6_1 + 1)), fib_, fib_, fib_, fib_, H', ⟨by have := HK1.out; have := HJ4.out; have := HJ9.out; have := HJ11.out; have := HJ16.out; have := HJ18.out; omega⟩, by repeat (first | exact Drawn0.refl _ | apply Drawn0.step)⟩
                 ·replace c24 := Bool.eq_false_iff.mpr c24
                  subst c24
                  have H1 : (if x4_16 > x3_1 then (spoolref14_Deep.l0 kj18 a0 x4_16 x4_16 x5_9 (wrap64 (x6_1 + 1))) else (spoolref14_Deep.l0 kj18 a0 x3_1 x4_16 x5_9 (wrap64 (x6_1 + 1)))) = some r := by rw [if_neg (show ¬ (false = true) by decide)] at H; exact H
                  clear H
                  have H := H1
                  clear H1
                  by_cases c26 : x4_16 > x3_1
                  ·rw [if_pos c26] at H
                   have c26b0 : decide (x3_1 < x4_16) = true := decide_eq_true c26
                   clear c26
                   have H' := Aside0.mk H
                   clear H
                   go_wp2
                   go_roundg kj18
                   case measure => have := HK1.out; have := HJ4.out; have := HJ9.out; have := HJ11.out; have := HJ16.out; have := HJ18.out; omega
                   case rel => exact ⟨(x4_16), (x4_16), (x5_9), (wrap64 (x6_1 + 1)), fib_, fib_, fib_, fib_, H', ⟨by have := HK1.out; have := HJ4.out; have := HJ9.out; have := HJ11.out; have := HJ16.out; have := HJ18.out; omega⟩, by repeat (first | exact Drawn0.refl _ | apply Drawn0.step)⟩
                  ·rw [if_neg c26] at H
                   have c26b0 : decide (x3_1 < x4_16) = false := decide_eq_false c26
                   clear c26
                   have H' := Aside0.mk H
                   clear H
                   go_wp2
                   go_roundg kj18
                   case measure => have := HK1.out; have := HJ4.out; have := HJ9.out; have := HJ11.out; have := HJ16.out; have := HJ18.out; omega
                   case rel => exact ⟨(x3_1), (x4_16), (x5_9), (wrap64 (x6_1 + 1)), fib_, fib_, fib_, fib_, H', ⟨by have := HK1.out; have := HJ4.out; have := HJ9.out; have := HJ11.out; have := HJ16.out; have := HJ18.out; omega⟩, by repeat (first | exact Drawn0.refl _ | apply Drawn0.step)⟩
        ·rw [if_neg c8] at H
         exact absurd H (by simp)
       ·rw [if_neg c7] at H
        exact absurd H (by simp)
    ·rw [if_neg c3] at H
     exact absurd H (by simp)
   ·rw [if_neg c2] at H
    have c2b0 : decide (x6_1 < (a0.size : Int)) = false := decide_eq_false c2
    clear c2
    obtain rfl := Option.some.inj H
    go_wp2
    go_ret
    exact ⟨fib_, by repeat (first | exact Drawn0.refl _ | apply Drawn0.step)⟩
end Go.Proofs.YtlihkebmonfefaaDoor.PG

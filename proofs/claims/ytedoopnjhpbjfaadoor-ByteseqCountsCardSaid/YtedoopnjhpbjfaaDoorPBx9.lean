-- WRITTEN BY A PROGRAM OF THIS SESSION (patchprint.py over the kit's print)
import Derived.Test.YtedoopnjhpbjfaaDoorPBx0
namespace Go.Proofs.YtedoopnjhpbjfaaDoor.PB
open Go.RowKit Go.Proofs.YtedoopnjhpbjfaaDoorW.PrintWords Go.Proofs.YtedoopnjhpbjfaaDoorW.PrintLast Go.Proofs.YtedoopnjhpbjfaaDoorW.PrintMore
attribute [local go_sem] arrI39_0 arrI39_1
attribute [local go_sem] max2_int min2_int max_two min_two max_three min_three max_four min_four   -- for this text's walks alone
set_option linter.unusedVariables false
set_option linter.unusedSimpArgs false

/-! ### spoolref08_Count: function 11 -/
mutual
def spoolref08_Count.l0 : Nat → List (List (S35)) → Int → Int → Option (Int)
  | 0, _, _, _ => none
  | k + 1, x0, x3, x4 => if x4 < (x0.length : Int) then (if 0 ≤ x4 then (if ((rd_L3 x0 x4).length : Int) = 0 then (spoolref08_Count.j1 k x0 x3 x4 1 true) else (spoolref08_Count.j1 k x0 x3 x4 1 (decide (((rd_L3 x0 x4).length : Int) > 4)))) else (none)) else (some x3)
def spoolref08_Count.j1 : Nat → List (List (S35)) → Int → Int → Int → Bool → Option (Int)
  | 0, _, _, _, _, _ => none
  | k + 1, x0, x3, x4, x5, x28 => if x28 = true then (spoolref08_Count.j2 k x0 x3 x4 0) else (spoolref08_Count.j2 k x0 x3 x4 x5)
def spoolref08_Count.j2 : Nat → List (List (S35)) → Int → Int → Int → Option (Int)
  | 0, _, _, _, _ => none
  | k + 1, x0, x3, x4, x5 => spoolref08_Count.l1 k x0 x3 x4 x5 0
def spoolref08_Count.l1 : Nat → List (List (S35)) → Int → Int → Int → Int → Option (Int)
  | 0, _, _, _, _, _ => none
  | k + 1, x0, x3, x4, x5, x6 => if 0 ≤ x4 then (if x4 < (x0.length : Int) then (if x6 < ((rd_L3 x0 x4).length : Int) then (spoolref08_Count.j4 k x0 x3 x4 x5 x6 (decide (x6 < 4))) else (spoolref08_Count.j4 k x0 x3 x4 x5 x6 false)) else (none)) else (none)
def spoolref08_Count.j4 : Nat → List (List (S35)) → Int → Int → Int → Int → Bool → Option (Int)
  | 0, _, _, _, _, _, _ => none
  | k + 1, x0, x3, x4, x5, x6, x39 => if x39 = true then (spoolref08_Count.l2 k x0 x3 x4 x5 x6 0 0) else (spoolref08_Count.l0 k x0 (wrap64 (x3 + x5)) (wrap64 (x4 + 1)))
def spoolref08_Count.l2 : Nat → List (List (S35)) → Int → Int → Int → Int → Int → Int → Option (Int)
  | 0, _, _, _, _, _, _, _ => none
  | k + 1, x0, x3, x4, x5, x6, x7, x8 => if x8 < 256 then (if 0 ≤ x4 then (if x4 < (x0.length : Int) then (if 0 ≤ x6 then (if x6 < ((rd_L3 x0 x4).length : Int) then (if x8 ≥ ((rd_T35 (rd_L3 x0 x4) x6).f0) then (if x8 ≤ ((rd_T35 (rd_L3 x0 x4) x6).f1) then (spoolref08_Count.l2 k x0 x3 x4 x5 x6 (wrap64 (x7 + 1)) (wrap64 (x8 + 1))) else (spoolref08_Count.l2 k x0 x3 x4 x5 x6 x7 (wrap64 (x8 + 1)))) else (spoolref08_Count.l2 k x0 x3 x4 x5 x6 x7 (wrap64 (x8 + 1)))) else (none)) else (none)) else (none)) else (none)) else (spoolref08_Count.l1 k x0 x3 x4 (wrap64 (x5 * x7)) (wrap64 (x6 + 1)))
end
def spoolref08_Count.f (k : Nat) (l0 : List (List (S35))) : Option (Int) := spoolref08_Count.l0 k l0 0 0
set_option maxHeartbeats 8000000 in
set_option maxRecDepth 100000 in
theorem spoolref08_Count.calls (k : Nat) (A0 : Option Addr) (c0 : Nat) (l0 : List (List (S35))) (r : Int) (w : World) (hr0 : Kd.C (Kd.slice 35 k35) w A0 l0.length l0) (hc0 : l0.length ≤ c0) (h : spoolref08_Count.f k l0 = some r) :
    Calls Tryd.prog 11 #[.slice A0 l0.length c0] w fun e w' => e = .returned (.int .i64 r) ∧ Drawn0 w w' := by
  have HR0 := Aside0.mk hr0
  have HC0 := Aside0.mk hc0
  clear hr0 hc0
  have H : (spoolref08_Count.l0 k l0 0 0) = some r := h
  clear h
  have H' := Aside0.mk H
  clear H
  go_enter Tryd.func11, Tryd.ntmps11
  go_wp2
  go_loopg [3, 4] k (fun kq v3 v4 w' => ∃ (x3_1 : Int) (x4_1 : Int), v3 = .int .i64 x3_1 ∧ v4 = .int .i64 x4_1 ∧ Aside0 (spoolref08_Count.l0 kq l0 x3_1 x4_1 = some r) ∧ Aside0 (kq ≤ k) ∧ Drawn0 w w')
  case atStart => exact ⟨(0), (0), (by first | rfl | (simp; done) | (simp [*]; done)), (by first | rfl | (simp; done) | (simp [*]; done)), H', ⟨Nat.le_refl _⟩, by repeat (first | exact Drawn0.refl _ | apply Drawn0.step)⟩
  case round =>
    clear H'
    try clear c1
    obtain ⟨x3_1, x4_1, rfl, rfl, HA, HK1, ⟨m1, rfl⟩⟩ := hrel
    cases gk with
    | zero => exact absurd HA.out (by simp [spoolref08_Count.l0])
    | succ k1 =>
      have H := HA.out
      clear HA
      simp only [spoolref08_Count.l0] at H
      by_cases c2 : x4_1 < (l0.length : Int)
      · rw [if_pos c2] at H
        have c2b0 : decide (x4_1 < (l0.length : Int)) = true := decide_eq_true c2
        clear c2
        have HC3 := Aside0.mk H
        clear H
        go_upto_region 6 with (fail)
        go_cut [28] (fun v28 wc => ∃ (kq : Nat) (x28_2 : Bool), v28 = .bool x28_2 ∧ Aside0 (spoolref08_Count.j1 kq l0 x3_1 x4_1 1 x28_2 = some r) ∧ Aside0 (kq ≤ k1) ∧ Drawn0 w wc)
        case first =>
          have H := HC3.out
          clear HC3
          by_cases c4 : 0 ≤ x4_1
          · rw [if_pos c4] at H
            have c4b0 : decide (0 ≤ x4_1) = true := decide_eq_true c4
            clear c4
            (first | rw [c4b0] | (simp only [i64_w, i32_w]; rw [c4b0]) | skip)
            by_cases c5 : ((rd_L3 l0 x4_1).length : Int) = 0
            · rw [if_pos c5] at H
              have c5b0 : (((rd_L3 l0 x4_1).length : Int) == 0) = true := beq_iff_eq.mpr c5
              have c5b1 : (((rd_L3 l0 x4_1).length : Int) != 0) = false := bne_eq_false_iff_eq.mpr c5
              clear c5
              have H' := Aside0.mk H
              clear H
              have p246 : 0 ≤ (x4_1 : Int) := of_decide_eq_true (by first | (with_reducible assumption) | assumption)
              have q246 : x4_1 < (l0.length : Int) := of_decide_eq_true (by first | (with_reducible assumption) | assumption)
              obtain ⟨ad246, A246_0, c246_0, e246, hx246_0, hl246_0, hi246_0⟩ := at_L3 HR0.out x4_1 p246 q246
              cases e246
              have HR246_0 := Aside0.mk hi246_0
              have HC246_0 := Aside0.mk hl246_0
              clear hi246_0 hl246_0
              replace p246 := eq_true p246
              replace q246 := eq_true q246
              go_wp2
              go_meet
              case rel => exact ⟨_, (true), (by first | rfl | (simp; done) | (simp [*]; done)), H', ⟨by have := HK1.out; first | omega | exact Nat.le_refl _⟩, by repeat (first | exact Drawn0.refl _ | apply Drawn0.step)⟩
            · rw [if_neg c5] at H
              have c5b0 : (((rd_L3 l0 x4_1).length : Int) == 0) = false := beq_eq_false_iff_ne.mpr c5
              have c5b1 : (((rd_L3 l0 x4_1).length : Int) != 0) = true := bne_iff_ne.mpr c5
              have c5b2 : ¬ ((rd_L3 l0 x4_1) = []) := fun h_ => c5 (by rw [h_]; rfl)
              have H' := Aside0.mk H
              clear H
              have p246 : 0 ≤ (x4_1 : Int) := of_decide_eq_true (by first | (with_reducible assumption) | assumption)
              have q246 : x4_1 < (l0.length : Int) := of_decide_eq_true (by first | (with_reducible assumption) | assumption)
              obtain ⟨ad246, A246_0, c246_0, e246, hx246_0, hl246_0, hi246_0⟩ := at_L3 HR0.out x4_1 p246 q246
              cases e246
              have HR246_0 := Aside0.mk hi246_0
              have HC246_0 := Aside0.mk hl246_0
              clear hi246_0 hl246_0
              replace p246 := eq_true p246
              replace q246 := eq_true q246
              have p247 : 0 ≤ (x4_1 : Int) := of_decide_eq_true (by first | (with_reducible assumption) | assumption)
              have q247 : x4_1 < (l0.length : Int) := of_decide_eq_true (by first | (with_reducible assumption) | assumption)
              obtain ⟨ad247, A247_0, c247_0, e247, hx247_0, hl247_0, hi247_0⟩ := at_L3 HR0.out x4_1 p247 q247
              obtain rfl : ad246 = ad247 := (by injection e247)
              have HR247_0 := Aside0.mk hi247_0
              have HC247_0 := Aside0.mk hl247_0
              clear hi247_0 hl247_0
              replace p247 := eq_true p247
              replace q247 := eq_true q247
              have ea_ := Option.some.inj (hx246_0.symm.trans hx247_0)
              injection ea_ with ea_ en_ ec_
              subst ea_
              subst ec_
              clear en_
              go_wp2
              go_meet
              case rel => exact ⟨_, (decide (((rd_L3 l0 x4_1).length : Int) > 4)), (by first | rfl | (simp; done) | (simp [*]; done)), H', ⟨by have := HK1.out; first | omega | exact Nat.le_refl _⟩, by repeat (first | exact Drawn0.refl _ | apply Drawn0.step)⟩
          · rw [if_neg c4] at H
            exact absurd H (by simp)
        case rest =>
          clear HC3
          try clear c1
          try clear c2
          try clear c2b0
          try clear p2
          try clear q2
          try clear hx2
          try clear c4
          try clear c4b0
          try clear c5
          try clear c5b0
          try clear c5b1
          try clear c5b2
          try clear hx246_0
          try clear hx247_0
          try clear p246
          try clear p247
          try clear q246
          try clear q247
          obtain ⟨kq, x28_2, rfl, HA, HJ2, ⟨mc2, rfl⟩⟩ := hcut
          cases kq with
          | zero => exact absurd HA.out (by simp [spoolref08_Count.j1])
          | succ kj2 =>
            have H := HA.out
            clear HA
            simp only [spoolref08_Count.j1] at H
            have HC6 := Aside0.mk H
            clear H
            go_upto_if 28 with (fail)
            go_cut [5] (fun v5 wc => ∃ (kq : Nat) (x5_5 : Int), v5 = .int .i64 x5_5 ∧ Aside0 (spoolref08_Count.j2 kq l0 x3_1 x4_1 x5_5 = some r) ∧ Aside0 (kq ≤ kj2) ∧ Drawn0 w wc)
            case first =>
              have H := HC6.out
              clear HC6
              by_cases c7 : x28_2 = true
              · subst c7
                have H1 : (spoolref08_Count.j2 kj2 l0 x3_1 x4_1 0) = some r := by rw [if_pos rfl] at H; exact H
                clear H
                have H := H1
                clear H1
                have H' := Aside0.mk H
                clear H
                go_wp2
                go_meet
                case rel => exact ⟨_, (0), (by first | rfl | (simp; done) | (simp [*]; done)), H', ⟨by have := HK1.out; have := HJ2.out; first | omega | exact Nat.le_refl _⟩, by repeat (first | exact Drawn0.refl _ | apply Drawn0.step)⟩
              · replace c7 := Bool.eq_false_iff.mpr c7
                subst c7
                have H1 : (spoolref08_Count.j2 kj2 l0 x3_1 x4_1 1) = some r := by rw [if_neg (show ¬ (false = true) by decide)] at H; exact H
                clear H
                have H := H1
                clear H1
                have H' := Aside0.mk H
                clear H
                go_wp2
                go_meet
                case rel => exact ⟨_, (1), (by first | rfl | (simp; done) | (simp [*]; done)), H', ⟨by have := HK1.out; have := HJ2.out; first | omega | exact Nat.le_refl _⟩, by repeat (first | exact Drawn0.refl _ | apply Drawn0.step)⟩
            case rest =>
              clear HC6
              try clear c1
              try clear c2
              try clear c2b0
              try clear p2
              try clear q2
              try clear hx2
              try clear c4
              try clear c4b0
              try clear c5
              try clear c5b0
              try clear c5b1
              try clear c5b2
              try clear c7
              try clear hx246_0
              try clear hx247_0
              try clear p2
              try clear p246
              try clear p247
              try clear q2
              try clear q246
              try clear q247
              obtain ⟨kq, x5_5, rfl, HA, HJ5, ⟨mc5, rfl⟩⟩ := hcut
              cases kq with
              | zero => exact absurd HA.out (by simp [spoolref08_Count.j2])
              | succ kj5 =>
                have H := HA.out
                clear HA
                simp only [spoolref08_Count.j2] at H
                have H' := Aside0.mk H
                clear H
                go_wp2
                go_loopg [5, 6] kj5 (fun kq v5 v6 w' => ∃ (x5_4 : Int) (x6_4 : Int), v5 = .int .i64 x5_4 ∧ v6 = .int .i64 x6_4 ∧ Aside0 (spoolref08_Count.l1 kq l0 x3_1 x4_1 x5_4 x6_4 = some r) ∧ Aside0 (kq ≤ kj5) ∧ Drawn0 w w')
                case atStart => exact ⟨(x5_5), (0), (by first | rfl | (simp; done) | (simp [*]; done)), (by first | rfl | (simp; done) | (simp [*]; done)), H', ⟨Nat.le_refl _⟩, by repeat (first | exact Drawn0.refl _ | apply Drawn0.step)⟩
                case round =>
                  clear H'
                  try clear c1
                  try clear c2
                  try clear c2b0
                  try clear p2
                  try clear q2
                  try clear hx2
                  try clear c4
                  try clear c4b0
                  try clear c5
                  try clear c5b0
                  try clear c5b1
                  try clear c5b2
                  try clear c7
                  try clear hx246_0
                  try clear hx247_0
                  try clear p2
                  try clear p246
                  try clear p247
                  try clear q2
                  try clear q246
                  try clear q247
                  obtain ⟨x5_4, x6_4, rfl, rfl, HA, HK4, ⟨m4, rfl⟩⟩ := hrel
                  cases gk with
                  | zero => exact absurd HA.out (by simp [spoolref08_Count.l1])
                  | succ k4 =>
                    have H := HA.out
                    clear HA
                    simp only [spoolref08_Count.l1] at H
                    have HC8 := Aside0.mk H
                    clear H
                    go_upto_region 9 with (fail)
                    go_cut [39] (fun v39 wc => ∃ (kq : Nat) (x39_7 : Bool), v39 = .bool x39_7 ∧ Aside0 (spoolref08_Count.j4 kq l0 x3_1 x4_1 x5_4 x6_4 x39_7 = some r) ∧ Aside0 (kq ≤ k4) ∧ Drawn0 w wc)
                    case first =>
                      have H := HC8.out
                      clear HC8
                      by_cases c9 : 0 ≤ x4_1
                      · rw [if_pos c9] at H
                        have c9b0 : decide (0 ≤ x4_1) = true := decide_eq_true c9
                        clear c9
                        (first | rw [c9b0] | (simp only [i64_w, i32_w]; rw [c9b0]) | skip)
                        by_cases c10 : x4_1 < (l0.length : Int)
                        · rw [if_pos c10] at H
                          have c10b0 : decide (x4_1 < (l0.length : Int)) = true := decide_eq_true c10
                          clear c10
                          by_cases c11 : x6_4 < ((rd_L3 l0 x4_1).length : Int)
                          · rw [if_pos c11] at H
                            have c11b0 : decide (x6_4 < ((rd_L3 l0 x4_1).length : Int)) = true := decide_eq_true c11
                            clear c11
                            have H' := Aside0.mk H
                            clear H
                            have p248 : 0 ≤ (x4_1 : Int) := of_decide_eq_true (by first | (with_reducible assumption) | assumption)
                            have q248 : x4_1 < (l0.length : Int) := of_decide_eq_true (by first | (with_reducible assumption) | assumption)
                            obtain ⟨ad248, A248_0, c248_0, e248, hx248_0, hl248_0, hi248_0⟩ := at_L3 HR0.out x4_1 p248 q248
                            cases e248
                            have HR248_0 := Aside0.mk hi248_0
                            have HC248_0 := Aside0.mk hl248_0
                            clear hi248_0 hl248_0
                            replace p248 := eq_true p248
                            replace q248 := eq_true q248
                            go_wp2
                            go_meet
                            case rel => exact ⟨_, (decide (x6_4 < 4)), (by first | rfl | (simp; done) | (simp [*]; done)), H', ⟨by have := HK1.out; have := HJ2.out; have := HJ5.out; have := HK4.out; first | omega | exact Nat.le_refl _⟩, by repeat (first | exact Drawn0.refl _ | apply Drawn0.step)⟩
                          · rw [if_neg c11] at H
                            have c11b0 : decide (x6_4 < ((rd_L3 l0 x4_1).length : Int)) = false := decide_eq_false c11
                            clear c11
                            have H' := Aside0.mk H
                            clear H
                            have p248 : 0 ≤ (x4_1 : Int) := of_decide_eq_true (by first | (with_reducible assumption) | assumption)
                            have q248 : x4_1 < (l0.length : Int) := of_decide_eq_true (by first | (with_reducible assumption) | assumption)
                            obtain ⟨ad248, A248_0, c248_0, e248, hx248_0, hl248_0, hi248_0⟩ := at_L3 HR0.out x4_1 p248 q248
                            cases e248
                            have HR248_0 := Aside0.mk hi248_0
                            have HC248_0 := Aside0.mk hl248_0
                            clear hi248_0 hl248_0
                            replace p248 := eq_true p248
                            replace q248 := eq_true q248
                            go_wp2
                            go_meet
                            case rel => exact ⟨_, (false), (by first | rfl | (simp; done) | (simp [*]; done)), H', ⟨by have := HK1.out; have := HJ2.out; have := HJ5.out; have := HK4.out; first | omega | exact Nat.le_refl _⟩, by repeat (first | exact Drawn0.refl _ | apply Drawn0.step)⟩
                        · rw [if_neg c10] at H
                          exact absurd H (by simp)
                      · rw [if_neg c9] at H
                        exact absurd H (by simp)
                    case rest =>
                      clear HC8
                      try clear c1
                      try clear c2
                      try clear c2b0
                      try clear p2
                      try clear q2
                      try clear hx2
                      try clear c4
                      try clear c4b0
                      try clear c5
                      try clear c5b0
                      try clear c5b1
                      try clear c5b2
                      try clear c7
                      try clear c9
                      try clear c9b0
                      try clear c10
                      try clear c10b0
                      try clear c11
                      try clear c11b0
                      try clear hx246_0
                      try clear hx247_0
                      try clear hx248_0
                      try clear p2
                      try clear p246
                      try clear p247
                      try clear p248
                      try clear q2
                      try clear q246
                      try clear q247
                      try clear q248
                      obtain ⟨kq, x39_7, rfl, HA, HJ7, ⟨mc7, rfl⟩⟩ := hcut
                      cases kq with
                      | zero => exact absurd HA.out (by simp [spoolref08_Count.j4])
                      | succ kj7 =>
                        have H := HA.out
                        clear HA
                        simp only [spoolref08_Count.j4] at H
                        by_cases c12 : x39_7 = true
                        · subst c12
                          have H1 : (spoolref08_Count.l2 kj7 l0 x3_1 x4_1 x5_4 x6_4 0 0) = some r := by rw [if_pos rfl] at H; exact H
                          clear H
                          have H := H1
                          clear H1
                          have H' := Aside0.mk H
                          clear H
                          go_wp2
                          go_loopg [7, 8] kj7 (fun kq v7 v8 w' => ∃ (x7_6 : Int) (x8_6 : Int), v7 = .int .i64 x7_6 ∧ v8 = .int .i64 x8_6 ∧ Aside0 (spoolref08_Count.l2 kq l0 x3_1 x4_1 x5_4 x6_4 x7_6 x8_6 = some r) ∧ Aside0 (kq ≤ kj7) ∧ Drawn0 w w')
                          case atStart => exact ⟨(0), (0), (by first | rfl | (simp; done) | (simp [*]; done)), (by first | rfl | (simp; done) | (simp [*]; done)), H', ⟨Nat.le_refl _⟩, by repeat (first | exact Drawn0.refl _ | apply Drawn0.step)⟩
                          case round =>
                            clear H'
                            try clear c1
                            try clear c2
                            try clear c2b0
                            try clear p2
                            try clear q2
                            try clear hx2
                            try clear c4
                            try clear c4b0
                            try clear c5
                            try clear c5b0
                            try clear c5b1
                            try clear c5b2
                            try clear c7
                            try clear c9
                            try clear c9b0
                            try clear c10
                            try clear c10b0
                            try clear c11
                            try clear c11b0
                            try clear c12
                            try clear hx246_0
                            try clear hx247_0
                            try clear hx248_0
                            try clear p2
                            try clear p246
                            try clear p247
                            try clear p248
                            try clear q2
                            try clear q246
                            try clear q247
                            try clear q248
                            obtain ⟨x7_6, x8_6, rfl, rfl, HA, HK6, ⟨m6, rfl⟩⟩ := hrel
                            cases gk with
                            | zero => exact absurd HA.out (by simp [spoolref08_Count.l2])
                            | succ k6 =>
                              have H := HA.out
                              clear HA
                              simp only [spoolref08_Count.l2] at H
                              by_cases c13 : x8_6 < 256
                              · rw [if_pos c13] at H
                                have c13b0 : decide (x8_6 < 256) = true := decide_eq_true c13
                                clear c13
                                by_cases c14 : 0 ≤ x4_1
                                · rw [if_pos c14] at H
                                  have c14b0 : decide (0 ≤ x4_1) = true := decide_eq_true c14
                                  clear c14
                                  by_cases c15 : x4_1 < (l0.length : Int)
                                  · rw [if_pos c15] at H
                                    have c15b0 : decide (x4_1 < (l0.length : Int)) = true := decide_eq_true c15
                                    clear c15
                                    by_cases c16 : 0 ≤ x6_4
                                    · rw [if_pos c16] at H
                                      have c16b0 : decide (0 ≤ x6_4) = true := decide_eq_true c16
                                      clear c16
                                      by_cases c17 : x6_4 < ((rd_L3 l0 x4_1).length : Int)
                                      · rw [if_pos c17] at H
                                        have c17b0 : decide (x6_4 < ((rd_L3 l0 x4_1).length : Int)) = true := decide_eq_true c17
                                        clear c17
                                        by_cases c18 : x8_6 ≥ ((rd_T35 (rd_L3 l0 x4_1) x6_4).f0)
                                        · rw [if_pos c18] at H
                                          have c18b0 : decide (((rd_T35 (rd_L3 l0 x4_1) x6_4).f0) ≤ x8_6) = true := decide_eq_true c18
                                          clear c18
                                          by_cases c19 : x8_6 ≤ ((rd_T35 (rd_L3 l0 x4_1) x6_4).f1)
                                          · rw [if_pos c19] at H
                                            have c19b0 : decide (x8_6 ≤ ((rd_T35 (rd_L3 l0 x4_1) x6_4).f1)) = true := decide_eq_true c19
                                            clear c19
                                            have H' := Aside0.mk H
                                            clear H
                                            have p249 : 0 ≤ (x4_1 : Int) := of_decide_eq_true (by first | (with_reducible assumption) | assumption)
                                            have q249 : x4_1 < (l0.length : Int) := of_decide_eq_true (by first | (with_reducible assumption) | assumption)
                                            obtain ⟨ad249, A249_0, c249_0, e249, hx249_0, hl249_0, hi249_0⟩ := at_L3 HR0.out x4_1 p249 q249
                                            cases e249
                                            have HR249_0 := Aside0.mk hi249_0
                                            have HC249_0 := Aside0.mk hl249_0
                                            clear hi249_0 hl249_0
                                            replace p249 := eq_true p249
                                            replace q249 := eq_true q249
                                            have p250 : 0 ≤ (x6_4 : Int) := of_decide_eq_true (by first | (with_reducible assumption) | assumption)
                                            have q250 : x6_4 < ((rd_L3 l0 x4_1).length : Int) := of_decide_eq_true (by first | (with_reducible assumption) | assumption)
                                            obtain ⟨ad250, e250, hx250_0, hx250_1⟩ := at_T35 HR249_0.out x6_4 p250 q250
                                            cases e250
                                            replace p250 := eq_true p250
                                            replace q250 := eq_true q250
                                            have p251 : 0 ≤ (x4_1 : Int) := of_decide_eq_true (by first | (with_reducible assumption) | assumption)
                                            have q251 : x4_1 < (l0.length : Int) := of_decide_eq_true (by first | (with_reducible assumption) | assumption)
                                            obtain ⟨ad251, A251_0, c251_0, e251, hx251_0, hl251_0, hi251_0⟩ := at_L3 HR0.out x4_1 p251 q251
                                            obtain rfl : ad249 = ad251 := (by injection e251)
                                            have HR251_0 := Aside0.mk hi251_0
                                            have HC251_0 := Aside0.mk hl251_0
                                            clear hi251_0 hl251_0
                                            replace p251 := eq_true p251
                                            replace q251 := eq_true q251
                                            have ea_ := Option.some.inj (hx249_0.symm.trans hx251_0)
                                            injection ea_ with ea_ en_ ec_
                                            subst ea_
                                            subst ec_
                                            clear en_
                                            have p252 : 0 ≤ (x6_4 : Int) := of_decide_eq_true (by first | (with_reducible assumption) | assumption)
                                            have q252 : x6_4 < ((rd_L3 l0 x4_1).length : Int) := of_decide_eq_true (by first | (with_reducible assumption) | assumption)
                                            obtain ⟨ad252, e252, hx252_0, hx252_1⟩ := at_T35 HR251_0.out x6_4 p252 q252
                                            cases e252
                                            replace p252 := eq_true p252
                                            replace q252 := eq_true q252
                                            go_wp2
                                            go_roundg k6
                                            case measure => have := HK1.out; have := HJ2.out; have := HJ5.out; have := HK4.out; have := HJ7.out; have := HK6.out; omega
                                            case rel => exact ⟨(wrap64 (x7_6 + 1)), (wrap64 (x8_6 + 1)), (by first | rfl | (simp; done) | (simp [*]; done)), (by first | rfl | (simp; done) | (simp [*]; done)), H', ⟨by have := HK1.out; have := HJ2.out; have := HJ5.out; have := HK4.out; have := HJ7.out; have := HK6.out; omega⟩, by repeat (first | exact Drawn0.refl _ | apply Drawn0.step)⟩
                                          · rw [if_neg c19] at H
                                            have c19b0 : decide (x8_6 ≤ ((rd_T35 (rd_L3 l0 x4_1) x6_4).f1)) = false := decide_eq_false c19
                                            clear c19
                                            have H' := Aside0.mk H
                                            clear H
                                            have p249 : 0 ≤ (x4_1 : Int) := of_decide_eq_true (by first | (with_reducible assumption) | assumption)
                                            have q249 : x4_1 < (l0.length : Int) := of_decide_eq_true (by first | (with_reducible assumption) | assumption)
                                            obtain ⟨ad249, A249_0, c249_0, e249, hx249_0, hl249_0, hi249_0⟩ := at_L3 HR0.out x4_1 p249 q249
                                            cases e249
                                            have HR249_0 := Aside0.mk hi249_0
                                            have HC249_0 := Aside0.mk hl249_0
                                            clear hi249_0 hl249_0
                                            replace p249 := eq_true p249
                                            replace q249 := eq_true q249
                                            have p250 : 0 ≤ (x6_4 : Int) := of_decide_eq_true (by first | (with_reducible assumption) | assumption)
                                            have q250 : x6_4 < ((rd_L3 l0 x4_1).length : Int) := of_decide_eq_true (by first | (with_reducible assumption) | assumption)
                                            obtain ⟨ad250, e250, hx250_0, hx250_1⟩ := at_T35 HR249_0.out x6_4 p250 q250
                                            cases e250
                                            replace p250 := eq_true p250
                                            replace q250 := eq_true q250
                                            have p251 : 0 ≤ (x4_1 : Int) := of_decide_eq_true (by first | (with_reducible assumption) | assumption)
                                            have q251 : x4_1 < (l0.length : Int) := of_decide_eq_true (by first | (with_reducible assumption) | assumption)
                                            obtain ⟨ad251, A251_0, c251_0, e251, hx251_0, hl251_0, hi251_0⟩ := at_L3 HR0.out x4_1 p251 q251
                                            obtain rfl : ad249 = ad251 := (by injection e251)
                                            have HR251_0 := Aside0.mk hi251_0
                                            have HC251_0 := Aside0.mk hl251_0
                                            clear hi251_0 hl251_0
                                            replace p251 := eq_true p251
                                            replace q251 := eq_true q251
                                            have ea_ := Option.some.inj (hx249_0.symm.trans hx251_0)
                                            injection ea_ with ea_ en_ ec_
                                            subst ea_
                                            subst ec_
                                            clear en_
                                            have p252 : 0 ≤ (x6_4 : Int) := of_decide_eq_true (by first | (with_reducible assumption) | assumption)
                                            have q252 : x6_4 < ((rd_L3 l0 x4_1).length : Int) := of_decide_eq_true (by first | (with_reducible assumption) | assumption)
                                            obtain ⟨ad252, e252, hx252_0, hx252_1⟩ := at_T35 HR251_0.out x6_4 p252 q252
                                            cases e252
                                            replace p252 := eq_true p252
                                            replace q252 := eq_true q252
                                            go_wp2
                                            go_roundg k6
                                            case measure => have := HK1.out; have := HJ2.out; have := HJ5.out; have := HK4.out; have := HJ7.out; have := HK6.out; omega
                                            case rel => exact ⟨(x7_6), (wrap64 (x8_6 + 1)), (by first | rfl | (simp; done) | (simp [*]; done)), (by first | rfl | (simp; done) | (simp [*]; done)), H', ⟨by have := HK1.out; have := HJ2.out; have := HJ5.out; have := HK4.out; have := HJ7.out; have := HK6.out; omega⟩, by repeat (first | exact Drawn0.refl _ | apply Drawn0.step)⟩
                                        · rw [if_neg c18] at H
                                          have c18b0 : decide (((rd_T35 (rd_L3 l0 x4_1) x6_4).f0) ≤ x8_6) = false := decide_eq_false c18
                                          clear c18
                                          have H' := Aside0.mk H
                                          clear H
                                          have p249 : 0 ≤ (x4_1 : Int) := of_decide_eq_true (by first | (with_reducible assumption) | assumption)
                                          have q249 : x4_1 < (l0.length : Int) := of_decide_eq_true (by first | (with_reducible assumption) | assumption)
                                          obtain ⟨ad249, A249_0, c249_0, e249, hx249_0, hl249_0, hi249_0⟩ := at_L3 HR0.out x4_1 p249 q249
                                          cases e249
                                          have HR249_0 := Aside0.mk hi249_0
                                          have HC249_0 := Aside0.mk hl249_0
                                          clear hi249_0 hl249_0
                                          replace p249 := eq_true p249
                                          replace q249 := eq_true q249
                                          have p250 : 0 ≤ (x6_4 : Int) := of_decide_eq_true (by first | (with_reducible assumption) | assumption)
                                          have q250 : x6_4 < ((rd_L3 l0 x4_1).length : Int) := of_decide_eq_true (by first | (with_reducible assumption) | assumption)
                                          obtain ⟨ad250, e250, hx250_0, hx250_1⟩ := at_T35 HR249_0.out x6_4 p250 q250
                                          cases e250
                                          replace p250 := eq_true p250
                                          replace q250 := eq_true q250
                                          go_wp2
                                          go_roundg k6
                                          case measure => have := HK1.out; have := HJ2.out; have := HJ5.out; have := HK4.out; have := HJ7.out; have := HK6.out; omega
                                          case rel => exact ⟨(x7_6), (wrap64 (x8_6 + 1)), (by first | rfl | (simp; done) | (simp [*]; done)), (by first | rfl | (simp; done) | (simp [*]; done)), H', ⟨by have := HK1.out; have := HJ2.out; have := HJ5.out; have := HK4.out; have := HJ7.out; have := HK6.out; omega⟩, by repeat (first | exact Drawn0.refl _ | apply Drawn0.step)⟩
                                      · rw [if_neg c17] at H
                                        exact absurd H (by simp)
                                    · rw [if_neg c16] at H
                                      exact absurd H (by simp)
                                  · rw [if_neg c15] at H
                                    exact absurd H (by simp)
                                · rw [if_neg c14] at H
                                  exact absurd H (by simp)
                              · rw [if_neg c13] at H
                                have c13b0 : decide (x8_6 < 256) = false := decide_eq_false c13
                                clear c13
                                have H' := Aside0.mk H
                                clear H
                                go_wp2
                                go_roundg k6
                                case measure => have := HK1.out; have := HJ2.out; have := HJ5.out; have := HK4.out; have := HJ7.out; have := HK6.out; omega
                                case rel => exact ⟨(wrap64 (x5_4 * x7_6)), (wrap64 (x6_4 + 1)), (by first | rfl | (simp; done) | (simp [*]; done)), (by first | rfl | (simp; done) | (simp [*]; done)), H', ⟨by have := HK1.out; have := HJ2.out; have := HJ5.out; have := HK4.out; have := HJ7.out; have := HK6.out; omega⟩, by repeat (first | exact Drawn0.refl _ | apply Drawn0.step)⟩
                        · replace c12 := Bool.eq_false_iff.mpr c12
                          subst c12
                          have H1 : (spoolref08_Count.l0 kj7 l0 (wrap64 (x3_1 + x5_4)) (wrap64 (x4_1 + 1))) = some r := by rw [if_neg (show ¬ (false = true) by decide)] at H; exact H
                          clear H
                          have H := H1
                          clear H1
                          have H' := Aside0.mk H
                          clear H
                          go_wp2
                          go_roundg kj7
                          case measure => have := HK1.out; have := HJ2.out; have := HJ5.out; have := HK4.out; have := HJ7.out; omega
                          case rel => exact ⟨(wrap64 (x3_1 + x5_4)), (wrap64 (x4_1 + 1)), (by first | rfl | (simp; done) | (simp [*]; done)), (by first | rfl | (simp; done) | (simp [*]; done)), H', ⟨by have := HK1.out; have := HJ2.out; have := HJ5.out; have := HK4.out; have := HJ7.out; omega⟩, by repeat (first | exact Drawn0.refl _ | apply Drawn0.step)⟩
      · rw [if_neg c2] at H
        have c2b0 : decide (x4_1 < (l0.length : Int)) = false := decide_eq_false c2
        clear c2
        obtain rfl := Option.some.inj H
        go_wp2
        go_ret
        exact ⟨by first | rfl | (simp; done) | (simp [*]; done), by repeat (first | exact Drawn0.refl _ | apply Drawn0.step)⟩

end Go.Proofs.YtedoopnjhpbjfaaDoor.PB

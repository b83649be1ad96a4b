-- WRITTEN BY A PROGRAM OF THIS SESSION (patchprint.py over the kit's print)
import Derived.Test.YtifcpamliidabaaDoorPSx0
namespace Go.Proofs.YtifcpamliidabaaDoor.PS
open Go.RowKit Go.Proofs.YtifcpamliidabaaDoorW.PrintWords Go.Proofs.YtifcpamliidabaaDoorW.PrintLast Go.Proofs.YtifcpamliidabaaDoorW.PrintMore
attribute [local go_sem] max2_int min2_int max_two min_two max_three min_three max_four min_four   -- for this text's walks alone
set_option linter.unusedVariables false
set_option linter.unusedSimpArgs false

/-! ### spoolref48_Quote: function 16 -/
mutual
def spoolref48_Quote.l0 : Nat → ByteArray → ByteArray → ByteArray → Int → Option (ByteArray)
  | 0, _, _, _, _ => none
  | k + 1, x0, x3, x4, x5 => if x5 < (x0.size : Int) then (if 0 ≤ x5 then (if (bt x0 x5) = 34 then (spoolref48_Quote.j1 k x0 x3 x4 x5 (bt x0 x5) true) else (spoolref48_Quote.j1 k x0 x3 x4 x5 (bt x0 x5) ((bt x0 x5) == 92))) else (none)) else (if x4.size + 1 ≤ 9223372036854775807 then (some (x4 ++ (⟨#[34]⟩ : ByteArray))) else (none))
def spoolref48_Quote.j1 : Nat → ByteArray → ByteArray → ByteArray → Int → Int → Bool → Option (ByteArray)
  | 0, _, _, _, _, _, _ => none
  | k + 1, x0, x3, x4, x5, x6, x21 => if x21 = true then (if x4.size + 1 ≤ 9223372036854775807 then (if 0 ≤ x5 then (if x5 ≤ (wrap64 (x5 + 1)) then (if (wrap64 (x5 + 1)) ≤ (x0.size : Int) then (if (x4 ++ (⟨#[92]⟩ : ByteArray)).size + (x0.extract (x5 : Int).toNat ((wrap64 (x5 + 1)) : Int).toNat).size ≤ 9223372036854775807 then (spoolref48_Quote.l0 k x0 x3 ((x4 ++ (⟨#[92]⟩ : ByteArray)) ++ (x0.extract (x5 : Int).toNat ((wrap64 (x5 + 1)) : Int).toNat)) (wrap64 (x5 + 1))) else (none)) else (none)) else (none)) else (none)) else (none)) else (if x6 ≥ 32 then (if x6 ≤ 126 then (if 0 ≤ x5 then (if x5 ≤ (wrap64 (x5 + 1)) then (if (wrap64 (x5 + 1)) ≤ (x0.size : Int) then (if x4.size + (x0.extract (x5 : Int).toNat ((wrap64 (x5 + 1)) : Int).toNat).size ≤ 9223372036854775807 then (spoolref48_Quote.l0 k x0 x3 (x4 ++ (x0.extract (x5 : Int).toNat ((wrap64 (x5 + 1)) : Int).toNat)) (wrap64 (x5 + 1))) else (none)) else (none)) else (none)) else (none)) else (if x4.size + 2 ≤ 9223372036854775807 then (if 0 ≤ ((Int.tdiv x6 16) % 256) then (if ((Int.tdiv x6 16) % 256) ≤ ((((Int.tdiv x6 16) % 256) + 1) % 256) then (if ((((Int.tdiv x6 16) % 256) + 1) % 256) ≤ (x3.size : Int) then (if (x4 ++ (⟨#[92, 120]⟩ : ByteArray)).size + (x3.extract (((Int.tdiv x6 16) % 256) : Int).toNat (((((Int.tdiv x6 16) % 256) + 1) % 256) : Int).toNat).size ≤ 9223372036854775807 then (if 0 ≤ (Int.tmod x6 16) then (if (Int.tmod x6 16) ≤ (((Int.tmod x6 16) + 1) % 256) then (if (((Int.tmod x6 16) + 1) % 256) ≤ (x3.size : Int) then (if ((x4 ++ (⟨#[92, 120]⟩ : ByteArray)) ++ (x3.extract (((Int.tdiv x6 16) % 256) : Int).toNat (((((Int.tdiv x6 16) % 256) + 1) % 256) : Int).toNat)).size + (x3.extract ((Int.tmod x6 16) : Int).toNat ((((Int.tmod x6 16) + 1) % 256) : Int).toNat).size ≤ 9223372036854775807 then (spoolref48_Quote.l0 k x0 x3 (((x4 ++ (⟨#[92, 120]⟩ : ByteArray)) ++ (x3.extract (((Int.tdiv x6 16) % 256) : Int).toNat (((((Int.tdiv x6 16) % 256) + 1) % 256) : Int).toNat)) ++ (x3.extract ((Int.tmod x6 16) : Int).toNat ((((Int.tmod x6 16) + 1) % 256) : Int).toNat)) (wrap64 (x5 + 1))) else (none)) else (none)) else (none)) else (none)) else (none)) else (none)) else (none)) else (none)) else (none))) else (if x4.size + 2 ≤ 9223372036854775807 then (if 0 ≤ ((Int.tdiv x6 16) % 256) then (if ((Int.tdiv x6 16) % 256) ≤ ((((Int.tdiv x6 16) % 256) + 1) % 256) then (if ((((Int.tdiv x6 16) % 256) + 1) % 256) ≤ (x3.size : Int) then (if (x4 ++ (⟨#[92, 120]⟩ : ByteArray)).size + (x3.extract (((Int.tdiv x6 16) % 256) : Int).toNat (((((Int.tdiv x6 16) % 256) + 1) % 256) : Int).toNat).size ≤ 9223372036854775807 then (if 0 ≤ (Int.tmod x6 16) then (if (Int.tmod x6 16) ≤ (((Int.tmod x6 16) + 1) % 256) then (if (((Int.tmod x6 16) + 1) % 256) ≤ (x3.size : Int) then (if ((x4 ++ (⟨#[92, 120]⟩ : ByteArray)) ++ (x3.extract (((Int.tdiv x6 16) % 256) : Int).toNat (((((Int.tdiv x6 16) % 256) + 1) % 256) : Int).toNat)).size + (x3.extract ((Int.tmod x6 16) : Int).toNat ((((Int.tmod x6 16) + 1) % 256) : Int).toNat).size ≤ 9223372036854775807 then (spoolref48_Quote.l0 k x0 x3 (((x4 ++ (⟨#[92, 120]⟩ : ByteArray)) ++ (x3.extract (((Int.tdiv x6 16) % 256) : Int).toNat (((((Int.tdiv x6 16) % 256) + 1) % 256) : Int).toNat)) ++ (x3.extract ((Int.tmod x6 16) : Int).toNat ((((Int.tmod x6 16) + 1) % 256) : Int).toNat)) (wrap64 (x5 + 1))) else (none)) else (none)) else (none)) else (none)) else (none)) else (none)) else (none)) else (none)) else (none)))
end
def spoolref48_Quote.f (k : Nat) (a0 : ByteArray) : Option (ByteArray) := spoolref48_Quote.l0 k a0 (⟨#[48, 49, 50, 51, 52, 53, 54, 55, 56, 57, 97, 98, 99, 100, 101, 102]⟩ : ByteArray) (⟨#[34]⟩ : ByteArray) 0
set_option maxHeartbeats 8000000 in
set_option maxRecDepth 100000 in
theorem spoolref48_Quote.calls (k : Nat) (a0 : ByteArray) (r : ByteArray) (w : World) (h : spoolref48_Quote.f k a0 = some r) :
    Calls Tryd.prog 16 #[.string a0] w fun e w' => e = .returned (.string r) ∧ Drawn0 w w' := by
  have H : (spoolref48_Quote.l0 k a0 (⟨#[48, 49, 50, 51, 52, 53, 54, 55, 56, 57, 97, 98, 99, 100, 101, 102]⟩ : ByteArray) (⟨#[34]⟩ : ByteArray) 0) = some r := h
  clear h
  have H' := Aside0.mk H
  clear H
  go_enter Tryd.func16, Tryd.ntmps16
  go_wp2
  repeat (go_quiet (fail); try go_wp2)
  go_loopg [4, 5] k (fun kq v4 v5 w' => ∃ (x4_1 : ByteArray) (x5_1 : Int), v4 = .string x4_1 ∧ v5 = .int .i64 x5_1 ∧ Aside0 (spoolref48_Quote.l0 kq a0 (⟨#[48, 49, 50, 51, 52, 53, 54, 55, 56, 57, 97, 98, 99, 100, 101, 102]⟩ : ByteArray) x4_1 x5_1 = some r) ∧ Aside0 (kq ≤ k) ∧ Drawn0 w w')
  case atStart => exact ⟨((⟨#[34]⟩ : ByteArray)), (0), (by first | rfl | (simp; done) | (simp [*]; done)), (by first | rfl | (simp; done) | (simp [*]; done)), H', ⟨Nat.le_refl _⟩, by repeat (first | exact Drawn0.refl _ | apply Drawn0.step)⟩
  case round =>
    clear H'
    try clear c1
    obtain ⟨x4_1, x5_1, rfl, rfl, HA, HK1, ⟨m1, rfl⟩⟩ := hrel
    cases gk with
    | zero => exact absurd HA.out (by simp [spoolref48_Quote.l0])
    | succ k1 =>
      have H := HA.out
      clear HA
      simp only [spoolref48_Quote.l0] at H
      by_cases c2 : x5_1 < (a0.size : Int)
      · rw [if_pos c2] at H
        have c2b0 : decide (x5_1 < (a0.size : Int)) = true := decide_eq_true c2
        clear c2
        by_cases c3 : 0 ≤ x5_1
        · rw [if_pos c3] at H
          have c3b0 : decide (0 ≤ x5_1) = true := decide_eq_true c3
          clear c3
          have HC5 := Aside0.mk H
          clear H
          have p4 : 0 ≤ (x5_1 : Int) := of_decide_eq_true (by first | (with_reducible assumption) | assumption)
          have q4 : x5_1 < (a0.size : Int) := of_decide_eq_true (by first | (with_reducible assumption) | assumption)
          have hx4 := bt_at a0 x5_1
          replace p4 := eq_true p4
          replace q4 := eq_true q4
          go_upto_region 7 with (fail)
          repeat (go_quiet (fail); go_upto_region 7 with (fail))
          go_cut [21] (fun v21 wc => ∃ (kq : Nat) (x21_4 : Bool), v21 = .bool x21_4 ∧ Aside0 (spoolref48_Quote.j1 kq a0 (⟨#[48, 49, 50, 51, 52, 53, 54, 55, 56, 57, 97, 98, 99, 100, 101, 102]⟩ : ByteArray) x4_1 x5_1 (bt a0 x5_1) x21_4 = some r) ∧ Aside0 (kq ≤ k1) ∧ Drawn0 w wc)
          case first =>
            have H := HC5.out
            clear HC5
            by_cases c6 : (bt a0 x5_1) = 34
            · rw [if_pos c6] at H
              have c6b0 : ((bt a0 x5_1) == 34) = true := beq_iff_eq.mpr c6
              have c6b1 : ((bt a0 x5_1) != 34) = false := bne_eq_false_iff_eq.mpr c6
              clear c6
              (first | rw [c6b0] | (simp only [i64_w, i32_w]; rw [c6b0]) | skip)
              have H' := Aside0.mk H
              clear H
              go_wp2
              repeat (go_quiet (fail); try go_wp2)
              go_meet
              case rel => exact ⟨_, (true), (by first | rfl | (simp; done) | (simp [*]; done)), H', ⟨by have := HK1.out; first | omega | exact Nat.le_refl _⟩, by repeat (first | exact Drawn0.refl _ | apply Drawn0.step)⟩
            · rw [if_neg c6] at H
              have c6b0 : ((bt a0 x5_1) == 34) = false := beq_eq_false_iff_ne.mpr c6
              have c6b1 : ((bt a0 x5_1) != 34) = true := bne_iff_ne.mpr c6
              (first | rw [c6b0] | (simp only [i64_w, i32_w]; rw [c6b0]) | skip)
              have H' := Aside0.mk H
              clear H
              go_wp2
              repeat (go_quiet (fail); try go_wp2)
              go_meet
              case rel => exact ⟨_, (((bt a0 x5_1) == 92)), (by first | rfl | (simp; done) | (simp [*]; done)), H', ⟨by have := HK1.out; first | omega | exact Nat.le_refl _⟩, by repeat (first | exact Drawn0.refl _ | apply Drawn0.step)⟩
          case rest =>
            clear HC5
            try clear c1
            try clear c2
            try clear c2b0
            try clear p2
            try clear c3
            try clear c3b0
            try clear p4
            try clear q4
            try clear hx4
            try clear c6
            try clear c6b0
            try clear c6b1
            try clear p4
            try clear q4
            obtain ⟨kq, x21_4, rfl, HA, HJ4, ⟨mc4, rfl⟩⟩ := hcut
            cases kq with
            | zero => exact absurd HA.out (by simp [spoolref48_Quote.j1])
            | succ kj4 =>
              have H := HA.out
              clear HA
              simp only [spoolref48_Quote.j1] at H
              by_cases c7 : x21_4 = true
              · subst c7
                have H1 : (if x4_1.size + 1 ≤ 9223372036854775807 then (if 0 ≤ x5_1 then (if x5_1 ≤ (wrap64 (x5_1 + 1)) then (if (wrap64 (x5_1 + 1)) ≤ (a0.size : Int) then (if (x4_1 ++ (⟨#[92]⟩ : ByteArray)).size + (a0.extract (x5_1 : Int).toNat ((wrap64 (x5_1 + 1)) : Int).toNat).size ≤ 9223372036854775807 then (spoolref48_Quote.l0 kj4 a0 (⟨#[48, 49, 50, 51, 52, 53, 54, 55, 56, 57, 97, 98, 99, 100, 101, 102]⟩ : ByteArray) ((x4_1 ++ (⟨#[92]⟩ : ByteArray)) ++ (a0.extract (x5_1 : Int).toNat ((wrap64 (x5_1 + 1)) : Int).toNat)) (wrap64 (x5_1 + 1))) else (none)) else (none)) else (none)) else (none)) else (none)) = some r := by rw [if_pos rfl] at H; exact H
                clear H
                have H := H1
                clear H1
                by_cases c8 : x4_1.size + 1 ≤ 9223372036854775807
                · rw [if_pos c8] at H
                  have c8b0 := eq_true c8
                  have c8b1 : decide (x4_1.size + 1 ≤ 9223372036854775807) = true := decide_eq_true c8
                  try have c8b2 : (9223372036854775807 < x4_1.size + 1) = False := eq_false (Nat.not_lt.2 c8)
                  by_cases c9 : 0 ≤ x5_1
                  · rw [if_pos c9] at H
                    have c9b0 := eq_true c9
                    have c9b1 : decide (0 ≤ x5_1) = true := decide_eq_true c9
                    clear c9
                    by_cases c10 : x5_1 ≤ (wrap64 (x5_1 + 1))
                    · rw [if_pos c10] at H
                      have c10b0 := eq_true c10
                      have c10b1 : decide (x5_1 ≤ (wrap64 (x5_1 + 1))) = true := decide_eq_true c10
                      by_cases c11 : (wrap64 (x5_1 + 1)) ≤ (a0.size : Int)
                      · rw [if_pos c11] at H
                        have c11b0 := eq_true c11
                        have c11b1 : decide ((wrap64 (x5_1 + 1)) ≤ (a0.size : Int)) = true := decide_eq_true c11
                        by_cases c12 : (x4_1 ++ (⟨#[92]⟩ : ByteArray)).size + (a0.extract (x5_1 : Int).toNat ((wrap64 (x5_1 + 1)) : Int).toNat).size ≤ 9223372036854775807
                        · rw [if_pos c12] at H
                          have c12b0 := eq_true c12
                          have c12b1 : decide ((x4_1 ++ (⟨#[92]⟩ : ByteArray)).size + (a0.extract (x5_1 : Int).toNat ((wrap64 (x5_1 + 1)) : Int).toNat).size ≤ 9223372036854775807) = true := decide_eq_true c12
                          try have c12b1s : decide ((x4_1.size + 1) + (a0.extract (x5_1 : Int).toNat ((wrap64 (x5_1 + 1)) : Int).toNat).size ≤ 9223372036854775807) = true := (by have h_ := c12b1; simp only [ByteArray.size_append] at h_; exact h_)
                          try have c12b2 : (9223372036854775807 < (x4_1 ++ (⟨#[92]⟩ : ByteArray)).size + (a0.extract (x5_1 : Int).toNat ((wrap64 (x5_1 + 1)) : Int).toNat).size) = False := eq_false (Nat.not_lt.2 c12)
                          try have c12b2s : (9223372036854775807 < (x4_1.size + 1) + (a0.extract (x5_1 : Int).toNat ((wrap64 (x5_1 + 1)) : Int).toNat).size) = False := (by have h_ := c12b2; simp only [ByteArray.size_append] at h_; exact h_)
                          have H' := Aside0.mk H
                          clear H
                          go_wp2
                          repeat (go_quiet (fail); try go_wp2)
                          go_roundg kj4
                          case measure => have := HK1.out; have := HJ4.out; omega
                          case rel => exact ⟨((x4_1 ++ (⟨#[92]⟩ : ByteArray)) ++ (a0.extract (x5_1 : Int).toNat ((wrap64 (x5_1 + 1)) : Int).toNat)), (wrap64 (x5_1 + 1)), (by first | rfl | (simp; done) | (simp [*]; done)), (by first | rfl | (simp; done) | (simp [*]; done)), H', ⟨by have := HK1.out; have := HJ4.out; omega⟩, by repeat (first | exact Drawn0.refl _ | apply Drawn0.step)⟩
                        · rw [if_neg c12] at H
                          exact absurd H (by simp)
                      · rw [if_neg c11] at H
                        exact absurd H (by simp)
                    · rw [if_neg c10] at H
                      exact absurd H (by simp)
                  · rw [if_neg c9] at H
                    exact absurd H (by simp)
                · rw [if_neg c8] at H
                  exact absurd H (by simp)
              · replace c7 := Bool.eq_false_iff.mpr c7
                subst c7
                have H1 : (if (bt a0 x5_1) ≥ 32 then (if (bt a0 x5_1) ≤ 126 then (if 0 ≤ x5_1 then (if x5_1 ≤ (wrap64 (x5_1 + 1)) then (if (wrap64 (x5_1 + 1)) ≤ (a0.size : Int) then (if x4_1.size + (a0.extract (x5_1 : Int).toNat ((wrap64 (x5_1 + 1)) : Int).toNat).size ≤ 9223372036854775807 then (spoolref48_Quote.l0 kj4 a0 (⟨#[48, 49, 50, 51, 52, 53, 54, 55, 56, 57, 97, 98, 99, 100, 101, 102]⟩ : ByteArray) (x4_1 ++ (a0.extract (x5_1 : Int).toNat ((wrap64 (x5_1 + 1)) : Int).toNat)) (wrap64 (x5_1 + 1))) else (none)) else (none)) else (none)) else (none)) else (if x4_1.size + 2 ≤ 9223372036854775807 then (if 0 ≤ ((Int.tdiv (bt a0 x5_1) 16) % 256) then (if ((Int.tdiv (bt a0 x5_1) 16) % 256) ≤ ((((Int.tdiv (bt a0 x5_1) 16) % 256) + 1) % 256) then (if ((((Int.tdiv (bt a0 x5_1) 16) % 256) + 1) % 256) ≤ ((⟨#[48, 49, 50, 51, 52, 53, 54, 55, 56, 57, 97, 98, 99, 100, 101, 102]⟩ : ByteArray).size : Int) then (if (x4_1 ++ (⟨#[92, 120]⟩ : ByteArray)).size + ((⟨#[48, 49, 50, 51, 52, 53, 54, 55, 56, 57, 97, 98, 99, 100, 101, 102]⟩ : ByteArray).extract (((Int.tdiv (bt a0 x5_1) 16) % 256) : Int).toNat (((((Int.tdiv (bt a0 x5_1) 16) % 256) + 1) % 256) : Int).toNat).size ≤ 9223372036854775807 then (if 0 ≤ (Int.tmod (bt a0 x5_1) 16) then (if (Int.tmod (bt a0 x5_1) 16) ≤ (((Int.tmod (bt a0 x5_1) 16) + 1) % 256) then (if (((Int.tmod (bt a0 x5_1) 16) + 1) % 256) ≤ ((⟨#[48, 49, 50, 51, 52, 53, 54, 55, 56, 57, 97, 98, 99, 100, 101, 102]⟩ : ByteArray).size : Int) then (if ((x4_1 ++ (⟨#[92, 120]⟩ : ByteArray)) ++ ((⟨#[48, 49, 50, 51, 52, 53, 54, 55, 56, 57, 97, 98, 99, 100, 101, 102]⟩ : ByteArray).extract (((Int.tdiv (bt a0 x5_1) 16) % 256) : Int).toNat (((((Int.tdiv (bt a0 x5_1) 16) % 256) + 1) % 256) : Int).toNat)).size + ((⟨#[48, 49, 50, 51, 52, 53, 54, 55, 56, 57, 97, 98, 99, 100, 101, 102]⟩ : ByteArray).extract ((Int.tmod (bt a0 x5_1) 16) : Int).toNat ((((Int.tmod (bt a0 x5_1) 16) + 1) % 256) : Int).toNat).size ≤ 9223372036854775807 then (spoolref48_Quote.l0 kj4 a0 (⟨#[48, 49, 50, 51, 52, 53, 54, 55, 56, 57, 97, 98, 99, 100, 101, 102]⟩ : ByteArray) (((x4_1 ++ (⟨#[92, 120]⟩ : ByteArray)) ++ ((⟨#[48, 49, 50, 51, 52, 53, 54, 55, 56, 57, 97, 98, 99, 100, 101, 102]⟩ : ByteArray).extract (((Int.tdiv (bt a0 x5_1) 16) % 256) : Int).toNat (((((Int.tdiv (bt a0 x5_1) 16) % 256) + 1) % 256) : Int).toNat)) ++ ((⟨#[48, 49, 50, 51, 52, 53, 54, 55, 56, 57, 97, 98, 99, 100, 101, 102]⟩ : ByteArray).extract ((Int.tmod (bt a0 x5_1) 16) : Int).toNat ((((Int.tmod (bt a0 x5_1) 16) + 1) % 256) : Int).toNat)) (wrap64 (x5_1 + 1))) else (none)) else (none)) else (none)) else (none)) else (none)) else (none)) else (none)) else (none)) else (none))) else (if x4_1.size + 2 ≤ 9223372036854775807 then (if 0 ≤ ((Int.tdiv (bt a0 x5_1) 16) % 256) then (if ((Int.tdiv (bt a0 x5_1) 16) % 256) ≤ ((((Int.tdiv (bt a0 x5_1) 16) % 256) + 1) % 256) then (if ((((Int.tdiv (bt a0 x5_1) 16) % 256) + 1) % 256) ≤ ((⟨#[48, 49, 50, 51, 52, 53, 54, 55, 56, 57, 97, 98, 99, 100, 101, 102]⟩ : ByteArray).size : Int) then (if (x4_1 ++ (⟨#[92, 120]⟩ : ByteArray)).size + ((⟨#[48, 49, 50, 51, 52, 53, 54, 55, 56, 57, 97, 98, 99, 100, 101, 102]⟩ : ByteArray).extract (((Int.tdiv (bt a0 x5_1) 16) % 256) : Int).toNat (((((Int.tdiv (bt a0 x5_1) 16) % 256) + 1) % 256) : Int).toNat).size ≤ 9223372036854775807 then (if 0 ≤ (Int.tmod (bt a0 x5_1) 16) then (if (Int.tmod (bt a0 x5_1) 16) ≤ (((Int.tmod (bt a0 x5_1) 16) + 1) % 256) then (if (((Int.tmod (bt a0 x5_1) 16) + 1) % 256) ≤ ((⟨#[48, 49, 50, 51, 52, 53, 54, 55, 56, 57, 97, 98, 99, 100, 101, 102]⟩ : ByteArray).size : Int) then (if ((x4_1 ++ (⟨#[92, 120]⟩ : ByteArray)) ++ ((⟨#[48, 49, 50, 51, 52, 53, 54, 55, 56, 57, 97, 98, 99, 100, 101, 102]⟩ : ByteArray).extract (((Int.tdiv (bt a0 x5_1) 16) % 256) : Int).toNat (((((Int.tdiv (bt a0 x5_1) 16) % 256) + 1) % 256) : Int).toNat)).size + ((⟨#[48, 49, 50, 51, 52, 53, 54, 55, 56, 57, 97, 98, 99, 100, 101, 102]⟩ : ByteArray).extract ((Int.tmod (bt a0 x5_1) 16) : Int).toNat ((((Int.tmod (bt a0 x5_1) 16) + 1) % 256) : Int).toNat).size ≤ 9223372036854775807 then (spoolref48_Quote.l0 kj4 a0 (⟨#[48, 49, 50, 51, 52, 53, 54, 55, 56, 57, 97, 98, 99, 100, 101, 102]⟩ : ByteArray) (((x4_1 ++ (⟨#[92, 120]⟩ : ByteArray)) ++ ((⟨#[48, 49, 50, 51, 52, 53, 54, 55, 56, 57, 97, 98, 99, 100, 101, 102]⟩ : ByteArray).extract (((Int.tdiv (bt a0 x5_1) 16) % 256) : Int).toNat (((((Int.tdiv (bt a0 x5_1) 16) % 256) + 1) % 256) : Int).toNat)) ++ ((⟨#[48, 49, 50, 51, 52, 53, 54, 55, 56, 57, 97, 98, 99, 100, 101, 102]⟩ : ByteArray).extract ((Int.tmod (bt a0 x5_1) 16) : Int).toNat ((((Int.tmod (bt a0 x5_1) 16) + 1) % 256) : Int).toNat)) (wrap64 (x5_1 + 1))) else (none)) else (none)) else (none)) else (none)) else (none)) else (none)) else (none)) else (none)) else (none))) = some r := by rw [if_neg (show ¬ (false = true) by decide)] at H; exact H
                clear H
                have H := H1
                clear H1
                by_cases c13 : (bt a0 x5_1) ≥ 32
                · rw [if_pos c13] at H
                  have c13b0 : decide (32 ≤ (bt a0 x5_1)) = true := decide_eq_true c13
                  clear c13
                  by_cases c14 : (bt a0 x5_1) ≤ 126
                  · rw [if_pos c14] at H
                    have c14b0 : decide ((bt a0 x5_1) ≤ 126) = true := decide_eq_true c14
                    clear c14
                    by_cases c15 : 0 ≤ x5_1
                    · rw [if_pos c15] at H
                      have c15b0 := eq_true c15
                      have c15b1 : decide (0 ≤ x5_1) = true := decide_eq_true c15
                      clear c15
                      by_cases c16 : x5_1 ≤ (wrap64 (x5_1 + 1))
                      · rw [if_pos c16] at H
                        have c16b0 := eq_true c16
                        have c16b1 : decide (x5_1 ≤ (wrap64 (x5_1 + 1))) = true := decide_eq_true c16
                        by_cases c17 : (wrap64 (x5_1 + 1)) ≤ (a0.size : Int)
                        · rw [if_pos c17] at H
                          have c17b0 := eq_true c17
                          have c17b1 : decide ((wrap64 (x5_1 + 1)) ≤ (a0.size : Int)) = true := decide_eq_true c17
                          by_cases c18 : x4_1.size + (a0.extract (x5_1 : Int).toNat ((wrap64 (x5_1 + 1)) : Int).toNat).size ≤ 9223372036854775807
                          · rw [if_pos c18] at H
                            have c18b0 := eq_true c18
                            have c18b1 : decide (x4_1.size + (a0.extract (x5_1 : Int).toNat ((wrap64 (x5_1 + 1)) : Int).toNat).size ≤ 9223372036854775807) = true := decide_eq_true c18
                            try have c18b2 : (9223372036854775807 < x4_1.size + (a0.extract (x5_1 : Int).toNat ((wrap64 (x5_1 + 1)) : Int).toNat).size) = False := eq_false (Nat.not_lt.2 c18)
                            have H' := Aside0.mk H
                            clear H
                            go_wp2
                            repeat (go_quiet (fail); try go_wp2)
                            go_roundg kj4
                            case measure => have := HK1.out; have := HJ4.out; omega
                            case rel => exact ⟨(x4_1 ++ (a0.extract (x5_1 : Int).toNat ((wrap64 (x5_1 + 1)) : Int).toNat)), (wrap64 (x5_1 + 1)), (by first | rfl | (simp; done) | (simp [*]; done)), (by first | rfl | (simp; done) | (simp [*]; done)), H', ⟨by have := HK1.out; have := HJ4.out; omega⟩, by repeat (first | exact Drawn0.refl _ | apply Drawn0.step)⟩
                          · rw [if_neg c18] at H
                            exact absurd H (by simp)
                        · rw [if_neg c17] at H
                          exact absurd H (by simp)
                      · rw [if_neg c16] at H
                        exact absurd H (by simp)
                    · rw [if_neg c15] at H
                      exact absurd H (by simp)
                  · rw [if_neg c14] at H
                    have c14b0 : decide ((bt a0 x5_1) ≤ 126) = false := decide_eq_false c14
                    clear c14
                    by_cases c19 : x4_1.size + 2 ≤ 9223372036854775807
                    · rw [if_pos c19] at H
                      have c19b0 := eq_true c19
                      have c19b1 : decide (x4_1.size + 2 ≤ 9223372036854775807) = true := decide_eq_true c19
                      try have c19b2 : (9223372036854775807 < x4_1.size + 2) = False := eq_false (Nat.not_lt.2 c19)
                      obtain ⟨ji20, hji20⟩ : ∃ j_ : Int, ((Int.tdiv (bt a0 x5_1) 16) % 256) = j_ := ⟨_, rfl⟩
                      replace H : (if 0 ≤ (ji20) then (if (ji20) ≤ (((ji20) + 1) % 256) then (if (((ji20) + 1) % 256) ≤ ((⟨#[48, 49, 50, 51, 52, 53, 54, 55, 56, 57, 97, 98, 99, 100, 101, 102]⟩ : ByteArray).size : Int) then (if (x4_1 ++ (⟨#[92, 120]⟩ : ByteArray)).size + ((⟨#[48, 49, 50, 51, 52, 53, 54, 55, 56, 57, 97, 98, 99, 100, 101, 102]⟩ : ByteArray).extract ((ji20) : Int).toNat ((((ji20) + 1) % 256) : Int).toNat).size ≤ 9223372036854775807 then (if 0 ≤ (Int.tmod (bt a0 x5_1) 16) then (if (Int.tmod (bt a0 x5_1) 16) ≤ (((Int.tmod (bt a0 x5_1) 16) + 1) % 256) then (if (((Int.tmod (bt a0 x5_1) 16) + 1) % 256) ≤ ((⟨#[48, 49, 50, 51, 52, 53, 54, 55, 56, 57, 97, 98, 99, 100, 101, 102]⟩ : ByteArray).size : Int) then (if ((x4_1 ++ (⟨#[92, 120]⟩ : ByteArray)) ++ ((⟨#[48, 49, 50, 51, 52, 53, 54, 55, 56, 57, 97, 98, 99, 100, 101, 102]⟩ : ByteArray).extract ((ji20) : Int).toNat ((((ji20) + 1) % 256) : Int).toNat)).size + ((⟨#[48, 49, 50, 51, 52, 53, 54, 55, 56, 57, 97, 98, 99, 100, 101, 102]⟩ : ByteArray).extract ((Int.tmod (bt a0 x5_1) 16) : Int).toNat ((((Int.tmod (bt a0 x5_1) 16) + 1) % 256) : Int).toNat).size ≤ 9223372036854775807 then (spoolref48_Quote.l0 kj4 a0 (⟨#[48, 49, 50, 51, 52, 53, 54, 55, 56, 57, 97, 98, 99, 100, 101, 102]⟩ : ByteArray) (((x4_1 ++ (⟨#[92, 120]⟩ : ByteArray)) ++ ((⟨#[48, 49, 50, 51, 52, 53, 54, 55, 56, 57, 97, 98, 99, 100, 101, 102]⟩ : ByteArray).extract ((ji20) : Int).toNat ((((ji20) + 1) % 256) : Int).toNat)) ++ ((⟨#[48, 49, 50, 51, 52, 53, 54, 55, 56, 57, 97, 98, 99, 100, 101, 102]⟩ : ByteArray).extract ((Int.tmod (bt a0 x5_1) 16) : Int).toNat ((((Int.tmod (bt a0 x5_1) 16) + 1) % 256) : Int).toNat)) (wrap64 (x5_1 + 1))) else (none)) else (none)) else (none)) else (none)) else (none)) else (none)) else (none)) else (none)) = some r := by first | (rw [hji20] at H; exact H) | (simp only [hji20] at H ⊢; exact H)
                      have hmji20 : ((ji20) + 1) % 256 = (ji20) + 1 := by have h_ := bt_range a0 x5_1; have e_ := Int.tdiv_eq_ediv_of_nonneg (b := 16) h_.1; rw [e_] at hji20; omega
                      simp only [hmji20] at H
                      clear hmji20
                      have hlji20 : (ji20) ≤ 15 := by have h_ := bt_range a0 x5_1; have e_ := Int.tdiv_eq_ediv_of_nonneg (b := 16) h_.1; rw [e_] at hji20; omega
                      have hzji20 : 0 ≤ (ji20) := by have h_ := bt_range a0 x5_1; have e_ := Int.tdiv_eq_ediv_of_nonneg (b := 16) h_.1; rw [e_] at hji20; omega
                      have hsji20 : ((ji20) + 1 ≤ (16 : Int)) = True := eq_true (by omega)
                      have htji20 : ((ji20) ≤ (ji20) + 1) = True := eq_true (by omega)
                      by_cases c21 : 0 ≤ (ji20)
                      · rw [if_pos c21] at H
                        have c21b0 := eq_true c21
                        have c21b1 : decide (0 ≤ (ji20)) = true := decide_eq_true c21
                        clear c21
                        by_cases c22 : (ji20) ≤ ((ji20) + 1)
                        · rw [if_pos c22] at H
                          have c22b0 := eq_true c22
                          have c22b1 : decide ((ji20) ≤ ((ji20) + 1)) = true := decide_eq_true c22
                          by_cases c23 : ((ji20) + 1) ≤ ((⟨#[48, 49, 50, 51, 52, 53, 54, 55, 56, 57, 97, 98, 99, 100, 101, 102]⟩ : ByteArray).size : Int)
                          · rw [if_pos c23] at H
                            have c23b0 := eq_true c23
                            have c23b1 : decide (((ji20) + 1) ≤ (16 : Int)) = true := decide_eq_true c23
                            by_cases c24 : (x4_1 ++ (⟨#[92, 120]⟩ : ByteArray)).size + ((⟨#[48, 49, 50, 51, 52, 53, 54, 55, 56, 57, 97, 98, 99, 100, 101, 102]⟩ : ByteArray).extract ((ji20) : Int).toNat (((ji20) + 1) : Int).toNat).size ≤ 9223372036854775807
                            · rw [if_pos c24] at H
                              have c24b0 := eq_true c24
                              have c24b1 : decide ((x4_1 ++ (⟨#[92, 120]⟩ : ByteArray)).size + ((⟨#[48, 49, 50, 51, 52, 53, 54, 55, 56, 57, 97, 98, 99, 100, 101, 102]⟩ : ByteArray).extract ((ji20) : Int).toNat (((ji20) + 1) : Int).toNat).size ≤ 9223372036854775807) = true := decide_eq_true c24
                              try have c24b1s : decide ((x4_1.size + 2) + ((⟨#[48, 49, 50, 51, 52, 53, 54, 55, 56, 57, 97, 98, 99, 100, 101, 102]⟩ : ByteArray).extract ((ji20) : Int).toNat (((ji20) + 1) : Int).toNat).size ≤ 9223372036854775807) = true := (by have h_ := c24b1; simp only [ByteArray.size_append] at h_; exact h_)
                              try have c24b2 : (9223372036854775807 < (x4_1 ++ (⟨#[92, 120]⟩ : ByteArray)).size + ((⟨#[48, 49, 50, 51, 52, 53, 54, 55, 56, 57, 97, 98, 99, 100, 101, 102]⟩ : ByteArray).extract ((ji20) : Int).toNat (((ji20) + 1) : Int).toNat).size) = False := eq_false (Nat.not_lt.2 c24)
                              try have c24b2s : (9223372036854775807 < (x4_1.size + 2) + ((⟨#[48, 49, 50, 51, 52, 53, 54, 55, 56, 57, 97, 98, 99, 100, 101, 102]⟩ : ByteArray).extract ((ji20) : Int).toNat (((ji20) + 1) : Int).toNat).size) = False := (by have h_ := c24b2; simp only [ByteArray.size_append] at h_; exact h_)
                              obtain ⟨ji25, hji25⟩ : ∃ j_ : Int, (Int.tmod (bt a0 x5_1) 16) = j_ := ⟨_, rfl⟩
                              replace H : (if 0 ≤ (ji25) then (if (ji25) ≤ (((ji25) + 1) % 256) then (if (((ji25) + 1) % 256) ≤ ((⟨#[48, 49, 50, 51, 52, 53, 54, 55, 56, 57, 97, 98, 99, 100, 101, 102]⟩ : ByteArray).size : Int) then (if ((x4_1 ++ (⟨#[92, 120]⟩ : ByteArray)) ++ ((⟨#[48, 49, 50, 51, 52, 53, 54, 55, 56, 57, 97, 98, 99, 100, 101, 102]⟩ : ByteArray).extract ((ji20) : Int).toNat (((ji20) + 1) : Int).toNat)).size + ((⟨#[48, 49, 50, 51, 52, 53, 54, 55, 56, 57, 97, 98, 99, 100, 101, 102]⟩ : ByteArray).extract ((ji25) : Int).toNat ((((ji25) + 1) % 256) : Int).toNat).size ≤ 9223372036854775807 then (spoolref48_Quote.l0 kj4 a0 (⟨#[48, 49, 50, 51, 52, 53, 54, 55, 56, 57, 97, 98, 99, 100, 101, 102]⟩ : ByteArray) (((x4_1 ++ (⟨#[92, 120]⟩ : ByteArray)) ++ ((⟨#[48, 49, 50, 51, 52, 53, 54, 55, 56, 57, 97, 98, 99, 100, 101, 102]⟩ : ByteArray).extract ((ji20) : Int).toNat (((ji20) + 1) : Int).toNat)) ++ ((⟨#[48, 49, 50, 51, 52, 53, 54, 55, 56, 57, 97, 98, 99, 100, 101, 102]⟩ : ByteArray).extract ((ji25) : Int).toNat ((((ji25) + 1) % 256) : Int).toNat)) (wrap64 (x5_1 + 1))) else (none)) else (none)) else (none)) else (none)) = some r := by first | (rw [hji25] at H; exact H) | (simp only [hji25] at H ⊢; exact H)
                              have hmji25 : ((ji25) + 1) % 256 = (ji25) + 1 := by have h_ := bt_range a0 x5_1; have e_ := Int.tmod_eq_emod_of_nonneg (b := 16) h_.1; rw [e_] at hji25; omega
                              simp only [hmji25] at H
                              clear hmji25
                              have hlji25 : (ji25) ≤ 15 := by have h_ := bt_range a0 x5_1; have e_ := Int.tmod_eq_emod_of_nonneg (b := 16) h_.1; rw [e_] at hji25; omega
                              have hzji25 : 0 ≤ (ji25) := by have h_ := bt_range a0 x5_1; have e_ := Int.tmod_eq_emod_of_nonneg (b := 16) h_.1; rw [e_] at hji25; omega
                              have hsji25 : ((ji25) + 1 ≤ (16 : Int)) = True := eq_true (by omega)
                              have htji25 : ((ji25) ≤ (ji25) + 1) = True := eq_true (by omega)
                              by_cases c26 : 0 ≤ (ji25)
                              · rw [if_pos c26] at H
                                have c26b0 := eq_true c26
                                have c26b1 : decide (0 ≤ (ji25)) = true := decide_eq_true c26
                                clear c26
                                by_cases c27 : (ji25) ≤ ((ji25) + 1)
                                · rw [if_pos c27] at H
                                  have c27b0 := eq_true c27
                                  have c27b1 : decide ((ji25) ≤ ((ji25) + 1)) = true := decide_eq_true c27
                                  by_cases c28 : ((ji25) + 1) ≤ ((⟨#[48, 49, 50, 51, 52, 53, 54, 55, 56, 57, 97, 98, 99, 100, 101, 102]⟩ : ByteArray).size : Int)
                                  · rw [if_pos c28] at H
                                    have c28b0 := eq_true c28
                                    have c28b1 : decide (((ji25) + 1) ≤ (16 : Int)) = true := decide_eq_true c28
                                    by_cases c29 : ((x4_1 ++ (⟨#[92, 120]⟩ : ByteArray)) ++ ((⟨#[48, 49, 50, 51, 52, 53, 54, 55, 56, 57, 97, 98, 99, 100, 101, 102]⟩ : ByteArray).extract ((ji20) : Int).toNat (((ji20) + 1) : Int).toNat)).size + ((⟨#[48, 49, 50, 51, 52, 53, 54, 55, 56, 57, 97, 98, 99, 100, 101, 102]⟩ : ByteArray).extract ((ji25) : Int).toNat (((ji25) + 1) : Int).toNat).size ≤ 9223372036854775807
                                    · rw [if_pos c29] at H
                                      have c29b0 := eq_true c29
                                      have c29b1 : decide (((x4_1 ++ (⟨#[92, 120]⟩ : ByteArray)) ++ ((⟨#[48, 49, 50, 51, 52, 53, 54, 55, 56, 57, 97, 98, 99, 100, 101, 102]⟩ : ByteArray).extract ((ji20) : Int).toNat (((ji20) + 1) : Int).toNat)).size + ((⟨#[48, 49, 50, 51, 52, 53, 54, 55, 56, 57, 97, 98, 99, 100, 101, 102]⟩ : ByteArray).extract ((ji25) : Int).toNat (((ji25) + 1) : Int).toNat).size ≤ 9223372036854775807) = true := decide_eq_true c29
                                      try have c29b1s : decide (((x4_1.size + 2) + ((⟨#[48, 49, 50, 51, 52, 53, 54, 55, 56, 57, 97, 98, 99, 100, 101, 102]⟩ : ByteArray).extract ((ji20) : Int).toNat (((ji20) + 1) : Int).toNat).size) + ((⟨#[48, 49, 50, 51, 52, 53, 54, 55, 56, 57, 97, 98, 99, 100, 101, 102]⟩ : ByteArray).extract ((ji25) : Int).toNat (((ji25) + 1) : Int).toNat).size ≤ 9223372036854775807) = true := (by have h_ := c29b1; simp only [ByteArray.size_append] at h_; exact h_)
                                      try have c29b2 : (9223372036854775807 < ((x4_1 ++ (⟨#[92, 120]⟩ : ByteArray)) ++ ((⟨#[48, 49, 50, 51, 52, 53, 54, 55, 56, 57, 97, 98, 99, 100, 101, 102]⟩ : ByteArray).extract ((ji20) : Int).toNat (((ji20) + 1) : Int).toNat)).size + ((⟨#[48, 49, 50, 51, 52, 53, 54, 55, 56, 57, 97, 98, 99, 100, 101, 102]⟩ : ByteArray).extract ((ji25) : Int).toNat (((ji25) + 1) : Int).toNat).size) = False := eq_false (Nat.not_lt.2 c29)
                                      try have c29b2s : (9223372036854775807 < ((x4_1.size + 2) + ((⟨#[48, 49, 50, 51, 52, 53, 54, 55, 56, 57, 97, 98, 99, 100, 101, 102]⟩ : ByteArray).extract ((ji20) : Int).toNat (((ji20) + 1) : Int).toNat).size) + ((⟨#[48, 49, 50, 51, 52, 53, 54, 55, 56, 57, 97, 98, 99, 100, 101, 102]⟩ : ByteArray).extract ((ji25) : Int).toNat (((ji25) + 1) : Int).toNat).size) = False := (by have h_ := c29b2; simp only [ByteArray.size_append] at h_; exact h_)
                                      have H' := Aside0.mk H
                                      clear H
                                      go_wp2
                                      repeat (go_quiet (fail); try go_wp2)
                                      go_roundg kj4
                                      case measure => have := HK1.out; have := HJ4.out; omega
                                      case rel => exact ⟨(((x4_1 ++ (⟨#[92, 120]⟩ : ByteArray)) ++ ((⟨#[48, 49, 50, 51, 52, 53, 54, 55, 56, 57, 97, 98, 99, 100, 101, 102]⟩ : ByteArray).extract ((ji20) : Int).toNat (((ji20) + 1) : Int).toNat)) ++ ((⟨#[48, 49, 50, 51, 52, 53, 54, 55, 56, 57, 97, 98, 99, 100, 101, 102]⟩ : ByteArray).extract ((ji25) : Int).toNat (((ji25) + 1) : Int).toNat)), (wrap64 (x5_1 + 1)), (by first | rfl | (simp; done) | (simp only [← hji20, ← hji25] <;> (first | rfl | simp)) | (simp [*]; done)), (by first | rfl | (simp; done) | (simp [*]; done)), H', ⟨by have := HK1.out; have := HJ4.out; omega⟩, by repeat (first | exact Drawn0.refl _ | apply Drawn0.step)⟩
                                    · rw [if_neg c29] at H
                                      exact absurd H (by simp)
                                  · rw [if_neg c28] at H
                                    exact absurd H (by simp)
                                · rw [if_neg c27] at H
                                  exact absurd H (by simp)
                              · rw [if_neg c26] at H
                                exact absurd H (by simp)
                            · rw [if_neg c24] at H
                              exact absurd H (by simp)
                          · rw [if_neg c23] at H
                            exact absurd H (by simp)
                        · rw [if_neg c22] at H
                          exact absurd H (by simp)
                      · rw [if_neg c21] at H
                        exact absurd H (by simp)
                    · rw [if_neg c19] at H
                      exact absurd H (by simp)
                · rw [if_neg c13] at H
                  have c13b0 : decide (32 ≤ (bt a0 x5_1)) = false := decide_eq_false c13
                  clear c13
                  by_cases c30 : x4_1.size + 2 ≤ 9223372036854775807
                  · rw [if_pos c30] at H
                    have c30b0 := eq_true c30
                    have c30b1 : decide (x4_1.size + 2 ≤ 9223372036854775807) = true := decide_eq_true c30
                    try have c30b2 : (9223372036854775807 < x4_1.size + 2) = False := eq_false (Nat.not_lt.2 c30)
                    obtain ⟨ji31, hji31⟩ : ∃ j_ : Int, ((Int.tdiv (bt a0 x5_1) 16) % 256) = j_ := ⟨_, rfl⟩
                    replace H : (if 0 ≤ (ji31) then (if (ji31) ≤ (((ji31) + 1) % 256) then (if (((ji31) + 1) % 256) ≤ ((⟨#[48, 49, 50, 51, 52, 53, 54, 55, 56, 57, 97, 98, 99, 100, 101, 102]⟩ : ByteArray).size : Int) then (if (x4_1 ++ (⟨#[92, 120]⟩ : ByteArray)).size + ((⟨#[48, 49, 50, 51, 52, 53, 54, 55, 56, 57, 97, 98, 99, 100, 101, 102]⟩ : ByteArray).extract ((ji31) : Int).toNat ((((ji31) + 1) % 256) : Int).toNat).size ≤ 9223372036854775807 then (if 0 ≤ (Int.tmod (bt a0 x5_1) 16) then (if (Int.tmod (bt a0 x5_1) 16) ≤ (((Int.tmod (bt a0 x5_1) 16) + 1) % 256) then (if (((Int.tmod (bt a0 x5_1) 16) + 1) % 256) ≤ ((⟨#[48, 49, 50, 51, 52, 53, 54, 55, 56, 57, 97, 98, 99, 100, 101, 102]⟩ : ByteArray).size : Int) then (if ((x4_1 ++ (⟨#[92, 120]⟩ : ByteArray)) ++ ((⟨#[48, 49, 50, 51, 52, 53, 54, 55, 56, 57, 97, 98, 99, 100, 101, 102]⟩ : ByteArray).extract ((ji31) : Int).toNat ((((ji31) + 1) % 256) : Int).toNat)).size + ((⟨#[48, 49, 50, 51, 52, 53, 54, 55, 56, 57, 97, 98, 99, 100, 101, 102]⟩ : ByteArray).extract ((Int.tmod (bt a0 x5_1) 16) : Int).toNat ((((Int.tmod (bt a0 x5_1) 16) + 1) % 256) : Int).toNat).size ≤ 9223372036854775807 then (spoolref48_Quote.l0 kj4 a0 (⟨#[48, 49, 50, 51, 52, 53, 54, 55, 56, 57, 97, 98, 99, 100, 101, 102]⟩ : ByteArray) (((x4_1 ++ (⟨#[92, 120]⟩ : ByteArray)) ++ ((⟨#[48, 49, 50, 51, 52, 53, 54, 55, 56, 57, 97, 98, 99, 100, 101, 102]⟩ : ByteArray).extract ((ji31) : Int).toNat ((((ji31) + 1) % 256) : Int).toNat)) ++ ((⟨#[48, 49, 50, 51, 52, 53, 54, 55, 56, 57, 97, 98, 99, 100, 101, 102]⟩ : ByteArray).extract ((Int.tmod (bt a0 x5_1) 16) : Int).toNat ((((Int.tmod (bt a0 x5_1) 16) + 1) % 256) : Int).toNat)) (wrap64 (x5_1 + 1))) else (none)) else (none)) else (none)) else (none)) else (none)) else (none)) else (none)) else (none)) = some r := by first | (rw [hji31] at H; exact H) | (simp only [hji31] at H ⊢; exact H)
                    have hmji31 : ((ji31) + 1) % 256 = (ji31) + 1 := by have h_ := bt_range a0 x5_1; have e_ := Int.tdiv_eq_ediv_of_nonneg (b := 16) h_.1; rw [e_] at hji31; omega
                    simp only [hmji31] at H
                    clear hmji31
                    have hlji31 : (ji31) ≤ 15 := by have h_ := bt_range a0 x5_1; have e_ := Int.tdiv_eq_ediv_of_nonneg (b := 16) h_.1; rw [e_] at hji31; omega
                    have hzji31 : 0 ≤ (ji31) := by have h_ := bt_range a0 x5_1; have e_ := Int.tdiv_eq_ediv_of_nonneg (b := 16) h_.1; rw [e_] at hji31; omega
                    have hsji31 : ((ji31) + 1 ≤ (16 : Int)) = True := eq_true (by omega)
                    have htji31 : ((ji31) ≤ (ji31) + 1) = True := eq_true (by omega)
                    by_cases c32 : 0 ≤ (ji31)
                    · rw [if_pos c32] at H
                      have c32b0 := eq_true c32
                      have c32b1 : decide (0 ≤ (ji31)) = true := decide_eq_true c32
                      clear c32
                      by_cases c33 : (ji31) ≤ ((ji31) + 1)
                      · rw [if_pos c33] at H
                        have c33b0 := eq_true c33
                        have c33b1 : decide ((ji31) ≤ ((ji31) + 1)) = true := decide_eq_true c33
                        by_cases c34 : ((ji31) + 1) ≤ ((⟨#[48, 49, 50, 51, 52, 53, 54, 55, 56, 57, 97, 98, 99, 100, 101, 102]⟩ : ByteArray).size : Int)
                        · rw [if_pos c34] at H
                          have c34b0 := eq_true c34
                          have c34b1 : decide (((ji31) + 1) ≤ (16 : Int)) = true := decide_eq_true c34
                          by_cases c35 : (x4_1 ++ (⟨#[92, 120]⟩ : ByteArray)).size + ((⟨#[48, 49, 50, 51, 52, 53, 54, 55, 56, 57, 97, 98, 99, 100, 101, 102]⟩ : ByteArray).extract ((ji31) : Int).toNat (((ji31) + 1) : Int).toNat).size ≤ 9223372036854775807
                          · rw [if_pos c35] at H
                            have c35b0 := eq_true c35
                            have c35b1 : decide ((x4_1 ++ (⟨#[92, 120]⟩ : ByteArray)).size + ((⟨#[48, 49, 50, 51, 52, 53, 54, 55, 56, 57, 97, 98, 99, 100, 101, 102]⟩ : ByteArray).extract ((ji31) : Int).toNat (((ji31) + 1) : Int).toNat).size ≤ 9223372036854775807) = true := decide_eq_true c35
                            try have c35b1s : decide ((x4_1.size + 2) + ((⟨#[48, 49, 50, 51, 52, 53, 54, 55, 56, 57, 97, 98, 99, 100, 101, 102]⟩ : ByteArray).extract ((ji31) : Int).toNat (((ji31) + 1) : Int).toNat).size ≤ 9223372036854775807) = true := (by have h_ := c35b1; simp only [ByteArray.size_append] at h_; exact h_)
                            try have c35b2 : (9223372036854775807 < (x4_1 ++ (⟨#[92, 120]⟩ : ByteArray)).size + ((⟨#[48, 49, 50, 51, 52, 53, 54, 55, 56, 57, 97, 98, 99, 100, 101, 102]⟩ : ByteArray).extract ((ji31) : Int).toNat (((ji31) + 1) : Int).toNat).size) = False := eq_false (Nat.not_lt.2 c35)
                            try have c35b2s : (9223372036854775807 < (x4_1.size + 2) + ((⟨#[48, 49, 50, 51, 52, 53, 54, 55, 56, 57, 97, 98, 99, 100, 101, 102]⟩ : ByteArray).extract ((ji31) : Int).toNat (((ji31) + 1) : Int).toNat).size) = False := (by have h_ := c35b2; simp only [ByteArray.size_append] at h_; exact h_)
                            obtain ⟨ji36, hji36⟩ : ∃ j_ : Int, (Int.tmod (bt a0 x5_1) 16) = j_ := ⟨_, rfl⟩
                            replace H : (if 0 ≤ (ji36) then (if (ji36) ≤ (((ji36) + 1) % 256) then (if (((ji36) + 1) % 256) ≤ ((⟨#[48, 49, 50, 51, 52, 53, 54, 55, 56, 57, 97, 98, 99, 100, 101, 102]⟩ : ByteArray).size : Int) then (if ((x4_1 ++ (⟨#[92, 120]⟩ : ByteArray)) ++ ((⟨#[48, 49, 50, 51, 52, 53, 54, 55, 56, 57, 97, 98, 99, 100, 101, 102]⟩ : ByteArray).extract ((ji31) : Int).toNat (((ji31) + 1) : Int).toNat)).size + ((⟨#[48, 49, 50, 51, 52, 53, 54, 55, 56, 57, 97, 98, 99, 100, 101, 102]⟩ : ByteArray).extract ((ji36) : Int).toNat ((((ji36) + 1) % 256) : Int).toNat).size ≤ 9223372036854775807 then (spoolref48_Quote.l0 kj4 a0 (⟨#[48, 49, 50, 51, 52, 53, 54, 55, 56, 57, 97, 98, 99, 100, 101, 102]⟩ : ByteArray) (((x4_1 ++ (⟨#[92, 120]⟩ : ByteArray)) ++ ((⟨#[48, 49, 50, 51, 52, 53, 54, 55, 56, 57, 97, 98, 99, 100, 101, 102]⟩ : ByteArray).extract ((ji31) : Int).toNat (((ji31) + 1) : Int).toNat)) ++ ((⟨#[48, 49, 50, 51, 52, 53, 54, 55, 56, 57, 97, 98, 99, 100, 101, 102]⟩ : ByteArray).extract ((ji36) : Int).toNat ((((ji36) + 1) % 256) : Int).toNat)) (wrap64 (x5_1 + 1))) else (none)) else (none)) else (none)) else (none)) = some r := by first | (rw [hji36] at H; exact H) | (simp only [hji36] at H ⊢; exact H)
                            have hmji36 : ((ji36) + 1) % 256 = (ji36) + 1 := by have h_ := bt_range a0 x5_1; have e_ := Int.tmod_eq_emod_of_nonneg (b := 16) h_.1; rw [e_] at hji36; omega
                            simp only [hmji36] at H
                            clear hmji36
                            have hlji36 : (ji36) ≤ 15 := by have h_ := bt_range a0 x5_1; have e_ := Int.tmod_eq_emod_of_nonneg (b := 16) h_.1; rw [e_] at hji36; omega
                            have hzji36 : 0 ≤ (ji36) := by have h_ := bt_range a0 x5_1; have e_ := Int.tmod_eq_emod_of_nonneg (b := 16) h_.1; rw [e_] at hji36; omega
                            have hsji36 : ((ji36) + 1 ≤ (16 : Int)) = True := eq_true (by omega)
                            have htji36 : ((ji36) ≤ (ji36) + 1) = True := eq_true (by omega)
                            by_cases c37 : 0 ≤ (ji36)
                            · rw [if_pos c37] at H
                              have c37b0 := eq_true c37
                              have c37b1 : decide (0 ≤ (ji36)) = true := decide_eq_true c37
                              clear c37
                              by_cases c38 : (ji36) ≤ ((ji36) + 1)
                              · rw [if_pos c38] at H
                                have c38b0 := eq_true c38
                                have c38b1 : decide ((ji36) ≤ ((ji36) + 1)) = true := decide_eq_true c38
                                by_cases c39 : ((ji36) + 1) ≤ ((⟨#[48, 49, 50, 51, 52, 53, 54, 55, 56, 57, 97, 98, 99, 100, 101, 102]⟩ : ByteArray).size : Int)
                                · rw [if_pos c39] at H
                                  have c39b0 := eq_true c39
                                  have c39b1 : decide (((ji36) + 1) ≤ (16 : Int)) = true := decide_eq_true c39
                                  by_cases c40 : ((x4_1 ++ (⟨#[92, 120]⟩ : ByteArray)) ++ ((⟨#[48, 49, 50, 51, 52, 53, 54, 55, 56, 57, 97, 98, 99, 100, 101, 102]⟩ : ByteArray).extract ((ji31) : Int).toNat (((ji31) + 1) : Int).toNat)).size + ((⟨#[48, 49, 50, 51, 52, 53, 54, 55, 56, 57, 97, 98, 99, 100, 101, 102]⟩ : ByteArray).extract ((ji36) : Int).toNat (((ji36) + 1) : Int).toNat).size ≤ 9223372036854775807
                                  · rw [if_pos c40] at H
                                    have c40b0 := eq_true c40
                                    have c40b1 : decide (((x4_1 ++ (⟨#[92, 120]⟩ : ByteArray)) ++ ((⟨#[48, 49, 50, 51, 52, 53, 54, 55, 56, 57, 97, 98, 99, 100, 101, 102]⟩ : ByteArray).extract ((ji31) : Int).toNat (((ji31) + 1) : Int).toNat)).size + ((⟨#[48, 49, 50, 51, 52, 53, 54, 55, 56, 57, 97, 98, 99, 100, 101, 102]⟩ : ByteArray).extract ((ji36) : Int).toNat (((ji36) + 1) : Int).toNat).size ≤ 9223372036854775807) = true := decide_eq_true c40
                                    try have c40b1s : decide (((x4_1.size + 2) + ((⟨#[48, 49, 50, 51, 52, 53, 54, 55, 56, 57, 97, 98, 99, 100, 101, 102]⟩ : ByteArray).extract ((ji31) : Int).toNat (((ji31) + 1) : Int).toNat).size) + ((⟨#[48, 49, 50, 51, 52, 53, 54, 55, 56, 57, 97, 98, 99, 100, 101, 102]⟩ : ByteArray).extract ((ji36) : Int).toNat (((ji36) + 1) : Int).toNat).size ≤ 9223372036854775807) = true := (by have h_ := c40b1; simp only [ByteArray.size_append] at h_; exact h_)
                                    try have c40b2 : (9223372036854775807 < ((x4_1 ++ (⟨#[92, 120]⟩ : ByteArray)) ++ ((⟨#[48, 49, 50, 51, 52, 53, 54, 55, 56, 57, 97, 98, 99, 100, 101, 102]⟩ : ByteArray).extract ((ji31) : Int).toNat (((ji31) + 1) : Int).toNat)).size + ((⟨#[48, 49, 50, 51, 52, 53, 54, 55, 56, 57, 97, 98, 99, 100, 101, 102]⟩ : ByteArray).extract ((ji36) : Int).toNat (((ji36) + 1) : Int).toNat).size) = False := eq_false (Nat.not_lt.2 c40)
                                    try have c40b2s : (9223372036854775807 < ((x4_1.size + 2) + ((⟨#[48, 49, 50, 51, 52, 53, 54, 55, 56, 57, 97, 98, 99, 100, 101, 102]⟩ : ByteArray).extract ((ji31) : Int).toNat (((ji31) + 1) : Int).toNat).size) + ((⟨#[48, 49, 50, 51, 52, 53, 54, 55, 56, 57, 97, 98, 99, 100, 101, 102]⟩ : ByteArray).extract ((ji36) : Int).toNat (((ji36) + 1) : Int).toNat).size) = False := (by have h_ := c40b2; simp only [ByteArray.size_append] at h_; exact h_)
                                    have H' := Aside0.mk H
                                    clear H
                                    go_wp2
                                    repeat (go_quiet (fail); try go_wp2)
                                    go_roundg kj4
                                    case measure => have := HK1.out; have := HJ4.out; omega
                                    case rel => exact ⟨(((x4_1 ++ (⟨#[92, 120]⟩ : ByteArray)) ++ ((⟨#[48, 49, 50, 51, 52, 53, 54, 55, 56, 57, 97, 98, 99, 100, 101, 102]⟩ : ByteArray).extract ((ji31) : Int).toNat (((ji31) + 1) : Int).toNat)) ++ ((⟨#[48, 49, 50, 51, 52, 53, 54, 55, 56, 57, 97, 98, 99, 100, 101, 102]⟩ : ByteArray).extract ((ji36) : Int).toNat (((ji36) + 1) : Int).toNat)), (wrap64 (x5_1 + 1)), (by first | rfl | (simp; done) | (simp only [← hji31, ← hji36] <;> (first | rfl | simp)) | (simp [*]; done)), (by first | rfl | (simp; done) | (simp [*]; done)), H', ⟨by have := HK1.out; have := HJ4.out; omega⟩, by repeat (first | exact Drawn0.refl _ | apply Drawn0.step)⟩
                                  · rw [if_neg c40] at H
                                    exact absurd H (by simp)
                                · rw [if_neg c39] at H
                                  exact absurd H (by simp)
                              · rw [if_neg c38] at H
                                exact absurd H (by simp)
                            · rw [if_neg c37] at H
                              exact absurd H (by simp)
                          · rw [if_neg c35] at H
                            exact absurd H (by simp)
                        · rw [if_neg c34] at H
                          exact absurd H (by simp)
                      · rw [if_neg c33] at H
                        exact absurd H (by simp)
                    · rw [if_neg c32] at H
                      exact absurd H (by simp)
                  · rw [if_neg c30] at H
                    exact absurd H (by simp)
        · rw [if_neg c3] at H
          exact absurd H (by simp)
      · rw [if_neg c2] at H
        have c2b0 : decide (x5_1 < (a0.size : Int)) = false := decide_eq_false c2
        clear c2
        by_cases c41 : x4_1.size + 1 ≤ 9223372036854775807
        · rw [if_pos c41] at H
          have c41b0 := eq_true c41
          have c41b1 : decide (x4_1.size + 1 ≤ 9223372036854775807) = true := decide_eq_true c41
          try have c41b2 : (9223372036854775807 < x4_1.size + 1) = False := eq_false (Nat.not_lt.2 c41)
          obtain rfl := Option.some.inj H
          go_wp2
          repeat (go_quiet (fail); try go_wp2)
          go_ret
          exact ⟨by first | rfl | (simp; done) | (simp [*]; done), by repeat (first | exact Drawn0.refl _ | apply Drawn0.step)⟩
        · rw [if_neg c41] at H
          exact absurd H (by simp)

end Go.Proofs.YtifcpamliidabaaDoor.PS

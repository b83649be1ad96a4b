-- WRITTEN BY A PROGRAM OF THIS SESSION (patchprint.py over the kit's print)
import Derived.Test.YtlihkebmonfefaaDoorHandOf
import Derived.Test.YtlihkebmonfefaaDoorPGx0
import Derived.Test.YtlihkebmonfefaaDoorPGx4
namespace Go.Proofs.YtlihkebmonfefaaDoor.PG
open Go.RowKit Go.Proofs.YtlihkebmonfefaaDoorW.PrintWords Go.Proofs.YtlihkebmonfefaaDoorW.PrintLast Go.Proofs.YtlihkebmonfefaaDoorW.PrintMore
attribute [local go_sem] max2_int min2_int max_two min_two max_three min_three max_four min_four   -- for this text's walks alone
set_option linter.unusedVariables false
set_option linter.unusedSimpArgs false
open Go.Proofs.YtlihkebmonfefaaDoor.HandOf
def bracket_Text.l0 : Nat → ByteArray → List (S60) → Int → Int → Option (ByteArray)
 | 0, _, _, _, _ => none
 | k + 1, x3, x17, x18, x19 => if x19 < x18 then (if 0 ≤ x19 then (if x19 < (x17.length : Int) then ((escape_Text.f k ((rd_T60 x17 x19).f0)).bind fun t133 => (if x3.size + t133.size ≤ 9223372036854775807 then (if ((rd_T60 x17 x19).f1) > ((rd_T60 x17 x19).f0) then ((escape_Text.f k ((rd_T60 x17 x19).f1)).bind fun t134 => (if 1 + t134.size ≤ 9223372036854775807 then (if (x3 ++ t133).size + ((⟨#[45]⟩ : ByteArray) ++ t134).size ≤ 9223372036854775807 then (bracket_Text.l0 k ((x3 ++ t133) ++ ((⟨#[45]⟩ : ByteArray) ++ t134)) x17 x18 (wrap64 (x19 + 1))) else (none)) else (none))) else (bracket_Text.l0 k (x3 ++ t133) x17 x18 (wrap64 (x19 + 1)))) else (none))) else (none)) else (none)) else (if x3.size + 1 ≤ 9223372036854775807 then (some (x3 ++ (⟨#[93]⟩ : ByteArray))) else (none))
def bracket_Text.f (k : Nat) (l0 : List (S60)) : Option (ByteArray) := (ranges_Of.f l0).bind fun t126 => (if (t126.length : Int) = 0 then ((escape_Text.f k 0).bind fun t129 => (if 2 + t129.size ≤ 9223372036854775807 then (if ((⟨#[91, 94]⟩ : ByteArray) ++ t129).size + 1 ≤ 9223372036854775807 then ((escape_Text.f k 1114111).bind fun t130 => (if (((⟨#[91, 94]⟩ : ByteArray) ++ t129) ++ (⟨#[45]⟩ : ByteArray)).size + t130.size ≤ 9223372036854775807 then (if ((((⟨#[91, 94]⟩ : ByteArray) ++ t129) ++ (⟨#[45]⟩ : ByteArray)) ++ t130).size + 1 ≤ 9223372036854775807 then (some (((((⟨#[91, 94]⟩ : ByteArray) ++ t129) ++ (⟨#[45]⟩ : ByteArray)) ++ t130) ++ (⟨#[93]⟩ : ByteArray))) else (none)) else (none))) else (none)) else (none))) else (bracket_Text.l0 k (⟨#[91]⟩ : ByteArray) t126 (t126.length : Int) 0))
theorem bracket_Text.mono_l : ∀ k, (∀ y0 y1 y2 y3, LeO (bracket_Text.l0 k y0 y1 y2 y3) (bracket_Text.l0 (k + 1) y0 y1 y2 y3))
 | 0 => fun _ _ _ _ r h => by simp [bracket_Text.l0] at h
 | k + 1 => by
  have ih0 := bracket_Text.mono_l k
  ·intro y0 y1 y2 y3
   unfold bracket_Text.l0
   repeat' first
   | (with_reducible exact ih0 _ _ _ _)
   | (with_reducible exact escape_Text.mono _ _)
   | (with_reducible exact LeO.refl _)
   | (with_reducible exact LeO.none _)
   | (with_reducible refine LeO.ite ?_ ?_)
   | (with_reducible refine LeO.bind ?_ (fun _ => ?_))
   | exact ih0 _ _ _ _
   | exact escape_Text.mono _ _
   | exact LeO.none _
   | refine LeO.ite ?_ ?_
   | refine LeO.bind ?_ (fun _ => ?_)
theorem bracket_Text.mono : ∀ a0 k, LeO (bracket_Text.f k a0) (bracket_Text.f (k + 1) a0) := by
 intro a0 k
 have ih0 := bracket_Text.mono_l k
 unfold bracket_Text.f
 repeat' first
   | (with_reducible exact ih0 _ _ _ _)
   | (with_reducible exact escape_Text.mono _ _)
   | (with_reducible exact LeO.refl _)
   | (with_reducible exact LeO.none _)
   | (with_reducible refine LeO.ite ?_ ?_)
   | (with_reducible refine LeO.bind ?_ (fun _ => ?_))
   | exact ih0 _ _ _ _
   | exact escape_Text.mono _ _
   | exact LeO.none _
   | refine LeO.ite ?_ ?_
   | refine LeO.bind ?_ (fun _ => ?_)
set_option maxHeartbeats 8000000 in
set_option maxRecDepth 100000 in
theorem bracket_Text.calls (k : Nat) (A0 : Option Addr) (c0 : Nat) (l0 : List (S60)) (r : ByteArray) (w : World) (hr0 : Kd.C k60 w A0 l0.length l0) (hc0 : l0.length ≤ c0) (hrG0 : Kd.C (Kd.int .u8) w (some ⟨0, 0, none⟩) tab_digit_signs.length tab_digit_signs) (h : bracket_Text.f k l0 = some r) :
  Calls Tryd.prog 39 #[.slice A0 l0.length c0] w fun e w' => e = .returned (.string r) ∧ Below w.heap.size w w' := by
 have hu60 := Tryd.underlying60
 have HR0 := Aside0.mk hr0
 have HC0 := Aside0.mk hc0
 clear hr0 hc0
 have HRG0 := Aside0.mk hrG0
 clear hrG0
 have HB := Aside0.mk (Below.refl w.heap.size w)
 have H : ((ranges_Of.f l0).bind fun t126 => (if (t126.length : Int) = 0 then ((escape_Text.f k 0).bind fun t129 => (if 2 + t129.size ≤ 9223372036854775807 then (if ((⟨#[91, 94]⟩ : ByteArray) ++ t129).size + 1 ≤ 9223372036854775807 then ((escape_Text.f k 1114111).bind fun t130 => (if (((⟨#[91, 94]⟩ : ByteArray) ++ t129) ++ (⟨#[45]⟩ : ByteArray)).size + t130.size ≤ 9223372036854775807 then (if ((((⟨#[91, 94]⟩ : ByteArray) ++ t129) ++ (⟨#[45]⟩ : ByteArray)) ++ t130).size + 1 ≤ 9223372036854775807 then (some (((((⟨#[91, 94]⟩ : ByteArray) ++ t129) ++ (⟨#[45]⟩ : ByteArray)) ++ t130) ++ (⟨#[93]⟩ : ByteArray))) else (none)) else (none))) else (none)) else (none))) else (bracket_Text.l0 k (⟨#[91]⟩ : ByteArray) t126 (t126.length : Int) 0))) = some r := h
 clear h
 replace H := Option.bind_eq_some_iff.mp H
 obtain ⟨t126, A20, H⟩ := H
 replace H : (if (t126.length : Int) = 0 then ((escape_Text.f k 0).bind fun t129 => (if 2 + t129.size ≤ 9223372036854775807 then (if ((⟨#[91, 94]⟩ : ByteArray) ++ t129).size + 1 ≤ 9223372036854775807 then ((escape_Text.f k 1114111).bind fun t130 => (if (((⟨#[91, 94]⟩ : ByteArray) ++ t129) ++ (⟨#[45]⟩ : ByteArray)).size + t130.size ≤ 9223372036854775807 then (if ((((⟨#[91, 94]⟩ : ByteArray) ++ t129) ++ (⟨#[45]⟩ : ByteArray)) ++ t130).size + 1 ≤ 9223372036854775807 then (some (((((⟨#[91, 94]⟩ : ByteArray) ++ t129) ++ (⟨#[45]⟩ : ByteArray)) ++ t130) ++ (⟨#[93]⟩ : ByteArray))) else (none)) else (none))) else (none)) else (none))) else (bracket_Text.l0 k (⟨#[91]⟩ : ByteArray) t126 (t126.length : Int) 0)) = some r := H
 have A2 := Aside0.mk A20
 clear A20
 by_cases c3 : (t126.length : Int) = 0
 ·rw [if_pos c3] at H
  have c3b0 : ((t126.length : Int) == 0) = true := beq_iff_eq.mpr c3
  have c3b1 : ((t126.length : Int) != 0) = false := bne_eq_false_iff_eq.mpr c3
  clear c3
  replace H := Option.bind_eq_some_iff.mp H
  obtain ⟨t129, A40, H⟩ := H
  replace H : (if 2 + t129.size ≤ 9223372036854775807 then (if ((⟨#[91, 94]⟩ : ByteArray) ++ t129).size + 1 ≤ 9223372036854775807 then ((escape_Text.f k 1114111).bind fun t130 => (if (((⟨#[91, 94]⟩ : ByteArray) ++ t129) ++ (⟨#[45]⟩ : ByteArray)).size + t130.size ≤ 9223372036854775807 then (if ((((⟨#[91, 94]⟩ : ByteArray) ++ t129) ++ (⟨#[45]⟩ : ByteArray)) ++ t130).size + 1 ≤ 9223372036854775807 then (some (((((⟨#[91, 94]⟩ : ByteArray) ++ t129) ++ (⟨#[45]⟩ : ByteArray)) ++ t130) ++ (⟨#[93]⟩ : ByteArray))) else (none)) else (none))) else (none)) else (none)) = some r := H
  have A4 := Aside0.mk A40
  clear A40
  by_cases c5 : 2 + t129.size ≤ 9223372036854775807
  ·rw [if_pos c5] at H
   have c5b0 := eq_true c5
   have c5b1 : decide (2 + t129.size ≤ 9223372036854775807) = true := decide_eq_true c5
   try have c5b2 : (9223372036854775807 < 2 + t129.size) = False := eq_false (Nat.not_lt.2 c5)
   by_cases c6 : ((⟨#[91, 94]⟩ : ByteArray) ++ t129).size + 1 ≤ 9223372036854775807
   ·rw [if_pos c6] at H
    have c6b0 := eq_true c6
    have c6b1 : decide (((⟨#[91, 94]⟩ : ByteArray) ++ t129).size + 1 ≤ 9223372036854775807) = true := decide_eq_true c6
    try have c6b1s : decide ((2 + t129.size) + 1 ≤ 9223372036854775807) = true := (by have h_ := c6b1; simp only [ByteArray.size_append] at h_; exact h_)
    try have c6b2 : (9223372036854775807 < ((⟨#[91, 94]⟩ : ByteArray) ++ t129).size + 1) = False := eq_false (Nat.not_lt.2 c6)
    try have c6b2s : (9223372036854775807 < (2 + t129.size) + 1) = False := (by have h_ := c6b2; simp only [ByteArray.size_append] at h_; exact h_)
    replace H := Option.bind_eq_some_iff.mp H
    obtain ⟨t130, A70, H⟩ := H
    replace H : (if (((⟨#[91, 94]⟩ : ByteArray) ++ t129) ++ (⟨#[45]⟩ : ByteArray)).size + t130.size ≤ 9223372036854775807 then (if ((((⟨#[91, 94]⟩ : ByteArray) ++ t129) ++ (⟨#[45]⟩ : ByteArray)) ++ t130).size + 1 ≤ 9223372036854775807 then (some (((((⟨#[91, 94]⟩ : ByteArray) ++ t129) ++ (⟨#[45]⟩ : ByteArray)) ++ t130) ++ (⟨#[93]⟩ : ByteArray))) else (none)) else (none)) = some r := H
    have A7 := Aside0.mk A70
    clear A70
    by_cases c8 : (((⟨#[91, 94]⟩ : ByteArray) ++ t129) ++ (⟨#[45]⟩ : ByteArray)).size + t130.size ≤ 9223372036854775807
    ·rw [if_pos c8] at H
     have c8b0 := eq_true c8
     have c8b1 : decide ((((⟨#[91, 94]⟩ : ByteArray) ++ t129) ++ (⟨#[45]⟩ : ByteArray)).size + t130.size ≤ 9223372036854775807) = true := decide_eq_true c8
     try have c8b1s : decide (((2 + t129.size) + 1) + t130.size ≤ 9223372036854775807) = true := (by have h_ := c8b1; simp only [ByteArray.size_append] at h_; exact h_)
     try have c8b2 : (9223372036854775807 < (((⟨#[91, 94]⟩ : ByteArray) ++ t129) ++ (⟨#[45]⟩ : ByteArray)).size + t130.size) = False := eq_false (Nat.not_lt.2 c8)
     try have c8b2s : (9223372036854775807 < ((2 + t129.size) + 1) + t130.size) = False := (by have h_ := c8b2; simp only [ByteArray.size_append] at h_; exact h_)
     by_cases c9 : ((((⟨#[91, 94]⟩ : ByteArray) ++ t129) ++ (⟨#[45]⟩ : ByteArray)) ++ t130).size + 1 ≤ 9223372036854775807
     ·rw [if_pos c9] at H
      have c9b0 := eq_true c9
      have c9b1 : decide (((((⟨#[91, 94]⟩ : ByteArray) ++ t129) ++ (⟨#[45]⟩ : ByteArray)) ++ t130).size + 1 ≤ 9223372036854775807) = true := decide_eq_true c9
      try have c9b1s : decide ((((2 + t129.size) + 1) + t130.size) + 1 ≤ 9223372036854775807) = true := (by have h_ := c9b1; simp only [ByteArray.size_append] at h_; exact h_)
      try have c9b2 : (9223372036854775807 < ((((⟨#[91, 94]⟩ : ByteArray) ++ t129) ++ (⟨#[45]⟩ : ByteArray)) ++ t130).size + 1) = False := eq_false (Nat.not_lt.2 c9)
      try have c9b2s : (9223372036854775807 < (((2 + t129.size) + 1) + t130.size) + 1) = False := (by have h_ := c9b2; simp only [ByteArray.size_append] at h_; exact h_)
      obtain rfl := Option.some.inj H
      go_enter Tryd.func39, Tryd.ntmps39
      go_wp2_with (first | ((with_reducible refine gate_callee (f := 45) rfl ?_); refine goesL_ (some 7) rfl rfl Tryd.func45 (by kernel_rfl) rfl #[.slice A0 l0.length c0] rfl lma_ ?_; (with_reducible refine (ranges_Of.calls _ _ l0 t126 _ ?side1 ?side2 A2.out).mono ?_); (case side1 => repeat (first | exact HR0.out | (with_reducible refine Kd.C_alloc ?_ _) | (with_reducible refine Kd.C_drewN ?_ _) | (with_reducible refine Kd.C_drew ?_))); (case side2 => exact HC0.out); rintro e w10 ⟨v127, rfl, ho0, hb⟩; refine ⟨_, rfl, ?_⟩; have n0_ := Aside0.mk (Kd.R_lower ho0 (below_size (blw_ HB.out))); have n1_ := Aside0.mk (below_step (blw_ HB.out) hb); clear HB; have HO128 := n0_; have HB := n1_; clear n0_ n1_; (try clear hb); (try clear hb2); (try clear hk); (try clear hi); (try clear ho0); obtain ⟨Ao11, co11, eo11⟩ := Kd.R_slice HO128.out; subst eo11) | ((with_reducible refine gate_callee (f := 46) rfl ?_); refine goesL_ (some 11) rfl rfl Tryd.func46 (by kernel_rfl) rfl #[.int .i64 0] rfl lma_ ?_; (with_reducible refine (escape_Text.calls k 0 t129 _ ?side1 A4.out).mono ?_); (case side1 => repeat (first | exact (Kd.C_below HRG0.out HB.out) | (with_reducible refine Kd.C_alloc ?_ _) | (with_reducible refine Kd.C_drewN ?_ _) | (with_reducible refine Kd.C_drew ?_))); rintro e w12 ⟨rfl, hb⟩; refine ⟨_, rfl, ?_⟩; have n0_ := Aside0.mk (Kd.R_below (by (with_reducible repeat (first | apply Kd.R_alloc | apply Kd.R_drewN | apply Kd.R_drew)); exact HO128.out) hb); have n1_ := Aside0.mk (below_step (blw_ HB.out) hb); clear HO128; clear HB; have HO128 := n0_; have HB := n1_; clear n0_ n1_; (try clear hb); (try clear hb2); (try clear hk); (try clear hi)) | ((with_reducible refine gate_callee (f := 46) rfl ?_); refine goesL_ (some 14) rfl rfl Tryd.func46 (by kernel_rfl) rfl #[.int .i64 1114111] rfl lma_ ?_; (with_reducible refine (escape_Text.calls k 1114111 t130 _ ?side1 A7.out).mono ?_); (case side1 => repeat (first | exact (Kd.C_below HRG0.out HB.out) | (with_reducible refine Kd.C_alloc ?_ _) | (with_reducible refine Kd.C_drewN ?_ _) | (with_reducible refine Kd.C_drew ?_))); rintro e w13 ⟨rfl, hb⟩; refine ⟨_, rfl, ?_⟩; have n0_ := Aside0.mk (Kd.R_below (by (with_reducible repeat (first | apply Kd.R_alloc | apply Kd.R_drewN | apply Kd.R_drew)); exact HO128.out) hb); have n1_ := Aside0.mk (below_step (blw_ HB.out) hb); clear HO128; clear HB; have HO128 := n0_; have HB := n1_; clear n0_ n1_; (try clear hb); (try clear hb2); (try clear hk); (try clear hi)))
      go_ret
      exact ⟨fia_, blw_ HB.out⟩
     ·rw [if_neg c9] at H
      exact absurd H (by simp)
    ·rw [if_neg c8] at H
     exact absurd H (by simp)
   ·rw [if_neg c6] at H
    exact absurd H (by simp)
  ·rw [if_neg c5] at H
   exact absurd H (by simp)
 ·rw [if_neg c3] at H
  have c3b0 : ((t126.length : Int) == 0) = false := beq_eq_false_iff_ne.mpr c3
  have c3b1 : ((t126.length : Int) != 0) = true := bne_iff_ne.mpr c3
  have c3b2 : ¬ (t126 = []) := fun h_ => c3 (by rw [h_]; rfl)
  have H' := Aside0.mk H
  clear H
  go_enter Tryd.func39, Tryd.ntmps39
  go_wp2_with (first | ((with_reducible refine gate_callee (f := 45) rfl ?_); refine goesL_ (some 7) rfl rfl Tryd.func45 (by kernel_rfl) rfl #[.slice A0 l0.length c0] rfl lma_ ?_; (with_reducible refine (ranges_Of.calls _ _ l0 t126 _ ?side1 ?side2 A2.out).mono ?_); (case side1 => repeat (first | exact HR0.out | (with_reducible refine Kd.C_alloc ?_ _) | (with_reducible refine Kd.C_drewN ?_ _) | (with_reducible refine Kd.C_drew ?_))); (case side2 => exact HC0.out); rintro e w14 ⟨v127, rfl, ho0, hb⟩; refine ⟨_, rfl, ?_⟩; have n0_ := Aside0.mk (Kd.R_lower ho0 (below_size (blw_ HB.out))); have n1_ := Aside0.mk (below_step (blw_ HB.out) hb); clear HB; have HO128 := n0_; have HB := n1_; clear n0_ n1_; (try clear hb); (try clear hb2); (try clear hk); (try clear hi); (try clear ho0); obtain ⟨Ao15, co15, eo15⟩ := Kd.R_slice HO128.out; subst eo15))
  go_loopg [3, 19] k (fun kq v3 v19 w' => ∃ (x3_1 : ByteArray) (x19_1 : Int), v3 = .string x3_1 ∧ v19 = .int .i64 x19_1 ∧ Aside0 (bracket_Text.l0 kq x3_1 t126 (t126.length : Int) x19_1 = some r) ∧ Aside0 (kq ≤ k) ∧ Aside0 (Kd.R k60 60 w' w.heap.size (fun _ => True) (.slice Ao15 t126.length co15) t126) ∧ Aside0 (Below w.heap.size w w'))
  case atStart => exact ⟨((⟨#[91]⟩ : ByteArray)), (0), fib_, fib_, H', ⟨Nat.le_refl _⟩, ⟨by (with_reducible repeat (first | apply Kd.R_alloc | apply Kd.R_drewN | apply Kd.R_drew)); exact HO128.out⟩, ⟨blw_ HB.out⟩⟩
  case round =>
   clear H'
   try clear p2
   try clear c3
   try clear c3b0
   try clear c3b1
   try clear c3b2
   try clear c4
   try clear c5
   try clear c5b0
   try clear c5b1
   try clear c5b2
   try clear c6
   try clear c6b0
   try clear c6b1
   try clear c6b2
   try clear c8
   try clear c8b0
   try clear c8b1
   try clear c8b2
   try clear c9
   try clear c9b0
   try clear c9b1
   try clear c9b2
   obtain ⟨x3_1, x19_1, rfl, rfl, HA, HK1, HO_17, HB⟩ := hrel
   cases gk with
   | zero => exact absurd HA.out (by simp [bracket_Text.l0])
   | succ k1 =>
    have H := HA.out
    clear HA
    simp only [bracket_Text.l0] at H
    by_cases c16 : x19_1 < (t126.length : Int)
    ·rw [if_pos c16] at H
     have c16b0 : decide (x19_1 < (t126.length : Int)) = true := decide_eq_true c16
     clear c16
     by_cases c17 : 0 ≤ x19_1
     ·rw [if_pos c17] at H
      have c17b0 : decide (0 ≤ x19_1) = true := decide_eq_true c17
      clear c17
      by_cases c18 : x19_1 < (t126.length : Int)
      ·rw [if_pos c18] at H
       have c18b0 : decide (x19_1 < (t126.length : Int)) = true := decide_eq_true c18
       clear c18
       replace H := Option.bind_eq_some_iff.mp H
       obtain ⟨t133, A190, H⟩ := H
       replace H : (if x3_1.size + t133.size ≤ 9223372036854775807 then (if ((rd_T60 t126 x19_1).f1) > ((rd_T60 t126 x19_1).f0) then ((escape_Text.f k1 ((rd_T60 t126 x19_1).f1)).bind fun t134 => (if 1 + t134.size ≤ 9223372036854775807 then (if (x3_1 ++ t133).size + ((⟨#[45]⟩ : ByteArray) ++ t134).size ≤ 9223372036854775807 then (bracket_Text.l0 k1 ((x3_1 ++ t133) ++ ((⟨#[45]⟩ : ByteArray) ++ t134)) t126 (t126.length : Int) (wrap64 (x19_1 + 1))) else (none)) else (none))) else (bracket_Text.l0 k1 (x3_1 ++ t133) t126 (t126.length : Int) (wrap64 (x19_1 + 1)))) else (none)) = some r := H
       have A19 := Aside0.mk A190
       clear A190
       by_cases c20 : x3_1.size + t133.size ≤ 9223372036854775807
       ·rw [if_pos c20] at H
        have c20b0 := eq_true c20
        have c20b1 : decide (x3_1.size + t133.size ≤ 9223372036854775807) = true := decide_eq_true c20
        try have c20b2 : (9223372036854775807 < x3_1.size + t133.size) = False := eq_false (Nat.not_lt.2 c20)
        by_cases c21 : ((rd_T60 t126 x19_1).f1) > ((rd_T60 t126 x19_1).f0)
        ·rw [if_pos c21] at H
         have c21b0 : decide (((rd_T60 t126 x19_1).f0) < ((rd_T60 t126 x19_1).f1)) = true := decide_eq_true c21
         clear c21
         replace H := Option.bind_eq_some_iff.mp H
         obtain ⟨t134, A220, H⟩ := H
         replace H : (if 1 + t134.size ≤ 9223372036854775807 then (if (x3_1 ++ t133).size + ((⟨#[45]⟩ : ByteArray) ++ t134).size ≤ 9223372036854775807 then (bracket_Text.l0 k1 ((x3_1 ++ t133) ++ ((⟨#[45]⟩ : ByteArray) ++ t134)) t126 (t126.length : Int) (wrap64 (x19_1 + 1))) else (none)) else (none)) = some r := H
         have A22 := Aside0.mk A220
         clear A220
         by_cases c23 : 1 + t134.size ≤ 9223372036854775807
         ·rw [if_pos c23] at H
          have c23b0 := eq_true c23
          have c23b1 : decide (1 + t134.size ≤ 9223372036854775807) = true := decide_eq_true c23
          try have c23b2 : (9223372036854775807 < 1 + t134.size) = False := eq_false (Nat.not_lt.2 c23)
          by_cases c24 : (x3_1 ++ t133).size + ((⟨#[45]⟩ : ByteArray) ++ t134).size ≤ 9223372036854775807
          ·rw [if_pos c24] at H
           have c24b0 := eq_true c24
           have c24b1 : decide ((x3_1 ++ t133).size + ((⟨#[45]⟩ : ByteArray) ++ t134).size ≤ 9223372036854775807) = true := decide_eq_true c24
           try have c24b1s : decide ((x3_1.size + t133.size) + (1 + t134.size) ≤ 9223372036854775807) = true := (by have h_ := c24b1; simp only [ByteArray.size_append] at h_; exact h_)
           try have c24b2 : (9223372036854775807 < (x3_1 ++ t133).size + ((⟨#[45]⟩ : ByteArray) ++ t134).size) = False := eq_false (Nat.not_lt.2 c24)
           try have c24b2s : (9223372036854775807 < (x3_1.size + t133.size) + (1 + t134.size)) = False := (by have h_ := c24b2; simp only [ByteArray.size_append] at h_; exact h_)
           have H' := Aside0.mk H
           clear H
           have p131 : 0 ≤ (x19_1 : Int) := of_decide_eq_true asa_
           have q131 : x19_1 < (t126.length : Int) := of_decide_eq_true asa_
           obtain ⟨ad131, e131, hx131_0, hx131_1⟩ := at_T60 (Kd.R_reads' HO_17.out).2.2 x19_1 p131 q131
           cases e131
           replace p131 := eq_true p131
           replace q131 := eq_true q131
           go_wp2_with (first | ((with_reducible refine gate_dst (N := 5) rfl ?_); refine box_event ?hg (N := 5) ?hd (cs := #[.int .i64 0, .int .i64 0]) (t := 60) ?hr ?_; (case hd => rfl); (case hg => rfl); (case hr => first | (go_simp; done) | (go_simp; rfl)); intro gb132 hg w25 hbox hb; have n0_ := Aside0.mk (Kd.R_below (Kd.R_elderB (by (with_reducible repeat (first | apply Kd.R_alloc | apply Kd.R_drewN | apply Kd.R_drew)); exact HO_17.out) gb132 (Nat.le_of_eq hg.symm)) hb); have n1_ := Aside0.mk (below_step (blw_ HB.out) hb); have n2_ := Aside0.mk (hbox); have n3_ := Aside0.mk ((by rw [hg]; exact (below_size (blw_ HB.out)) : w.heap.size ≤ gb132)); have n4_ := Aside0.mk ((by rw [hg]; exact (below_size (blw_ HB.out)) : w.heap.size ≤ gb132)); clear HO_17; clear HB; have HO_17 := n0_; have HB := n1_; have BK132 := n2_; have GW132 := n3_; have GE132 := n4_; clear n0_ n1_ n2_ n3_ n4_; clear hb hbox hg; have hcz26_0 : w25.cell? ⟨gb132, 0, none⟩ = some (.int .i64 0) := (blk_cell BK132.out 0).trans rfl; have hcz26_1 : w25.cell? ⟨gb132, 1, none⟩ = some (.int .i64 0) := (blk_cell BK132.out 1).trans rfl; have hfz26_0 := blk_frozen BK132.out 0; have hfz26_1 := blk_frozen BK132.out 1) | ((with_reducible refine gate_callee (f := 46) rfl ?_); refine goesL_ (some 26) rfl rfl Tryd.func46 (by kernel_rfl) rfl #[.int .i64 ((rd_T60 t126 x19_1).f0)] rfl lma_ ?_; (with_reducible refine (escape_Text.calls k1 ((rd_T60 t126 x19_1).f0) t133 _ ?side1 A19.out).mono ?_); (case side1 => exact Kd.C_below HRG0.out (blg_ HB.out GE132.out)); rintro e w27 ⟨rfl, hb⟩; refine ⟨_, rfl, ?_⟩; have n0_ := Aside0.mk (Kd.R_below (by (with_reducible repeat (first | apply Kd.R_alloc | apply Kd.R_drewN | apply Kd.R_drew)); exact (Kd.R_mono (Kd.R_far (p := ⟨gb132, 1, none⟩) (Kd.R_far (p := ⟨gb132, 0, none⟩) (Kd.R_mono HO_17.out (fun k_ hk => (⟨hk, hk.2⟩ : _ ∧ k_ ≠ gb132))) (fun _ hk => hk.2) (.int .i64 ((rd_T60 t126 x19_1).f0))) (fun _ hk => hk.2) (.int .i64 ((rd_T60 t126 x19_1).f1))) (fun _ h_ => h_.1))) hb); have n1_ := Aside0.mk (blk_below (g := gb132) (o := .cells #[.int .i64 ((rd_T60 t126 x19_1).f0), .int .i64 ((rd_T60 t126 x19_1).f1)] 60 (0, 0)) (by (with_reducible repeat (first | refine blk_drewN ?_ _ | refine blk_drew ?_ | refine blk_alloc ?_ _)); refine blk_put (cs := #[.int .i64 ((rd_T60 t126 x19_1).f0), .int .i64 0]) ?_ 1 _ rfl; (with_reducible repeat (first | refine blk_drewN ?_ _ | refine blk_drew ?_ | refine blk_alloc ?_ _)); refine blk_put (cs := #[.int .i64 0, .int .i64 0]) ?_ 0 _ rfl; exact bkw_ BK132.out) hb); have n2_ := Aside0.mk (below_step (blg_ HB.out GE132.out) hb); clear HO_17; clear BK132; clear HB; have HO_17 := n0_; have BK132 := n1_; have HB := n2_; clear n0_ n1_ n2_; (try clear hb); (try clear hb2); (try clear hk); (try clear hi); have hcz28_0 : w27.cell? ⟨gb132, 0, none⟩ = some (.int .i64 ((rd_T60 t126 x19_1).f0)) := (blk_cell BK132.out 0).trans rfl; have hcz28_1 : w27.cell? ⟨gb132, 1, none⟩ = some (.int .i64 ((rd_T60 t126 x19_1).f1)) := (blk_cell BK132.out 1).trans rfl; have hfz28_0 := blk_frozen BK132.out 0; have hfz28_1 := blk_frozen BK132.out 1) | ((with_reducible refine gate_callee (f := 46) rfl ?_); refine goesL_ (some 36) rfl rfl Tryd.func46 (by kernel_rfl) rfl #[.int .i64 ((rd_T60 t126 x19_1).f1)] rfl lma_ ?_; (with_reducible refine (escape_Text.calls k1 ((rd_T60 t126 x19_1).f1) t134 _ ?side1 A22.out).mono ?_); (case side1 => repeat (first | exact (Kd.C_below HRG0.out HB.out) | (with_reducible refine Kd.C_alloc ?_ _) | (with_reducible refine Kd.C_drewN ?_ _) | (with_reducible refine Kd.C_drew ?_))); rintro e w29 ⟨rfl, hb⟩; refine ⟨_, rfl, ?_⟩; have n0_ := Aside0.mk (Kd.R_below (by (with_reducible repeat (first | apply Kd.R_alloc | apply Kd.R_drewN | apply Kd.R_drew)); exact HO_17.out) hb); have n1_ := Aside0.mk (blk_below (g := gb132) (o := .cells #[.int .i64 ((rd_T60 t126 x19_1).f0), .int .i64 ((rd_T60 t126 x19_1).f1)] 60 (0, 0)) (by exact bkw_ BK132.out) hb); have n2_ := Aside0.mk (below_step (blg_ HB.out GE132.out) hb); clear HO_17; clear BK132; clear HB; have HO_17 := n0_; have BK132 := n1_; have HB := n2_; clear n0_ n1_ n2_; (try clear hb); (try clear hb2); (try clear hk); (try clear hi)))
           go_roundg k1
           case measure => have := HK1.out; omega
           case rel => exact ⟨((x3_1 ++ t133) ++ ((⟨#[45]⟩ : ByteArray) ++ t134)), (wrap64 (x19_1 + 1)), fib_, fib_, H', ⟨by have := HK1.out; omega⟩, ⟨by (with_reducible repeat (first | apply Kd.R_alloc | apply Kd.R_drewN | apply Kd.R_drew)); exact Kd.R_mono HO_17.out (fun _ hk => trivial)⟩, ⟨blg_ HB.out GE132.out⟩⟩
          ·rw [if_neg c24] at H
           exact absurd H (by simp)
         ·rw [if_neg c23] at H
          exact absurd H (by simp)
        ·rw [if_neg c21] at H
         have c21b0 : decide (((rd_T60 t126 x19_1).f0) < ((rd_T60 t126 x19_1).f1)) = false := decide_eq_false c21
         clear c21
         have H' := Aside0.mk H
         clear H
         have p131 : 0 ≤ (x19_1 : Int) := of_decide_eq_true asa_
         have q131 : x19_1 < (t126.length : Int) := of_decide_eq_true asa_
         obtain ⟨ad131, e131, hx131_0, hx131_1⟩ := at_T60 (Kd.R_reads' HO_17.out).2.2 x19_1 p131 q131
         cases e131
         replace p131 := eq_true p131
         replace q131 := eq_true q131
         go_wp2_with (first | ((with_reducible refine gate_dst (N := 5) rfl ?_); refine box_event ?hg (N := 5) ?hd (cs := #[.int .i64 0, .int .i64 0]) (t := 60) ?hr ?_; (case hd => rfl); (case hg => rfl); (case hr => first | (go_simp; done) | (go_simp; rfl)); intro gb132 hg w30 hbox hb; have n0_ := Aside0.mk (Kd.R_below (Kd.R_elderB (by (with_reducible repeat (first | apply Kd.R_alloc | apply Kd.R_drewN | apply Kd.R_drew)); exact HO_17.out) gb132 (Nat.le_of_eq hg.symm)) hb); have n1_ := Aside0.mk (below_step (blw_ HB.out) hb); have n2_ := Aside0.mk (hbox); have n3_ := Aside0.mk ((by rw [hg]; exact (below_size (blw_ HB.out)) : w.heap.size ≤ gb132)); have n4_ := Aside0.mk ((by rw [hg]; exact (below_size (blw_ HB.out)) : w.heap.size ≤ gb132)); clear HO_17; clear HB; have HO_17 := n0_; have HB := n1_; have BK132 := n2_; have GW132 := n3_; have GE132 := n4_; clear n0_ n1_ n2_ n3_ n4_; clear hb hbox hg; have hcz31_0 : w30.cell? ⟨gb132, 0, none⟩ = some (.int .i64 0) := (blk_cell BK132.out 0).trans rfl; have hcz31_1 : w30.cell? ⟨gb132, 1, none⟩ = some (.int .i64 0) := (blk_cell BK132.out 1).trans rfl; have hfz31_0 := blk_frozen BK132.out 0; have hfz31_1 := blk_frozen BK132.out 1) | ((with_reducible refine gate_callee (f := 46) rfl ?_); refine goesL_ (some 26) rfl rfl Tryd.func46 (by kernel_rfl) rfl #[.int .i64 ((rd_T60 t126 x19_1).f0)] rfl lma_ ?_; (with_reducible refine (escape_Text.calls k1 ((rd_T60 t126 x19_1).f0) t133 _ ?side1 A19.out).mono ?_); (case side1 => exact Kd.C_below HRG0.out (blg_ HB.out GE132.out)); rintro e w32 ⟨rfl, hb⟩; refine ⟨_, rfl, ?_⟩; have n0_ := Aside0.mk (Kd.R_below (by (with_reducible repeat (first | apply Kd.R_alloc | apply Kd.R_drewN | apply Kd.R_drew)); exact (Kd.R_mono (Kd.R_far (p := ⟨gb132, 1, none⟩) (Kd.R_far (p := ⟨gb132, 0, none⟩) (Kd.R_mono HO_17.out (fun k_ hk => (⟨hk, hk.2⟩ : _ ∧ k_ ≠ gb132))) (fun _ hk => hk.2) (.int .i64 ((rd_T60 t126 x19_1).f0))) (fun _ hk => hk.2) (.int .i64 ((rd_T60 t126 x19_1).f1))) (fun _ h_ => h_.1))) hb); have n1_ := Aside0.mk (blk_below (g := gb132) (o := .cells #[.int .i64 ((rd_T60 t126 x19_1).f0), .int .i64 ((rd_T60 t126 x19_1).f1)] 60 (0, 0)) (by (with_reducible repeat (first | refine blk_drewN ?_ _ | refine blk_drew ?_ | refine blk_alloc ?_ _)); refine blk_put (cs := #[.int .i64 ((rd_T60 t126 x19_1).f0), .int .i64 0]) ?_ 1 _ rfl; (with_reducible repeat (first | refine blk_drewN ?_ _ | refine blk_drew ?_ | refine blk_alloc ?_ _)); refine blk_put (cs := #[.int .i64 0, .int .i64 0]) ?_ 0 _ rfl; exact bkw_ BK132.out) hb); have n2_ := Aside0.mk (below_step (blg_ HB.out GE132.out) hb); clear HO_17; clear BK132; clear HB; have HO_17 := n0_; have BK132 := n1_; have HB := n2_; clear n0_ n1_ n2_; (try clear hb); (try clear hb2); (try clear hk); (try clear hi); have hcz33_0 : w32.cell? ⟨gb132, 0, none⟩ = some (.int .i64 ((rd_T60 t126 x19_1).f0)) := (blk_cell BK132.out 0).trans rfl; have hcz33_1 : w32.cell? ⟨gb132, 1, none⟩ = some (.int .i64 ((rd_T60 t126 x19_1).f1)) := (blk_cell BK132.out 1).trans rfl; have hfz33_0 := blk_frozen BK132.out 0; have hfz33_1 := blk_frozen BK132.out 1))
         go_roundg k1
         case measure => have := HK1.out; omega
         case rel => exact ⟨(x3_1 ++ t133), (wrap64 (x19_1 + 1)), fib_, fib_, H', ⟨by have := HK1.out; omega⟩, ⟨by (with_reducible repeat (first | apply Kd.R_alloc | apply Kd.R_drewN | apply Kd.R_drew)); exact Kd.R_mono HO_17.out (fun _ hk => trivial)⟩, ⟨blg_ HB.out GE132.out⟩⟩
       ·rw [if_neg c20] at H
        exact absurd H (by simp)
      ·rw [if_neg c18] at H
       exact absurd H (by simp)
     ·rw [if_neg c17] at H
      exact absurd H (by simp)
    ·rw [if_neg c16] at H
     have c16b0 : decide (x19_1 < (t126.length : Int)) = false := decide_eq_false c16
     clear c16
     by_cases c34 : x3_1.size + 1 ≤ 9223372036854775807
     ·rw [if_pos c34] at H
      have c34b0 := eq_true c34
      have c34b1 : decide (x3_1.size + 1 ≤ 9223372036854775807) = true := decide_eq_true c34
      try have c34b2 : (9223372036854775807 < x3_1.size + 1) = False := eq_false (Nat.not_lt.2 c34)
      obtain rfl := Option.some.inj H
      go_wp2
      go_ret
      exact ⟨fia_, blw_ HB.out⟩
     ·rw [if_neg c34] at H
      exact absurd H (by simp)
end Go.Proofs.YtlihkebmonfefaaDoor.PG

-- WRITTEN BY A PROGRAM OF THIS SESSION (patchprint.py over the kit's print)
import Derived.Test.YtifcpamliidabaaDoorHandOp
import Derived.Test.YtifcpamliidabaaDoorHandParse
import Derived.Test.YtifcpamliidabaaDoorHandQuote
import Derived.Test.YtifcpamliidabaaDoorPSx0
import Derived.Test.YtifcpamliidabaaDoorPSx1
import Derived.Test.YtifcpamliidabaaDoorPSx6
import Derived.Test.YtifcpamliidabaaDoorPSx11
import Derived.Test.YtifcpamliidabaaDoorPSx13
import Derived.Test.YtifcpamliidabaaDoorPSx21
namespace Go.Proofs.YtifcpamliidabaaDoor.PS
open Go.RowKit Go.Proofs.YtifcpamliidabaaDoorW.PrintWords Go.Proofs.YtifcpamliidabaaDoorW.PrintLast Go.Proofs.YtifcpamliidabaaDoorW.PrintMore
attribute [local go_sem] max2_int min2_int max_two min_two max_three min_three max_four min_four   -- for this text's walks alone
set_option linter.unusedVariables false
set_option linter.unusedSimpArgs false

open Go.Proofs.YtifcpamliidabaaDoor.HandOp Go.Proofs.YtifcpamliidabaaDoor.HandParse Go.Proofs.YtifcpamliidabaaDoor.HandQuote
attribute [local go_sem high] eqA26
/-! ### spoollaw48_ScriptQuotes: function 5 -/
mutual
def spoollaw48_ScriptQuotes.j0 : Nat → ByteArray → ByteArray → Int → Bool → Option (Bool)
 | 0, _, _, _, _ => none
 | k + 1, x0, x1, x2, x27 => if x27 = true then ((spoollaw48_alive.f k).bind fun t355 => (some t355)) else ((script_Quote.f x0).bind fun t356 => (spoollaw48_ScriptQuotes.l0 k x0 x1 x2 t356 (t356.size : Int) 0))
def spoollaw48_ScriptQuotes.l0 : Nat → ByteArray → ByteArray → Int → ByteArray → Int → Int → Option (Bool)
 | 0, _, _, _, _, _, _ => none
 | k + 1, x0, x1, x2, x7, x32, x33 => if x33 < x32 then (if 0 ≤ x33 then (if x33 < (x7.size : Int) then (if (bt x7 x33) < 32 then (some false) else (if (bt x7 x33) > 126 then (some false) else (spoollaw48_ScriptQuotes.l0 k x0 x1 x2 x7 x32 (wrap64 (x33 + 1))))) else (none)) else (none)) else (if x7.size + x1.size ≤ 9223372036854775807 then ((script_Unquote.f k (x7 ++ x1) 0).bind fun bt357 => ((spoolref48_Quote.f k x0).bind fun t362 => (if x7.toList = t362.toList then (if bt357.2.2.1 = 0 then (if bt357.1.toList = x0.toList then (spoollaw48_ScriptQuotes.j2 k x0 x1 x2 (bt357.2.1 != (x7.size : Int))) else (spoollaw48_ScriptQuotes.j2 k x0 x1 x2 true)) else (spoollaw48_ScriptQuotes.j2 k x0 x1 x2 true)) else (spoollaw48_ScriptQuotes.j2 k x0 x1 x2 true)))) else (none))
def spoollaw48_ScriptQuotes.j2 : Nat → ByteArray → ByteArray → Int → Bool → Option (Bool)
 | 0, _, _, _, _ => none
 | k + 1, x0, x1, x2, x74 => if x74 = true then (some false) else ((script_Unquote.f k x1 (wrap64 (x2))).bind fun bt363 => ((spoolref48_Unquote.f k x1 (wrap64 (x2))).bind fun bt367 => (if bt367.2.2 ≥ 0 then ((script_Unquote.f k x0 (-1)).bind fun bt371 => (if bt363.1.toList = bt367.1.toList then (if bt363.2.1 = bt367.2.1 then (if (bt363.2.2.1 == 3 && (bt363.2.2.2 == bt367.2.2)) = true then (if (bt371.2.2.1 == 3 && (bt371.2.2.2 == (-1))) = true then ((spoollaw48_alive.f k).bind fun t376 => (some t376)) else (some false)) else (some false)) else (some false)) else (some false))) else ((script_Unquote.f k x0 (-1)).bind fun bt377 => (if bt363.1.toList = bt367.1.toList then (if bt363.2.1 = bt367.2.1 then (if (bt363.2.2.1 == 0 && (bt363.2.2.2 == 0)) = true then (if (bt377.2.2.1 == 3 && (bt377.2.2.2 == (-1))) = true then ((spoollaw48_alive.f k).bind fun t382 => (some t382)) else (some false)) else (some false)) else (some false)) else (some false))))))
end
def spoollaw48_ScriptQuotes.f (k : Nat) (a0 : ByteArray) (a1 : ByteArray) (a2 : Int) : Option (Bool) := if (a0.size : Int) > 200 then (spoollaw48_ScriptQuotes.j0 k a0 a1 a2 true) else (spoollaw48_ScriptQuotes.j0 k a0 a1 a2 (decide ((a1.size : Int) > 200)))
theorem spoollaw48_ScriptQuotes.mono_l : ∀ k, (∀ y0 y1 y2 y3, LeO (spoollaw48_ScriptQuotes.j0 k y0 y1 y2 y3) (spoollaw48_ScriptQuotes.j0 (k + 1) y0 y1 y2 y3)) ∧ (∀ y0 y1 y2 y3 y4 y5, LeO (spoollaw48_ScriptQuotes.l0 k y0 y1 y2 y3 y4 y5) (spoollaw48_ScriptQuotes.l0 (k + 1) y0 y1 y2 y3 y4 y5)) ∧ (∀ y0 y1 y2 y3, LeO (spoollaw48_ScriptQuotes.j2 k y0 y1 y2 y3) (spoollaw48_ScriptQuotes.j2 (k + 1) y0 y1 y2 y3))
 | 0 => ⟨fun _ _ _ _ r h => by simp [spoollaw48_ScriptQuotes.j0] at h, fun _ _ _ _ _ _ r h => by simp [spoollaw48_ScriptQuotes.l0] at h, fun _ _ _ _ r h => by simp [spoollaw48_ScriptQuotes.j2] at h⟩
 | k + 1 => by
  obtain ⟨ih0, ih1, ih2⟩ := spoollaw48_ScriptQuotes.mono_l k
  refine ⟨?_, ?_, ?_⟩
  ·intro y0 y1 y2 y3
   unfold spoollaw48_ScriptQuotes.j0
   repeat' first
   | (with_reducible exact ih0 _ _ _ _)
   | (with_reducible exact ih1 _ _ _ _ _ _)
   | (with_reducible exact ih2 _ _ _ _)
   | (with_reducible exact script_Unquote.mono _ _ _)
   | (with_reducible exact spoollaw48_alive.mono _)
   | (with_reducible exact spoolref48_Quote.mono _ _)
   | (with_reducible exact spoolref48_Unquote.mono _ _ _)
   | (with_reducible exact LeO.refl _)
   | (with_reducible exact LeO.none _)
   | (with_reducible refine LeO.ite ?_ ?_)
   | (with_reducible refine LeO.bind ?_ (fun _ => ?_))
   | exact ih0 _ _ _ _
   | exact ih1 _ _ _ _ _ _
   | exact ih2 _ _ _ _
   | exact script_Unquote.mono _ _ _
   | exact spoollaw48_alive.mono _
   | exact spoolref48_Quote.mono _ _
   | exact spoolref48_Unquote.mono _ _ _
   | exact LeO.none _
   | refine LeO.ite ?_ ?_
   | refine LeO.bind ?_ (fun _ => ?_)
  ·intro y0 y1 y2 y3 y4 y5
   unfold spoollaw48_ScriptQuotes.l0
   repeat' first
   | (with_reducible exact ih0 _ _ _ _)
   | (with_reducible exact ih1 _ _ _ _ _ _)
   | (with_reducible exact ih2 _ _ _ _)
   | (with_reducible exact script_Unquote.mono _ _ _)
   | (with_reducible exact spoollaw48_alive.mono _)
   | (with_reducible exact spoolref48_Quote.mono _ _)
   | (with_reducible exact spoolref48_Unquote.mono _ _ _)
   | (with_reducible exact LeO.refl _)
   | (with_reducible exact LeO.none _)
   | (with_reducible refine LeO.ite ?_ ?_)
   | (with_reducible refine LeO.bind ?_ (fun _ => ?_))
   | exact ih0 _ _ _ _
   | exact ih1 _ _ _ _ _ _
   | exact ih2 _ _ _ _
   | exact script_Unquote.mono _ _ _
   | exact spoollaw48_alive.mono _
   | exact spoolref48_Quote.mono _ _
   | exact spoolref48_Unquote.mono _ _ _
   | exact LeO.none _
   | refine LeO.ite ?_ ?_
   | refine LeO.bind ?_ (fun _ => ?_)
  ·intro y0 y1 y2 y3
   unfold spoollaw48_ScriptQuotes.j2
   repeat' first
   | (with_reducible exact ih0 _ _ _ _)
   | (with_reducible exact ih1 _ _ _ _ _ _)
   | (with_reducible exact ih2 _ _ _ _)
   | (with_reducible exact script_Unquote.mono _ _ _)
   | (with_reducible exact spoollaw48_alive.mono _)
   | (with_reducible exact spoolref48_Quote.mono _ _)
   | (with_reducible exact spoolref48_Unquote.mono _ _ _)
   | (with_reducible exact LeO.refl _)
   | (with_reducible exact LeO.none _)
   | (with_reducible refine LeO.ite ?_ ?_)
   | (with_reducible refine LeO.bind ?_ (fun _ => ?_))
   | exact ih0 _ _ _ _
   | exact ih1 _ _ _ _ _ _
   | exact ih2 _ _ _ _
   | exact script_Unquote.mono _ _ _
   | exact spoollaw48_alive.mono _
   | exact spoolref48_Quote.mono _ _
   | exact spoolref48_Unquote.mono _ _ _
   | exact LeO.none _
   | refine LeO.ite ?_ ?_
   | refine LeO.bind ?_ (fun _ => ?_)
theorem spoollaw48_ScriptQuotes.mono : ∀ a0 a1 a2 k, LeO (spoollaw48_ScriptQuotes.f k a0 a1 a2) (spoollaw48_ScriptQuotes.f (k + 1) a0 a1 a2) := by
 intro a0 a1 a2 k
 obtain ⟨ih0, ih1, ih2⟩ := spoollaw48_ScriptQuotes.mono_l k
 unfold spoollaw48_ScriptQuotes.f
 repeat' first
   | (with_reducible exact ih0 _ _ _ _)
   | (with_reducible exact ih1 _ _ _ _ _ _)
   | (with_reducible exact ih2 _ _ _ _)
   | (with_reducible exact script_Unquote.mono _ _ _)
   | (with_reducible exact spoollaw48_alive.mono _)
   | (with_reducible exact spoolref48_Quote.mono _ _)
   | (with_reducible exact spoolref48_Unquote.mono _ _ _)
   | (with_reducible exact LeO.refl _)
   | (with_reducible exact LeO.none _)
   | (with_reducible refine LeO.ite ?_ ?_)
   | (with_reducible refine LeO.bind ?_ (fun _ => ?_))
   | exact ih0 _ _ _ _
   | exact ih1 _ _ _ _ _ _
   | exact ih2 _ _ _ _
   | exact script_Unquote.mono _ _ _
   | exact spoollaw48_alive.mono _
   | exact spoolref48_Quote.mono _ _
   | exact spoolref48_Unquote.mono _ _ _
   | exact LeO.none _
   | refine LeO.ite ?_ ?_
   | refine LeO.bind ?_ (fun _ => ?_)
set_option maxHeartbeats 8000000 in
set_option maxRecDepth 100000 in
theorem spoollaw48_ScriptQuotes.calls (k : Nat) (a0 : ByteArray) (a1 : ByteArray) (a2 : Int) (r : Bool) (w : World) (hrG0 : Kd.C Kd.string w (some ⟨0, 0, none⟩) tab_script_names.length tab_script_names) (hrG1 : Kd.C Kd.string w (some ⟨1, 0, none⟩) tab_script_heads.length tab_script_heads) (hrG2 : Kd.C (Kd.int .u8) w (some ⟨2, 0, none⟩) tab_digit_signs.length tab_digit_signs) (h : spoollaw48_ScriptQuotes.f k a0 a1 a2 = some r) :
  Calls Tryd.prog 5 #[.string a0, .string a1, .int .u8 a2] w fun e w' => e = .returned (.bool r) ∧ Below w.heap.size w w' := by
 have hu26 := Tryd.underlying26
 have HRG0 := Aside0.mk hrG0
 clear hrG0
 have HRG1 := Aside0.mk hrG1
 clear hrG1
 have HRG2 := Aside0.mk hrG2
 clear hrG2
 have HB := Aside0.mk (Below.refl w.heap.size w)
 have H : (if (a0.size : Int) > 200 then (spoollaw48_ScriptQuotes.j0 k a0 a1 a2 true) else (spoollaw48_ScriptQuotes.j0 k a0 a1 a2 (decide ((a1.size : Int) > 200)))) = some r := h
 clear h
 have HC4 := Aside0.mk H
 clear H
 go_enter Tryd.func5, Tryd.ntmps5
 go_upto_region 1 with (fail)
 go_cut [27] (fun v27 wc => ∃ (kq : Nat) (x27_3 : Bool), v27 = .bool x27_3 ∧ Aside0 (spoollaw48_ScriptQuotes.j0 kq a0 a1 a2 x27_3 = some r) ∧ Aside0 (kq ≤ k) ∧ Aside0 (Below w.heap.size w wc))
 case first =>
  have H := HC4.out
  clear HC4
  by_cases c5 : (a0.size : Int) > 200
  ·rw [if_pos c5] at H
   have c5b0 : decide (200 < (a0.size : Int)) = true := decide_eq_true c5
   have c5b1 : decide (200 < a0.size) = true := decide_eq_true (by omega)
   clear c5
   (first | rw [c5b0] | (simp only [i64_w, i32_w]; rw [c5b0]) | skip)
   have H' := Aside0.mk H
   clear H
   go_wp2
   go_meet
   case rel => exact ⟨_, (true), fib_, H', ⟨by first | omega | exact Nat.le_refl _⟩, ⟨blw_ HB.out⟩⟩
  ·rw [if_neg c5] at H
   have c5b0 : decide (200 < (a0.size : Int)) = false := decide_eq_false c5
   have c5b1 : decide (200 < a0.size) = false := decide_eq_false (by omega)
   clear c5
   (first | rw [c5b0] | (simp only [i64_w, i32_w]; rw [c5b0]) | skip)
   have H' := Aside0.mk H
   clear H
   go_wp2
   go_meet
   case rel => exact ⟨_, (decide ((a1.size : Int) > 200)), fib_, H', ⟨by first | omega | exact Nat.le_refl _⟩, ⟨blw_ HB.out⟩⟩
 case rest =>
  clear HC4
  try clear p2
  try clear c5
  try clear c5b0
  try clear c5b1
  obtain ⟨kq, x27_3, rfl, HA, HJ3, HB⟩ := hcut
  cases kq with
  | zero => exact absurd HA.out (by simp [spoollaw48_ScriptQuotes.j0])
  | succ kj3 =>
   have H := HA.out
   clear HA
   simp only [spoollaw48_ScriptQuotes.j0] at H
   by_cases c6 : x27_3 = true
   ·subst c6
    have H1 : ((spoollaw48_alive.f kj3).bind fun t355 => (some t355)) = some r := by rw [if_pos rfl] at H; exact H
    clear H
    have H := H1
    clear H1
    replace H := Option.bind_eq_some_iff.mp H
    obtain ⟨t355, A70, H⟩ := H
    replace H : (some t355) = some r := H
    have A7 := Aside0.mk A70
    clear A70
    obtain rfl := Option.some.inj H
    go_wp2_with (first | ((with_reducible refine gate_callee (f := 8) rfl ?_); refine goesL_ (some 28) rfl rfl Tryd.func8 (by kernel_rfl) rfl #[] rfl lma_ ?_; (with_reducible refine (spoollaw48_alive.calls kj3  t355 _ ?side1 ?side2 ?side3 A7.out).mono ?_); (case side1 => repeat (first | exact (Kd.C_below HRG0.out HB.out) | (with_reducible refine Kd.C_alloc ?_ _) | (with_reducible refine Kd.C_drewN ?_ _) | (with_reducible refine Kd.C_drew ?_))); (case side2 => repeat (first | exact (Kd.C_below HRG1.out HB.out) | (with_reducible refine Kd.C_alloc ?_ _) | (with_reducible refine Kd.C_drewN ?_ _) | (with_reducible refine Kd.C_drew ?_))); (case side3 => repeat (first | exact (Kd.C_below HRG2.out HB.out) | (with_reducible refine Kd.C_alloc ?_ _) | (with_reducible refine Kd.C_drewN ?_ _) | (with_reducible refine Kd.C_drew ?_))); rintro e w8 ⟨rfl, hb⟩; refine ⟨_, rfl, ?_⟩; have n0_ := Aside0.mk (below_step (blw_ HB.out) hb); clear HB; have HB := n0_; clear n0_; (try clear hb); (try clear hb2); (try clear hk); (try clear hi)))
    go_ret
    exact ⟨fia_, blw_ HB.out⟩
   ·replace c6 := Bool.eq_false_iff.mpr c6
    subst c6
    have H1 : ((script_Quote.f a0).bind fun t356 => (spoollaw48_ScriptQuotes.l0 kj3 a0 a1 a2 t356 (t356.size : Int) 0)) = some r := by rw [if_neg (show ¬ (false = true) by decide)] at H; exact H
    clear H
    have H := H1
    clear H1
    replace H := Option.bind_eq_some_iff.mp H
    obtain ⟨t356, A90, H⟩ := H
    replace H : (spoollaw48_ScriptQuotes.l0 kj3 a0 a1 a2 t356 (t356.size : Int) 0) = some r := H
    have A9 := Aside0.mk A90
    clear A90
    have H' := Aside0.mk H
    clear H
    go_wp2_with (first | ((with_reducible refine gate_callee (f := 14) rfl ?_); refine goesL_ (some 30) rfl rfl Tryd.func14 (by kernel_rfl) rfl #[.string a0] rfl lma_ ?_; (with_reducible refine (script_Quote.calls a0 t356 _ ?side1 A9.out).mono ?_); (case side1 => repeat (first | exact (Kd.C_below HRG2.out HB.out) | (with_reducible refine Kd.C_alloc ?_ _) | (with_reducible refine Kd.C_drewN ?_ _) | (with_reducible refine Kd.C_drew ?_))); rintro e w10 ⟨rfl, hb⟩; refine ⟨_, rfl, ?_⟩; have n0_ := Aside0.mk (below_step (blw_ HB.out) hb); clear HB; have HB := n0_; clear n0_; (try clear hb); (try clear hb2); (try clear hk); (try clear hi)))
    go_loopg [33] kj3 (fun kq v33 w' => ∃ (x33_2 : Int), v33 = .int .i64 x33_2 ∧ Aside0 (spoollaw48_ScriptQuotes.l0 kq a0 a1 a2 t356 (t356.size : Int) x33_2 = some r) ∧ Aside0 (kq ≤ kj3) ∧ Aside0 (Below w.heap.size w w'))
    case atStart => exact ⟨(0), fib_, H', ⟨Nat.le_refl _⟩, ⟨blw_ HB.out⟩⟩
    case round =>
     clear H'
     try clear c1
     try clear p2
     try clear c5
     try clear c5b0
     try clear c5b1
     try clear c6
     try clear c8
     try clear p2
     obtain ⟨x33_2, rfl, HA, HK2, HB⟩ := hrel
     cases gk with
     | zero => exact absurd HA.out (by simp [spoollaw48_ScriptQuotes.l0])
     | succ k2 =>
      have H := HA.out
      clear HA
      simp only [spoollaw48_ScriptQuotes.l0] at H
      by_cases c11 : x33_2 < (t356.size : Int)
      ·rw [if_pos c11] at H
       have c11b0 : decide (x33_2 < (t356.size : Int)) = true := decide_eq_true c11
       clear c11
       by_cases c12 : 0 ≤ x33_2
       ·rw [if_pos c12] at H
        have c12b0 : decide (0 ≤ x33_2) = true := decide_eq_true c12
        clear c12
        by_cases c13 : x33_2 < (t356.size : Int)
        ·rw [if_pos c13] at H
         have c13b0 : decide (x33_2 < (t356.size : Int)) = true := decide_eq_true c13
         clear c13
         by_cases c15 : (bt t356 x33_2) < 32
         ·rw [if_pos c15] at H
          have c15b0 : decide ((bt t356 x33_2) < 32) = true := decide_eq_true c15
          clear c15
          obtain rfl := Option.some.inj H
          have p14 : 0 ≤ (x33_2 : Int) := of_decide_eq_true asa_
          have q14 : x33_2 < (t356.size : Int) := of_decide_eq_true asa_
          have hx14 := bt_at t356 x33_2
          replace p14 := eq_true p14
          replace q14 := eq_true q14
          go_wp2
          go_ret
          exact ⟨fia_, blw_ HB.out⟩
         ·rw [if_neg c15] at H
          have c15b0 : decide ((bt t356 x33_2) < 32) = false := decide_eq_false c15
          clear c15
          by_cases c17 : (bt t356 x33_2) > 126
          ·rw [if_pos c17] at H
           have c17b0 : decide (126 < (bt t356 x33_2)) = true := decide_eq_true c17
           clear c17
           obtain rfl := Option.some.inj H
           have p14 : 0 ≤ (x33_2 : Int) := of_decide_eq_true asa_
           have q14 : x33_2 < (t356.size : Int) := of_decide_eq_true asa_
           have hx14 := bt_at t356 x33_2
           replace p14 := eq_true p14
           replace q14 := eq_true q14
           have p16 : 0 ≤ (x33_2 : Int) := of_decide_eq_true asa_
           have q16 : x33_2 < (t356.size : Int) := of_decide_eq_true asa_
           have hx16 := bt_at t356 x33_2
           replace p16 := eq_true p16
           replace q16 := eq_true q16
           go_wp2
           go_ret
           exact ⟨fia_, blw_ HB.out⟩
          ·rw [if_neg c17] at H
           have c17b0 : decide (126 < (bt t356 x33_2)) = false := decide_eq_false c17
           clear c17
           have H' := Aside0.mk H
           clear H
           have p14 : 0 ≤ (x33_2 : Int) := of_decide_eq_true asa_
           have q14 : x33_2 < (t356.size : Int) := of_decide_eq_true asa_
           have hx14 := bt_at t356 x33_2
           replace p14 := eq_true p14
           replace q14 := eq_true q14
           have p16 : 0 ≤ (x33_2 : Int) := of_decide_eq_true asa_
           have q16 : x33_2 < (t356.size : Int) := of_decide_eq_true asa_
           have hx16 := bt_at t356 x33_2
           replace p16 := eq_true p16
           replace q16 := eq_true q16
           go_wp2
           go_roundg k2
           case measure => have := HJ3.out; have := HK2.out; omega
           case rel => exact ⟨(wrap64 (x33_2 + 1)), fib_, H', ⟨by have := HJ3.out; have := HK2.out; omega⟩, ⟨blw_ HB.out⟩⟩
        ·rw [if_neg c13] at H
         exact absurd H (by simp)
       ·rw [if_neg c12] at H
        exact absurd H (by simp)
      ·rw [if_neg c11] at H
       have c11b0 : decide (x33_2 < (t356.size : Int)) = false := decide_eq_false c11
       clear c11
       by_cases c18 : t356.size + a1.size ≤ 9223372036854775807
       ·rw [if_pos c18] at H
        have c18b0 := eq_true c18
        have c18b1 : decide (t356.size + a1.size ≤ 9223372036854775807) = true := decide_eq_true c18
        try have c18b2 : (9223372036854775807 < t356.size + a1.size) = False := eq_false (Nat.not_lt.2 c18)
        replace H := Option.bind_eq_some_iff.mp H
        obtain ⟨⟨t357, t358, t359, t360⟩, A190, H⟩ := H
        replace H : ((spoolref48_Quote.f k2 a0).bind fun t362 => (if t356.toList = t362.toList then (if t359 = 0 then (if t357.toList = a0.toList then (spoollaw48_ScriptQuotes.j2 k2 a0 a1 a2 (t358 != (t356.size : Int))) else (spoollaw48_ScriptQuotes.j2 k2 a0 a1 a2 true)) else (spoollaw48_ScriptQuotes.j2 k2 a0 a1 a2 true)) else (spoollaw48_ScriptQuotes.j2 k2 a0 a1 a2 true))) = some r := H
        have A19 := Aside0.mk A190
        clear A190
        have HC20 := Aside0.mk H
        clear H
        go_upto_region 11 with (first | ((with_reducible refine gate_callee (f := 15) rfl ?_); refine goesL_ (some 51) rfl rfl Tryd.func15 (by kernel_rfl) rfl #[.string (t356 ++ a1), .int .i64 0] rfl lma_ ?_; (with_reducible refine (script_Unquote.calls k2 (t356 ++ a1) 0 t357 t358 t359 t360 _ A19.out).mono ?_); rintro e w21 ⟨rfl, hb⟩; refine ⟨_, rfl, ?_⟩; have n0_ := Aside0.mk (below_step (blw_ HB.out) hb); clear HB; have HB := n0_; clear n0_; (try clear hb); (try clear hb2); (try clear hk); (try clear hi)) | ((with_reducible refine gate_dst (N := 11) rfl ?_); (try (refine gate_guard (by rfl) ?_; dsimp only)); refine box_event ?hg (N := 11) ?hd (cs := #[.int .i64 0, .int .i64 0]) (t := 26) ?hr ?_; (case hd => rfl); (case hg => rfl); (case hr => first | (go_simp; done) | (go_simp; rfl)); intro gb361 hg w22 hbox hb; have n0_ := Aside0.mk (below_step (blw_ HB.out) hb); have n1_ := Aside0.mk (hbox); have n2_ := Aside0.mk ((by rw [hg]; exact (below_size (blw_ HB.out)) : w.heap.size ≤ gb361)); have n3_ := Aside0.mk ((by rw [hg]; exact (below_size (blw_ HB.out)) : w.heap.size ≤ gb361)); clear HB; have HB := n0_; have BK361 := n1_; have GW361 := n2_; have GE361 := n3_; clear n0_ n1_ n2_ n3_; clear hb hbox hg; have hcz23_0 : w22.cell? ⟨gb361, 0, none⟩ = some (.int .i64 0) := (blk_cell BK361.out 0).trans rfl; have hcz23_1 : w22.cell? ⟨gb361, 1, none⟩ = some (.int .i64 0) := (blk_cell BK361.out 1).trans rfl; have hfz23_0 := blk_frozen BK361.out 0; have hfz23_1 := blk_frozen BK361.out 1))
        (try simp only [Act.put, List.setIfInBounds_toArray, List.set_cons_zero, List.set_cons_succ])
        go_cut [74] (fun v74 wc => ∃ (kq : Nat) (x74_19 : Bool), v74 = .bool x74_19 ∧ Aside0 (spoollaw48_ScriptQuotes.j2 kq a0 a1 a2 x74_19 = some r) ∧ Aside0 (kq ≤ k2) ∧ Aside0 (wc.heap[gb361]? = some (.cells #[.int .i64 t359, .int .i64 t360] 26 (0, 0))) ∧ Aside0 (Below w.heap.size w wc))
        case first =>
         have H := HC20.out
         clear HC20
         replace H := Option.bind_eq_some_iff.mp H
         obtain ⟨t362, A240, H⟩ := H
         replace H : (if t356.toList = t362.toList then (if t359 = 0 then (if t357.toList = a0.toList then (spoollaw48_ScriptQuotes.j2 k2 a0 a1 a2 (t358 != (t356.size : Int))) else (spoollaw48_ScriptQuotes.j2 k2 a0 a1 a2 true)) else (spoollaw48_ScriptQuotes.j2 k2 a0 a1 a2 true)) else (spoollaw48_ScriptQuotes.j2 k2 a0 a1 a2 true)) = some r := H
         have A24 := Aside0.mk A240
         clear A240
         by_cases c25 : t356.toList = t362.toList
         ·rw [if_pos c25] at H
          have c25b0 : (t356.toList == t362.toList) = true := beq_iff_eq.mpr c25
          have c25b1 : (t356.toList != t362.toList) = false := bne_eq_false_iff_eq.mpr c25
          clear c25
          (first | rw [c25b0] | (simp only [i64_w, i32_w]; rw [c25b0]) | skip)
          by_cases c26 : t359 = 0
          ·rw [if_pos c26] at H
           have c26b0 : (t359 == 0) = true := beq_iff_eq.mpr c26
           have c26b1 : (t359 != 0) = false := bne_eq_false_iff_eq.mpr c26
           clear c26
           by_cases c27 : t357.toList = a0.toList
           ·rw [if_pos c27] at H
            have c27b0 : (t357.toList == a0.toList) = true := beq_iff_eq.mpr c27
            have c27b1 : (t357.toList != a0.toList) = false := bne_eq_false_iff_eq.mpr c27
            clear c27
            have H' := Aside0.mk H
            clear H
            go_wp2_with (first | ((with_reducible refine gate_callee (f := 16) rfl ?_); refine goesL_ (some 57) rfl rfl Tryd.func16 (by kernel_rfl) rfl #[.string a0] rfl lma_ ?_; (with_reducible refine (spoolref48_Quote.calls k2 a0 t362 _ A24.out).mono ?_); rintro e w' ⟨rfl, ⟨nd, rfl⟩⟩; refine ⟨_, rfl, ?_⟩; have hcz28_0 : w22.cell? ⟨gb361, 0, none⟩ = some (.int .i64 0) := (blk_cell BK361.out 0).trans rfl; have hcz28_1 : w22.cell? ⟨gb361, 1, none⟩ = some (.int .i64 0) := (blk_cell BK361.out 1).trans rfl; have hfz28_0 := blk_frozen BK361.out 0; have hfz28_1 := blk_frozen BK361.out 1))
            go_meet
            case rel => exact ⟨_, ((t358 != (t356.size : Int))), fib_, H', ⟨by have := HJ3.out; have := HK2.out; first | omega | exact Nat.le_refl _⟩, ⟨by (with_reducible repeat (first | refine blk_drewN ?_ _ | refine blk_drew ?_ | refine blk_alloc ?_ _)); refine blk_put (cs := #[.int .i64 t359, .int .i64 0]) ?_ 1 _ rfl; (with_reducible repeat (first | refine blk_drewN ?_ _ | refine blk_drew ?_ | refine blk_alloc ?_ _)); refine blk_put (cs := #[.int .i64 0, .int .i64 0]) ?_ 0 _ rfl; exact bkw_ BK361.out⟩, ⟨blg_ HB.out GE361.out⟩⟩
           ·rw [if_neg c27] at H
            have c27b0 : (t357.toList == a0.toList) = false := beq_eq_false_iff_ne.mpr c27
            have c27b1 : (t357.toList != a0.toList) = true := bne_iff_ne.mpr c27
            have H' := Aside0.mk H
            clear H
            go_wp2_with (first | ((with_reducible refine gate_callee (f := 16) rfl ?_); refine goesL_ (some 57) rfl rfl Tryd.func16 (by kernel_rfl) rfl #[.string a0] rfl lma_ ?_; (with_reducible refine (spoolref48_Quote.calls k2 a0 t362 _ A24.out).mono ?_); rintro e w' ⟨rfl, ⟨nd, rfl⟩⟩; refine ⟨_, rfl, ?_⟩; have hcz29_0 : w22.cell? ⟨gb361, 0, none⟩ = some (.int .i64 0) := (blk_cell BK361.out 0).trans rfl; have hcz29_1 : w22.cell? ⟨gb361, 1, none⟩ = some (.int .i64 0) := (blk_cell BK361.out 1).trans rfl; have hfz29_0 := blk_frozen BK361.out 0; have hfz29_1 := blk_frozen BK361.out 1))
            go_meet
            case rel => exact ⟨_, (true), fib_, H', ⟨by have := HJ3.out; have := HK2.out; first | omega | exact Nat.le_refl _⟩, ⟨by (with_reducible repeat (first | refine blk_drewN ?_ _ | refine blk_drew ?_ | refine blk_alloc ?_ _)); refine blk_put (cs := #[.int .i64 t359, .int .i64 0]) ?_ 1 _ rfl; (with_reducible repeat (first | refine blk_drewN ?_ _ | refine blk_drew ?_ | refine blk_alloc ?_ _)); refine blk_put (cs := #[.int .i64 0, .int .i64 0]) ?_ 0 _ rfl; exact bkw_ BK361.out⟩, ⟨blg_ HB.out GE361.out⟩⟩
          ·rw [if_neg c26] at H
           have c26b0 : (t359 == 0) = false := beq_eq_false_iff_ne.mpr c26
           have c26b1 : (t359 != 0) = true := bne_iff_ne.mpr c26
           have H' := Aside0.mk H
           clear H
           go_wp2_with (first | ((with_reducible refine gate_callee (f := 16) rfl ?_); refine goesL_ (some 57) rfl rfl Tryd.func16 (by kernel_rfl) rfl #[.string a0] rfl lma_ ?_; (with_reducible refine (spoolref48_Quote.calls k2 a0 t362 _ A24.out).mono ?_); rintro e w' ⟨rfl, ⟨nd, rfl⟩⟩; refine ⟨_, rfl, ?_⟩; have hcz30_0 : w22.cell? ⟨gb361, 0, none⟩ = some (.int .i64 0) := (blk_cell BK361.out 0).trans rfl; have hcz30_1 : w22.cell? ⟨gb361, 1, none⟩ = some (.int .i64 0) := (blk_cell BK361.out 1).trans rfl; have hfz30_0 := blk_frozen BK361.out 0; have hfz30_1 := blk_frozen BK361.out 1))
           go_meet
           case rel => exact ⟨_, (true), fib_, H', ⟨by have := HJ3.out; have := HK2.out; first | omega | exact Nat.le_refl _⟩, ⟨by (with_reducible repeat (first | refine blk_drewN ?_ _ | refine blk_drew ?_ | refine blk_alloc ?_ _)); refine blk_put (cs := #[.int .i64 t359, .int .i64 0]) ?_ 1 _ rfl; (with_reducible repeat (first | refine blk_drewN ?_ _ | refine blk_drew ?_ | refine blk_alloc ?_ _)); refine blk_put (cs := #[.int .i64 0, .int .i64 0]) ?_ 0 _ rfl; exact bkw_ BK361.out⟩, ⟨blg_ HB.out GE361.out⟩⟩
         ·rw [if_neg c25] at H
          have c25b0 : (t356.toList == t362.toList) = false := beq_eq_false_iff_ne.mpr c25
          have c25b1 : (t356.toList != t362.toList) = true := bne_iff_ne.mpr c25
          (first | rw [c25b0] | (simp only [i64_w, i32_w]; rw [c25b0]) | skip)
          have H' := Aside0.mk H
          clear H
          go_wp2_with (first | ((with_reducible refine gate_callee (f := 16) rfl ?_); refine goesL_ (some 57) rfl rfl Tryd.func16 (by kernel_rfl) rfl #[.string a0] rfl lma_ ?_; (with_reducible refine (spoolref48_Quote.calls k2 a0 t362 _ A24.out).mono ?_); rintro e w' ⟨rfl, ⟨nd, rfl⟩⟩; refine ⟨_, rfl, ?_⟩))
          go_meet
          case rel => exact ⟨_, (true), fib_, H', ⟨by have := HJ3.out; have := HK2.out; first | omega | exact Nat.le_refl _⟩, ⟨by (with_reducible repeat (first | refine blk_drewN ?_ _ | refine blk_drew ?_ | refine blk_alloc ?_ _)); refine blk_put (cs := #[.int .i64 t359, .int .i64 0]) ?_ 1 _ rfl; (with_reducible repeat (first | refine blk_drewN ?_ _ | refine blk_drew ?_ | refine blk_alloc ?_ _)); refine blk_put (cs := #[.int .i64 0, .int .i64 0]) ?_ 0 _ rfl; exact bkw_ BK361.out⟩, ⟨blg_ HB.out GE361.out⟩⟩
        case rest =>
         clear HC20
         try clear c1
         try clear p1
         try clear q1
         try clear hx1
         try clear c2
         try clear p2
         try clear c5
         try clear c5b0
         try clear c5b1
         try clear c6
         try clear p6
         try clear c8
         try clear c11
         try clear c11b0
         try clear c12
         try clear c12b0
         try clear c13
         try clear c13b0
         try clear c14
         try clear p14
         try clear q14
         try clear hx14
         try clear c15
         try clear c15b0
         try clear c16
         try clear p16
         try clear q16
         try clear hx16
         try clear c17
         try clear c17b0
         try clear c18
         try clear c18b0
         try clear c18b1
         try clear c18b2
         try clear c25
         try clear c25b0
         try clear c25b1
         try clear c26
         try clear c26b0
         try clear c26b1
         try clear c27
         try clear c27b0
         try clear c27b1
         try clear hcz23_0
         try clear hcz23_1
         try clear hcz28_0
         try clear hcz28_1
         try clear hcz29_0
         try clear hcz29_1
         try clear hcz30_0
         try clear hcz30_1
         try clear hfz23_0
         try clear hfz23_1
         try clear hfz28_0
         try clear hfz28_1
         try clear hfz29_0
         try clear hfz29_1
         try clear hfz30_0
         try clear hfz30_1
         try clear p14
         try clear p16
         try clear p2
         try clear q14
         try clear q16
         obtain ⟨kq, x74_19, rfl, HA, HJ19, BK361, HB⟩ := hcut
         cases kq with
         | zero => exact absurd HA.out (by simp [spoollaw48_ScriptQuotes.j2])
         | succ kj19 =>
          have H := HA.out
          clear HA
          simp only [spoollaw48_ScriptQuotes.j2] at H
          by_cases c31 : x74_19 = true
          ·subst c31
           have H1 : (some false) = some r := by rw [if_pos rfl] at H; exact H
           clear H
           have H := H1
           clear H1
           obtain rfl := Option.some.inj H
           go_wp2
           go_ret
           exact ⟨fia_, blg_ HB.out GE361.out⟩
          ·replace c31 := Bool.eq_false_iff.mpr c31
           subst c31
           have H1 : ((script_Unquote.f kj19 a1 (wrap64 (a2))).bind fun bt363 => ((spoolref48_Unquote.f kj19 a1 (wrap64 (a2))).bind fun bt367 => (if bt367.2.2 ≥ 0 then ((script_Unquote.f kj19 a0 (-1)).bind fun bt371 => (if bt363.1.toList = bt367.1.toList then (if bt363.2.1 = bt367.2.1 then (if (bt363.2.2.1 == 3 && (bt363.2.2.2 == bt367.2.2)) = true then (if (bt371.2.2.1 == 3 && (bt371.2.2.2 == (-1))) = true then ((spoollaw48_alive.f kj19).bind fun t376 => (some t376)) else (some false)) else (some false)) else (some false)) else (some false))) else ((script_Unquote.f kj19 a0 (-1)).bind fun bt377 => (if bt363.1.toList = bt367.1.toList then (if bt363.2.1 = bt367.2.1 then (if (bt363.2.2.1 == 0 && (bt363.2.2.2 == 0)) = true then (if (bt377.2.2.1 == 3 && (bt377.2.2.2 == (-1))) = true then ((spoollaw48_alive.f kj19).bind fun t382 => (some t382)) else (some false)) else (some false)) else (some false)) else (some false)))))) = some r := by rw [if_neg (show ¬ (false = true) by decide)] at H; exact H
           clear H
           have H := H1
           clear H1
           replace H := Option.bind_eq_some_iff.mp H
           obtain ⟨⟨t363, t364, t365, t366⟩, A320, H⟩ := H
           replace H : ((spoolref48_Unquote.f kj19 a1 (wrap64 (a2))).bind fun bt367 => (if bt367.2.2 ≥ 0 then ((script_Unquote.f kj19 a0 (-1)).bind fun bt371 => (if t363.toList = bt367.1.toList then (if t364 = bt367.2.1 then (if (t365 == 3 && (t366 == bt367.2.2)) = true then (if (bt371.2.2.1 == 3 && (bt371.2.2.2 == (-1))) = true then ((spoollaw48_alive.f kj19).bind fun t376 => (some t376)) else (some false)) else (some false)) else (some false)) else (some false))) else ((script_Unquote.f kj19 a0 (-1)).bind fun bt377 => (if t363.toList = bt367.1.toList then (if t364 = bt367.2.1 then (if (t365 == 0 && (t366 == 0)) = true then (if (bt377.2.2.1 == 3 && (bt377.2.2.2 == (-1))) = true then ((spoollaw48_alive.f kj19).bind fun t382 => (some t382)) else (some false)) else (some false)) else (some false)) else (some false))))) = some r := H
           have A32 := Aside0.mk A320
           clear A320
           replace H := Option.bind_eq_some_iff.mp H
           obtain ⟨⟨t367, t368, t369⟩, A330, H⟩ := H
           replace H : (if t369 ≥ 0 then ((script_Unquote.f kj19 a0 (-1)).bind fun bt371 => (if t363.toList = t367.toList then (if t364 = t368 then (if (t365 == 3 && (t366 == t369)) = true then (if (bt371.2.2.1 == 3 && (bt371.2.2.2 == (-1))) = true then ((spoollaw48_alive.f kj19).bind fun t376 => (some t376)) else (some false)) else (some false)) else (some false)) else (some false))) else ((script_Unquote.f kj19 a0 (-1)).bind fun bt377 => (if t363.toList = t367.toList then (if t364 = t368 then (if (t365 == 0 && (t366 == 0)) = true then (if (bt377.2.2.1 == 3 && (bt377.2.2.2 == (-1))) = true then ((spoollaw48_alive.f kj19).bind fun t382 => (some t382)) else (some false)) else (some false)) else (some false)) else (some false)))) = some r := H
           have A33 := Aside0.mk A330
           clear A330
           by_cases c34 : t369 ≥ 0
           ·rw [if_pos c34] at H
            have c34b0 : decide (0 ≤ t369) = true := decide_eq_true c34
            clear c34
            replace H := Option.bind_eq_some_iff.mp H
            obtain ⟨⟨t371, t372, t373, t374⟩, A350, H⟩ := H
            replace H : (if t363.toList = t367.toList then (if t364 = t368 then (if (t365 == 3 && (t366 == t369)) = true then (if (t373 == 3 && (t374 == (-1))) = true then ((spoollaw48_alive.f kj19).bind fun t376 => (some t376)) else (some false)) else (some false)) else (some false)) else (some false)) = some r := H
            have A35 := Aside0.mk A350
            clear A350
            by_cases c36 : t363.toList = t367.toList
            ·rw [if_pos c36] at H
             have c36b0 : (t363.toList == t367.toList) = true := beq_iff_eq.mpr c36
             have c36b1 : (t363.toList != t367.toList) = false := bne_eq_false_iff_eq.mpr c36
             clear c36
             by_cases c37 : t364 = t368
             ·rw [if_pos c37] at H
              have c37b0 : (t364 == t368) = true := beq_iff_eq.mpr c37
              have c37b1 : (t364 != t368) = false := bne_eq_false_iff_eq.mpr c37
              clear c37
              by_cases c38 : (t365 == 3 && (t366 == t369)) = true
              ·rw [if_pos c38] at H
               have c38b0 : (t365 == 3 && (t366 == t369)) = true := c38
               (try (have c38b1 : decide (t365 = 3 && (t366 == t369)) = true := by simpa using c38))
               (try (have c38b2 : (t365 == 3 && (t366 == t369)) = true := by simpa using c38))
               clear c38
               by_cases c39 : (t373 == 3 && (t374 == (-1))) = true
               ·rw [if_pos c39] at H
                have c39b0 : (t373 == 3 && (t374 == (-1))) = true := c39
                (try (have c39b1 : decide (t373 = 3 && (t374 == (-1))) = true := by simpa using c39))
                (try (have c39b2 : (t373 == 3 && (t374 == (-1))) = true := by simpa using c39))
                clear c39
                replace H := Option.bind_eq_some_iff.mp H
                obtain ⟨t376, A400, H⟩ := H
                replace H : (some t376) = some r := H
                have A40 := Aside0.mk A400
                clear A400
                obtain rfl := Option.some.inj H
                go_wp2_with (first | ((with_reducible refine gate_callee (f := 15) rfl ?_); refine goesL_ (some 80) rfl rfl Tryd.func15 (by kernel_rfl) rfl #[.string a1, .int .i64 (wrap64 (a2))] rfl lma_ ?_; (with_reducible refine (script_Unquote.calls kj19 a1 (wrap64 (a2)) t363 t364 t365 t366 _ A32.out).mono ?_); rintro e w41 ⟨rfl, hb⟩; refine ⟨_, rfl, ?_⟩; have n0_ := Aside0.mk (blk_below (g := gb361) (o := .cells #[.int .i64 t359, .int .i64 t360] 26 (0, 0)) (by exact bkw_ BK361.out) hb); have n1_ := Aside0.mk (below_step (blg_ HB.out GE361.out) hb); clear BK361; clear HB; have BK361 := n0_; have HB := n1_; clear n0_ n1_; (try clear hb); (try clear hb2); (try clear hk); (try clear hi); have hcz42_0 : w41.cell? ⟨gb361, 0, none⟩ = some (.int .i64 t359) := (blk_cell BK361.out 0).trans rfl; have hcz42_1 : w41.cell? ⟨gb361, 1, none⟩ = some (.int .i64 t360) := (blk_cell BK361.out 1).trans rfl; have hfz42_0 := blk_frozen BK361.out 0; have hfz42_1 := blk_frozen BK361.out 1) | ((with_reducible refine gate_callee (f := 17) rfl ?_); refine goesL_ (some 87) rfl rfl Tryd.func17 (by kernel_rfl) rfl #[.string a1, .int .i64 (wrap64 (a2))] rfl lma_ ?_; (with_reducible refine (spoolref48_Unquote.calls kj19 a1 (wrap64 (a2)) t367 t368 t369 _ A33.out).mono ?_); rintro e w43 ⟨rfl, hb⟩; refine ⟨_, rfl, ?_⟩; have n0_ := Aside0.mk (blk_below (g := gb361) (o := .cells #[.int .i64 t365, .int .i64 t366] 26 (0, 0)) (by (with_reducible repeat (first | refine blk_drewN ?_ _ | refine blk_drew ?_ | refine blk_alloc ?_ _)); refine blk_put (cs := #[.int .i64 t365, .int .i64 t360]) ?_ 1 _ rfl; (with_reducible repeat (first | refine blk_drewN ?_ _ | refine blk_drew ?_ | refine blk_alloc ?_ _)); refine blk_put (cs := #[.int .i64 t359, .int .i64 t360]) ?_ 0 _ rfl; exact bkw_ BK361.out) hb); have n1_ := Aside0.mk (below_step (blg_ HB.out GE361.out) hb); clear BK361; clear HB; have BK361 := n0_; have HB := n1_; clear n0_ n1_; (try clear hb); (try clear hb2); (try clear hk); (try clear hi)) | ((with_reducible refine gate_dst (N := 16) rfl ?_); (try (refine gate_guard (by rfl) ?_; dsimp only)); refine box_event ?hg (N := 16) ?hd (cs := #[.int .i64 0, .int .i64 0]) (t := 26) ?hr ?_; (case hd => rfl); (case hg => rfl); (case hr => first | (go_simp; done) | (go_simp; rfl)); intro gb370 hg w44 hbox hb; have n0_ := Aside0.mk (blk_below (g := gb361) (o := .cells #[.int .i64 t365, .int .i64 t366] 26 (0, 0)) (by exact bkw_ BK361.out) hb); have n1_ := Aside0.mk (below_step (blg_ HB.out GE361.out) hb); have n2_ := Aside0.mk (hbox); have n3_ := Aside0.mk ((by rw [hg]; exact (below_size (blg_ HB.out GE361.out)) : w.heap.size ≤ gb370)); have n4_ := Aside0.mk ((by rw [hg]; exact (below_size (blg_ HB.out GE361.out)) : w.heap.size ≤ gb370)); have n5_ := Aside0.mk ((by rw [hg]; exact Nat.ne_of_lt (blk_lt (g := gb361) (o := .cells #[.int .i64 t365, .int .i64 t366] 26 (0, 0)) (by exact bkw_ BK361.out)) : gb361 ≠ gb370)); have n6_ := Aside0.mk ((by rw [hg]; exact Nat.ne_of_gt (blk_lt (g := gb361) (o := .cells #[.int .i64 t365, .int .i64 t366] 26 (0, 0)) (by exact bkw_ BK361.out)) : gb370 ≠ gb361)); clear BK361; clear HB; have BK361 := n0_; have HB := n1_; have BK370 := n2_; have GW370 := n3_; have GE370 := n4_; have NB361_370 := n5_; have NB370_361 := n6_; clear n0_ n1_ n2_ n3_ n4_ n5_ n6_; clear hb hbox hg; have hnb45 := NB370_361.out; have hnc45 := NB361_370.out; have hcz46_0 : w44.cell? ⟨gb370, 0, none⟩ = some (.int .i64 0) := (blk_cell BK370.out 0).trans rfl; have hcz46_1 : w44.cell? ⟨gb370, 1, none⟩ = some (.int .i64 0) := (blk_cell BK370.out 1).trans rfl; have hfz46_0 := blk_frozen BK370.out 0; have hfz46_1 := blk_frozen BK370.out 1) | ((with_reducible refine gate_callee (f := 15) rfl ?_); refine goesL_ (some 98) rfl rfl Tryd.func15 (by kernel_rfl) rfl #[.string a0, .int .i64 (-1)] rfl lma_ ?_; (with_reducible refine (script_Unquote.calls kj19 a0 (-1) t371 t372 t373 t374 _ A35.out).mono ?_); rintro e w47 ⟨rfl, hb⟩; refine ⟨_, rfl, ?_⟩; have n0_ := Aside0.mk (blk_below (g := gb361) (o := .cells #[.int .i64 t365, .int .i64 t366] 26 (0, 0)) (by (with_reducible repeat (first | refine blk_drewN ?_ _ | refine blk_drew ?_ | refine blk_alloc ?_ _)); refine blk_far ?_ NB361_370.out _; (with_reducible repeat (first | refine blk_drewN ?_ _ | refine blk_drew ?_ | refine blk_alloc ?_ _)); refine blk_far ?_ NB361_370.out _; (with_reducible repeat (first | refine blk_drewN ?_ _ | refine blk_drew ?_ | refine blk_alloc ?_ _)); refine blk_far ?_ NB361_370.out _; (with_reducible repeat (first | refine blk_drewN ?_ _ | refine blk_drew ?_ | refine blk_alloc ?_ _)); refine blk_far ?_ NB361_370.out _; exact bkw_ BK361.out) hb); have n1_ := Aside0.mk (blk_below (g := gb370) (o := .cells #[.int .i64 3, .int .i64 t369] 26 (0, 0)) (by (with_reducible repeat (first | refine blk_drewN ?_ _ | refine blk_drew ?_ | refine blk_alloc ?_ _)); refine blk_put (cs := #[.int .i64 3, .int .i64 0]) ?_ 1 _ rfl; (with_reducible repeat (first | refine blk_drewN ?_ _ | refine blk_drew ?_ | refine blk_alloc ?_ _)); refine blk_put (cs := #[.int .i64 0, .int .i64 0]) ?_ 0 _ rfl; (with_reducible repeat (first | refine blk_drewN ?_ _ | refine blk_drew ?_ | refine blk_alloc ?_ _)); refine blk_put (cs := #[.int .i64 0, .int .i64 0]) ?_ 1 _ rfl; (with_reducible repeat (first | refine blk_drewN ?_ _ | refine blk_drew ?_ | refine blk_alloc ?_ _)); refine blk_put (cs := #[.int .i64 0, .int .i64 0]) ?_ 0 _ rfl; exact bkw_ BK370.out) hb); have n2_ := Aside0.mk (below_step (bla_ HB.out) hb); clear BK361; clear BK370; clear HB; have BK361 := n0_; have BK370 := n1_; have HB := n2_; clear n0_ n1_ n2_; (try clear hb); (try clear hb2); (try clear hk); (try clear hi)) | ((with_reducible refine gate_dst (N := 19) rfl ?_); (try (refine gate_guard (by rfl) ?_; dsimp only)); refine box_event ?hg (N := 19) ?hd (cs := #[.int .i64 0, .int .i64 0]) (t := 26) ?hr ?_; (case hd => rfl); (case hg => rfl); (case hr => first | (go_simp; done) | (go_simp; rfl)); intro gb375 hg w48 hbox hb; have n0_ := Aside0.mk (blk_below (g := gb361) (o := .cells #[.int .i64 t365, .int .i64 t366] 26 (0, 0)) (by exact bkw_ BK361.out) hb); have n1_ := Aside0.mk (blk_below (g := gb370) (o := .cells #[.int .i64 3, .int .i64 t369] 26 (0, 0)) (by exact bkw_ BK370.out) hb); have n2_ := Aside0.mk (below_step (bla_ HB.out) hb); have n3_ := Aside0.mk (hbox); have n4_ := Aside0.mk ((by rw [hg]; exact (below_size (bla_ HB.out)) : w.heap.size ≤ gb375)); have n5_ := Aside0.mk ((by rw [hg]; exact (below_size (bla_ HB.out)) : w.heap.size ≤ gb375)); have n6_ := Aside0.mk ((by rw [hg]; exact Nat.ne_of_lt (blk_lt (g := gb361) (o := .cells #[.int .i64 t365, .int .i64 t366] 26 (0, 0)) (by exact bkw_ BK361.out)) : gb361 ≠ gb375)); have n7_ := Aside0.mk ((by rw [hg]; exact Nat.ne_of_gt (blk_lt (g := gb361) (o := .cells #[.int .i64 t365, .int .i64 t366] 26 (0, 0)) (by exact bkw_ BK361.out)) : gb375 ≠ gb361)); have n8_ := Aside0.mk ((by rw [hg]; exact Nat.ne_of_lt (blk_lt (g := gb370) (o := .cells #[.int .i64 3, .int .i64 t369] 26 (0, 0)) (by exact bkw_ BK370.out)) : gb370 ≠ gb375)); have n9_ := Aside0.mk ((by rw [hg]; exact Nat.ne_of_gt (blk_lt (g := gb370) (o := .cells #[.int .i64 3, .int .i64 t369] 26 (0, 0)) (by exact bkw_ BK370.out)) : gb375 ≠ gb370)); clear BK361; clear BK370; clear HB; have BK361 := n0_; have BK370 := n1_; have HB := n2_; have BK375 := n3_; have GW375 := n4_; have GE375 := n5_; have NB361_375 := n6_; have NB375_361 := n7_; have NB370_375 := n8_; have NB375_370 := n9_; clear n0_ n1_ n2_ n3_ n4_ n5_ n6_ n7_ n8_ n9_; clear hb hbox hg; have hnb49 := NB375_361.out; have hnc49 := NB361_375.out; have hnb50 := NB375_370.out; have hnc50 := NB370_375.out; have hcz51_0 : w48.cell? ⟨gb375, 0, none⟩ = some (.int .i64 0) := (blk_cell BK375.out 0).trans rfl; have hcz51_1 : w48.cell? ⟨gb375, 1, none⟩ = some (.int .i64 0) := (blk_cell BK375.out 1).trans rfl; have hfz51_0 := blk_frozen BK375.out 0; have hfz51_1 := blk_frozen BK375.out 1; have hcz52_0 : w48.cell? ⟨gb361, 0, none⟩ = some (.int .i64 t365) := (blk_cell BK361.out 0).trans rfl; have hcz52_1 : w48.cell? ⟨gb361, 1, none⟩ = some (.int .i64 t366) := (blk_cell BK361.out 1).trans rfl; have hfz52_0 := blk_frozen BK361.out 0; have hfz52_1 := blk_frozen BK361.out 1; have hcz53_0 : w48.cell? ⟨gb370, 0, none⟩ = some (.int .i64 3) := (blk_cell BK370.out 0).trans rfl; have hcz53_1 : w48.cell? ⟨gb370, 1, none⟩ = some (.int .i64 t369) := (blk_cell BK370.out 1).trans rfl; have hfz53_0 := blk_frozen BK370.out 0; have hfz53_1 := blk_frozen BK370.out 1) | (go_at_call 8; (with_reducible refine (spoollaw48_alive.calls kj19  t376 _ ?side1 ?side2 ?side3 A40.out).mono ?_); (case side1 => exact Kd.C_below HRG0.out (bla_ HB.out)); (case side2 => exact Kd.C_below HRG1.out (bla_ HB.out)); (case side3 => exact Kd.C_below HRG2.out (bla_ HB.out)); rintro e w54 ⟨rfl, hb⟩; have n0_ := Aside0.mk (blk_below (g := gb361) (o := .cells #[.int .i64 t365, .int .i64 t366] 26 (0, 0)) (by (with_reducible repeat (first | refine blk_drewN ?_ _ | refine blk_drew ?_ | refine blk_alloc ?_ _)); refine blk_far ?_ NB361_375.out _; (with_reducible repeat (first | refine blk_drewN ?_ _ | refine blk_drew ?_ | refine blk_alloc ?_ _)); refine blk_far ?_ NB361_375.out _; exact bkw_ BK361.out) hb); have n1_ := Aside0.mk (blk_below (g := gb370) (o := .cells #[.int .i64 3, .int .i64 t369] 26 (0, 0)) (by (with_reducible repeat (first | refine blk_drewN ?_ _ | refine blk_drew ?_ | refine blk_alloc ?_ _)); refine blk_far ?_ NB370_375.out _; (with_reducible repeat (first | refine blk_drewN ?_ _ | refine blk_drew ?_ | refine blk_alloc ?_ _)); refine blk_far ?_ NB370_375.out _; exact bkw_ BK370.out) hb); have n2_ := Aside0.mk (blk_below (g := gb375) (o := .cells #[.int .i64 t373, .int .i64 t374] 26 (0, 0)) (by (with_reducible repeat (first | refine blk_drewN ?_ _ | refine blk_drew ?_ | refine blk_alloc ?_ _)); refine blk_put (cs := #[.int .i64 t373, .int .i64 0]) ?_ 1 _ rfl; (with_reducible repeat (first | refine blk_drewN ?_ _ | refine blk_drew ?_ | refine blk_alloc ?_ _)); refine blk_put (cs := #[.int .i64 0, .int .i64 0]) ?_ 0 _ rfl; exact bkw_ BK375.out) hb); have n3_ := Aside0.mk (below_step (bla_ HB.out) hb); clear BK361; clear BK370; clear BK375; clear HB; have BK361 := n0_; have BK370 := n1_; have BK375 := n2_; have HB := n3_; clear n0_ n1_ n2_ n3_; (try clear hb); (try clear hb2); (try clear hk); (try clear hi)))
                go_ret
                exact ⟨fia_, bla_ HB.out⟩
               ·rw [if_neg c39] at H
                have c39b0 : (t373 == 3 && (t374 == (-1))) = false := by simpa using c39
                (try (have c39b1 : decide (t373 = 3 && (t374 == (-1))) = false := by simpa using c39))
                (try (have c39b2 : (t373 == 3 && (t374 == (-1))) = false := by simpa using c39))
                (try (have c39b3 : ¬ (t373 = 3 && (t374 == (-1))) := by simpa using c39))
                clear c39
                obtain rfl := Option.some.inj H
                go_wp2_with (first | ((with_reducible refine gate_callee (f := 15) rfl ?_); refine goesL_ (some 80) rfl rfl Tryd.func15 (by kernel_rfl) rfl #[.string a1, .int .i64 (wrap64 (a2))] rfl lma_ ?_; (with_reducible refine (script_Unquote.calls kj19 a1 (wrap64 (a2)) t363 t364 t365 t366 _ A32.out).mono ?_); rintro e w55 ⟨rfl, hb⟩; refine ⟨_, rfl, ?_⟩; have n0_ := Aside0.mk (blk_below (g := gb361) (o := .cells #[.int .i64 t359, .int .i64 t360] 26 (0, 0)) (by exact bkw_ BK361.out) hb); have n1_ := Aside0.mk (below_step (blg_ HB.out GE361.out) hb); clear BK361; clear HB; have BK361 := n0_; have HB := n1_; clear n0_ n1_; (try clear hb); (try clear hb2); (try clear hk); (try clear hi); have hcz56_0 : w55.cell? ⟨gb361, 0, none⟩ = some (.int .i64 t359) := (blk_cell BK361.out 0).trans rfl; have hcz56_1 : w55.cell? ⟨gb361, 1, none⟩ = some (.int .i64 t360) := (blk_cell BK361.out 1).trans rfl; have hfz56_0 := blk_frozen BK361.out 0; have hfz56_1 := blk_frozen BK361.out 1) | ((with_reducible refine gate_callee (f := 17) rfl ?_); refine goesL_ (some 87) rfl rfl Tryd.func17 (by kernel_rfl) rfl #[.string a1, .int .i64 (wrap64 (a2))] rfl lma_ ?_; (with_reducible refine (spoolref48_Unquote.calls kj19 a1 (wrap64 (a2)) t367 t368 t369 _ A33.out).mono ?_); rintro e w57 ⟨rfl, hb⟩; refine ⟨_, rfl, ?_⟩; have n0_ := Aside0.mk (blk_below (g := gb361) (o := .cells #[.int .i64 t365, .int .i64 t366] 26 (0, 0)) (by (with_reducible repeat (first | refine blk_drewN ?_ _ | refine blk_drew ?_ | refine blk_alloc ?_ _)); refine blk_put (cs := #[.int .i64 t365, .int .i64 t360]) ?_ 1 _ rfl; (with_reducible repeat (first | refine blk_drewN ?_ _ | refine blk_drew ?_ | refine blk_alloc ?_ _)); refine blk_put (cs := #[.int .i64 t359, .int .i64 t360]) ?_ 0 _ rfl; exact bkw_ BK361.out) hb); have n1_ := Aside0.mk (below_step (blg_ HB.out GE361.out) hb); clear BK361; clear HB; have BK361 := n0_; have HB := n1_; clear n0_ n1_; (try clear hb); (try clear hb2); (try clear hk); (try clear hi)) | ((with_reducible refine gate_dst (N := 16) rfl ?_); (try (refine gate_guard (by rfl) ?_; dsimp only)); refine box_event ?hg (N := 16) ?hd (cs := #[.int .i64 0, .int .i64 0]) (t := 26) ?hr ?_; (case hd => rfl); (case hg => rfl); (case hr => first | (go_simp; done) | (go_simp; rfl)); intro gb370 hg w58 hbox hb; have n0_ := Aside0.mk (blk_below (g := gb361) (o := .cells #[.int .i64 t365, .int .i64 t366] 26 (0, 0)) (by exact bkw_ BK361.out) hb); have n1_ := Aside0.mk (below_step (blg_ HB.out GE361.out) hb); have n2_ := Aside0.mk (hbox); have n3_ := Aside0.mk ((by rw [hg]; exact (below_size (blg_ HB.out GE361.out)) : w.heap.size ≤ gb370)); have n4_ := Aside0.mk ((by rw [hg]; exact (below_size (blg_ HB.out GE361.out)) : w.heap.size ≤ gb370)); have n5_ := Aside0.mk ((by rw [hg]; exact Nat.ne_of_lt (blk_lt (g := gb361) (o := .cells #[.int .i64 t365, .int .i64 t366] 26 (0, 0)) (by exact bkw_ BK361.out)) : gb361 ≠ gb370)); have n6_ := Aside0.mk ((by rw [hg]; exact Nat.ne_of_gt (blk_lt (g := gb361) (o := .cells #[.int .i64 t365, .int .i64 t366] 26 (0, 0)) (by exact bkw_ BK361.out)) : gb370 ≠ gb361)); clear BK361; clear HB; have BK361 := n0_; have HB := n1_; have BK370 := n2_; have GW370 := n3_; have GE370 := n4_; have NB361_370 := n5_; have NB370_361 := n6_; clear n0_ n1_ n2_ n3_ n4_ n5_ n6_; clear hb hbox hg; have hnb59 := NB370_361.out; have hnc59 := NB361_370.out; have hcz60_0 : w58.cell? ⟨gb370, 0, none⟩ = some (.int .i64 0) := (blk_cell BK370.out 0).trans rfl; have hcz60_1 : w58.cell? ⟨gb370, 1, none⟩ = some (.int .i64 0) := (blk_cell BK370.out 1).trans rfl; have hfz60_0 := blk_frozen BK370.out 0; have hfz60_1 := blk_frozen BK370.out 1) | ((with_reducible refine gate_callee (f := 15) rfl ?_); refine goesL_ (some 98) rfl rfl Tryd.func15 (by kernel_rfl) rfl #[.string a0, .int .i64 (-1)] rfl lma_ ?_; (with_reducible refine (script_Unquote.calls kj19 a0 (-1) t371 t372 t373 t374 _ A35.out).mono ?_); rintro e w61 ⟨rfl, hb⟩; refine ⟨_, rfl, ?_⟩; have n0_ := Aside0.mk (blk_below (g := gb361) (o := .cells #[.int .i64 t365, .int .i64 t366] 26 (0, 0)) (by (with_reducible repeat (first | refine blk_drewN ?_ _ | refine blk_drew ?_ | refine blk_alloc ?_ _)); refine blk_far ?_ NB361_370.out _; (with_reducible repeat (first | refine blk_drewN ?_ _ | refine blk_drew ?_ | refine blk_alloc ?_ _)); refine blk_far ?_ NB361_370.out _; (with_reducible repeat (first | refine blk_drewN ?_ _ | refine blk_drew ?_ | refine blk_alloc ?_ _)); refine blk_far ?_ NB361_370.out _; (with_reducible repeat (first | refine blk_drewN ?_ _ | refine blk_drew ?_ | refine blk_alloc ?_ _)); refine blk_far ?_ NB361_370.out _; exact bkw_ BK361.out) hb); have n1_ := Aside0.mk (blk_below (g := gb370) (o := .cells #[.int .i64 3, .int .i64 t369] 26 (0, 0)) (by (with_reducible repeat (first | refine blk_drewN ?_ _ | refine blk_drew ?_ | refine blk_alloc ?_ _)); refine blk_put (cs := #[.int .i64 3, .int .i64 0]) ?_ 1 _ rfl; (with_reducible repeat (first | refine blk_drewN ?_ _ | refine blk_drew ?_ | refine blk_alloc ?_ _)); refine blk_put (cs := #[.int .i64 0, .int .i64 0]) ?_ 0 _ rfl; (with_reducible repeat (first | refine blk_drewN ?_ _ | refine blk_drew ?_ | refine blk_alloc ?_ _)); refine blk_put (cs := #[.int .i64 0, .int .i64 0]) ?_ 1 _ rfl; (with_reducible repeat (first | refine blk_drewN ?_ _ | refine blk_drew ?_ | refine blk_alloc ?_ _)); refine blk_put (cs := #[.int .i64 0, .int .i64 0]) ?_ 0 _ rfl; exact bkw_ BK370.out) hb); have n2_ := Aside0.mk (below_step (bla_ HB.out) hb); clear BK361; clear BK370; clear HB; have BK361 := n0_; have BK370 := n1_; have HB := n2_; clear n0_ n1_ n2_; (try clear hb); (try clear hb2); (try clear hk); (try clear hi)) | ((with_reducible refine gate_dst (N := 19) rfl ?_); (try (refine gate_guard (by rfl) ?_; dsimp only)); refine box_event ?hg (N := 19) ?hd (cs := #[.int .i64 0, .int .i64 0]) (t := 26) ?hr ?_; (case hd => rfl); (case hg => rfl); (case hr => first | (go_simp; done) | (go_simp; rfl)); intro gb375 hg w62 hbox hb; have n0_ := Aside0.mk (blk_below (g := gb361) (o := .cells #[.int .i64 t365, .int .i64 t366] 26 (0, 0)) (by exact bkw_ BK361.out) hb); have n1_ := Aside0.mk (blk_below (g := gb370) (o := .cells #[.int .i64 3, .int .i64 t369] 26 (0, 0)) (by exact bkw_ BK370.out) hb); have n2_ := Aside0.mk (below_step (bla_ HB.out) hb); have n3_ := Aside0.mk (hbox); have n4_ := Aside0.mk ((by rw [hg]; exact (below_size (bla_ HB.out)) : w.heap.size ≤ gb375)); have n5_ := Aside0.mk ((by rw [hg]; exact (below_size (bla_ HB.out)) : w.heap.size ≤ gb375)); have n6_ := Aside0.mk ((by rw [hg]; exact Nat.ne_of_lt (blk_lt (g := gb361) (o := .cells #[.int .i64 t365, .int .i64 t366] 26 (0, 0)) (by exact bkw_ BK361.out)) : gb361 ≠ gb375)); have n7_ := Aside0.mk ((by rw [hg]; exact Nat.ne_of_gt (blk_lt (g := gb361) (o := .cells #[.int .i64 t365, .int .i64 t366] 26 (0, 0)) (by exact bkw_ BK361.out)) : gb375 ≠ gb361)); have n8_ := Aside0.mk ((by rw [hg]; exact Nat.ne_of_lt (blk_lt (g := gb370) (o := .cells #[.int .i64 3, .int .i64 t369] 26 (0, 0)) (by exact bkw_ BK370.out)) : gb370 ≠ gb375)); have n9_ := Aside0.mk ((by rw [hg]; exact Nat.ne_of_gt (blk_lt (g := gb370) (o := .cells #[.int .i64 3, .int .i64 t369] 26 (0, 0)) (by exact bkw_ BK370.out)) : gb375 ≠ gb370)); clear BK361; clear BK370; clear HB; have BK361 := n0_; have BK370 := n1_; have HB := n2_; have BK375 := n3_; have GW375 := n4_; have GE375 := n5_; have NB361_375 := n6_; have NB375_361 := n7_; have NB370_375 := n8_; have NB375_370 := n9_; clear n0_ n1_ n2_ n3_ n4_ n5_ n6_ n7_ n8_ n9_; clear hb hbox hg; have hnb63 := NB375_361.out; have hnc63 := NB361_375.out; have hnb64 := NB375_370.out; have hnc64 := NB370_375.out; have hcz65_0 : w62.cell? ⟨gb375, 0, none⟩ = some (.int .i64 0) := (blk_cell BK375.out 0).trans rfl; have hcz65_1 : w62.cell? ⟨gb375, 1, none⟩ = some (.int .i64 0) := (blk_cell BK375.out 1).trans rfl; have hfz65_0 := blk_frozen BK375.out 0; have hfz65_1 := blk_frozen BK375.out 1; have hcz66_0 : w62.cell? ⟨gb361, 0, none⟩ = some (.int .i64 t365) := (blk_cell BK361.out 0).trans rfl; have hcz66_1 : w62.cell? ⟨gb361, 1, none⟩ = some (.int .i64 t366) := (blk_cell BK361.out 1).trans rfl; have hfz66_0 := blk_frozen BK361.out 0; have hfz66_1 := blk_frozen BK361.out 1; have hcz67_0 : w62.cell? ⟨gb370, 0, none⟩ = some (.int .i64 3) := (blk_cell BK370.out 0).trans rfl; have hcz67_1 : w62.cell? ⟨gb370, 1, none⟩ = some (.int .i64 t369) := (blk_cell BK370.out 1).trans rfl; have hfz67_0 := blk_frozen BK370.out 0; have hfz67_1 := blk_frozen BK370.out 1))
                go_ret
                exact ⟨fia_, bla_ HB.out⟩
              ·rw [if_neg c38] at H
               have c38b0 : (t365 == 3 && (t366 == t369)) = false := by simpa using c38
               (try (have c38b1 : decide (t365 = 3 && (t366 == t369)) = false := by simpa using c38))
               (try (have c38b2 : (t365 == 3 && (t366 == t369)) = false := by simpa using c38))
               (try (have c38b3 : ¬ (t365 = 3 && (t366 == t369)) := by simpa using c38))
               clear c38
               obtain rfl := Option.some.inj H
               go_wp2_with (first | ((with_reducible refine gate_callee (f := 15) rfl ?_); refine goesL_ (some 80) rfl rfl Tryd.func15 (by kernel_rfl) rfl #[.string a1, .int .i64 (wrap64 (a2))] rfl lma_ ?_; (with_reducible refine (script_Unquote.calls kj19 a1 (wrap64 (a2)) t363 t364 t365 t366 _ A32.out).mono ?_); rintro e w68 ⟨rfl, hb⟩; refine ⟨_, rfl, ?_⟩; have n0_ := Aside0.mk (blk_below (g := gb361) (o := .cells #[.int .i64 t359, .int .i64 t360] 26 (0, 0)) (by exact bkw_ BK361.out) hb); have n1_ := Aside0.mk (below_step (blg_ HB.out GE361.out) hb); clear BK361; clear HB; have BK361 := n0_; have HB := n1_; clear n0_ n1_; (try clear hb); (try clear hb2); (try clear hk); (try clear hi); have hcz69_0 : w68.cell? ⟨gb361, 0, none⟩ = some (.int .i64 t359) := (blk_cell BK361.out 0).trans rfl; have hcz69_1 : w68.cell? ⟨gb361, 1, none⟩ = some (.int .i64 t360) := (blk_cell BK361.out 1).trans rfl; have hfz69_0 := blk_frozen BK361.out 0; have hfz69_1 := blk_frozen BK361.out 1) | ((with_reducible refine gate_callee (f := 17) rfl ?_); refine goesL_ (some 87) rfl rfl Tryd.func17 (by kernel_rfl) rfl #[.string a1, .int .i64 (wrap64 (a2))] rfl lma_ ?_; (with_reducible refine (spoolref48_Unquote.calls kj19 a1 (wrap64 (a2)) t367 t368 t369 _ A33.out).mono ?_); rintro e w70 ⟨rfl, hb⟩; refine ⟨_, rfl, ?_⟩; have n0_ := Aside0.mk (blk_below (g := gb361) (o := .cells #[.int .i64 t365, .int .i64 t366] 26 (0, 0)) (by (with_reducible repeat (first | refine blk_drewN ?_ _ | refine blk_drew ?_ | refine blk_alloc ?_ _)); refine blk_put (cs := #[.int .i64 t365, .int .i64 t360]) ?_ 1 _ rfl; (with_reducible repeat (first | refine blk_drewN ?_ _ | refine blk_drew ?_ | refine blk_alloc ?_ _)); refine blk_put (cs := #[.int .i64 t359, .int .i64 t360]) ?_ 0 _ rfl; exact bkw_ BK361.out) hb); have n1_ := Aside0.mk (below_step (blg_ HB.out GE361.out) hb); clear BK361; clear HB; have BK361 := n0_; have HB := n1_; clear n0_ n1_; (try clear hb); (try clear hb2); (try clear hk); (try clear hi)) | ((with_reducible refine gate_dst (N := 16) rfl ?_); (try (refine gate_guard (by rfl) ?_; dsimp only)); refine box_event ?hg (N := 16) ?hd (cs := #[.int .i64 0, .int .i64 0]) (t := 26) ?hr ?_; (case hd => rfl); (case hg => rfl); (case hr => first | (go_simp; done) | (go_simp; rfl)); intro gb370 hg w71 hbox hb; have n0_ := Aside0.mk (blk_below (g := gb361) (o := .cells #[.int .i64 t365, .int .i64 t366] 26 (0, 0)) (by exact bkw_ BK361.out) hb); have n1_ := Aside0.mk (below_step (blg_ HB.out GE361.out) hb); have n2_ := Aside0.mk (hbox); have n3_ := Aside0.mk ((by rw [hg]; exact (below_size (blg_ HB.out GE361.out)) : w.heap.size ≤ gb370)); have n4_ := Aside0.mk ((by rw [hg]; exact (below_size (blg_ HB.out GE361.out)) : w.heap.size ≤ gb370)); have n5_ := Aside0.mk ((by rw [hg]; exact Nat.ne_of_lt (blk_lt (g := gb361) (o := .cells #[.int .i64 t365, .int .i64 t366] 26 (0, 0)) (by exact bkw_ BK361.out)) : gb361 ≠ gb370)); have n6_ := Aside0.mk ((by rw [hg]; exact Nat.ne_of_gt (blk_lt (g := gb361) (o := .cells #[.int .i64 t365, .int .i64 t366] 26 (0, 0)) (by exact bkw_ BK361.out)) : gb370 ≠ gb361)); clear BK361; clear HB; have BK361 := n0_; have HB := n1_; have BK370 := n2_; have GW370 := n3_; have GE370 := n4_; have NB361_370 := n5_; have NB370_361 := n6_; clear n0_ n1_ n2_ n3_ n4_ n5_ n6_; clear hb hbox hg; have hnb72 := NB370_361.out; have hnc72 := NB361_370.out; have hcz73_0 : w71.cell? ⟨gb370, 0, none⟩ = some (.int .i64 0) := (blk_cell BK370.out 0).trans rfl; have hcz73_1 : w71.cell? ⟨gb370, 1, none⟩ = some (.int .i64 0) := (blk_cell BK370.out 1).trans rfl; have hfz73_0 := blk_frozen BK370.out 0; have hfz73_1 := blk_frozen BK370.out 1) | ((with_reducible refine gate_callee (f := 15) rfl ?_); refine goesL_ (some 98) rfl rfl Tryd.func15 (by kernel_rfl) rfl #[.string a0, .int .i64 (-1)] rfl lma_ ?_; (with_reducible refine (script_Unquote.calls kj19 a0 (-1) t371 t372 t373 t374 _ A35.out).mono ?_); rintro e w74 ⟨rfl, hb⟩; refine ⟨_, rfl, ?_⟩; have n0_ := Aside0.mk (blk_below (g := gb361) (o := .cells #[.int .i64 t365, .int .i64 t366] 26 (0, 0)) (by (with_reducible repeat (first | refine blk_drewN ?_ _ | refine blk_drew ?_ | refine blk_alloc ?_ _)); refine blk_far ?_ NB361_370.out _; (with_reducible repeat (first | refine blk_drewN ?_ _ | refine blk_drew ?_ | refine blk_alloc ?_ _)); refine blk_far ?_ NB361_370.out _; (with_reducible repeat (first | refine blk_drewN ?_ _ | refine blk_drew ?_ | refine blk_alloc ?_ _)); refine blk_far ?_ NB361_370.out _; (with_reducible repeat (first | refine blk_drewN ?_ _ | refine blk_drew ?_ | refine blk_alloc ?_ _)); refine blk_far ?_ NB361_370.out _; exact bkw_ BK361.out) hb); have n1_ := Aside0.mk (blk_below (g := gb370) (o := .cells #[.int .i64 3, .int .i64 t369] 26 (0, 0)) (by (with_reducible repeat (first | refine blk_drewN ?_ _ | refine blk_drew ?_ | refine blk_alloc ?_ _)); refine blk_put (cs := #[.int .i64 3, .int .i64 0]) ?_ 1 _ rfl; (with_reducible repeat (first | refine blk_drewN ?_ _ | refine blk_drew ?_ | refine blk_alloc ?_ _)); refine blk_put (cs := #[.int .i64 0, .int .i64 0]) ?_ 0 _ rfl; (with_reducible repeat (first | refine blk_drewN ?_ _ | refine blk_drew ?_ | refine blk_alloc ?_ _)); refine blk_put (cs := #[.int .i64 0, .int .i64 0]) ?_ 1 _ rfl; (with_reducible repeat (first | refine blk_drewN ?_ _ | refine blk_drew ?_ | refine blk_alloc ?_ _)); refine blk_put (cs := #[.int .i64 0, .int .i64 0]) ?_ 0 _ rfl; exact bkw_ BK370.out) hb); have n2_ := Aside0.mk (below_step (bla_ HB.out) hb); clear BK361; clear BK370; clear HB; have BK361 := n0_; have BK370 := n1_; have HB := n2_; clear n0_ n1_ n2_; (try clear hb); (try clear hb2); (try clear hk); (try clear hi)) | ((with_reducible refine gate_dst (N := 19) rfl ?_); (try (refine gate_guard (by rfl) ?_; dsimp only)); refine box_event ?hg (N := 19) ?hd (cs := #[.int .i64 0, .int .i64 0]) (t := 26) ?hr ?_; (case hd => rfl); (case hg => rfl); (case hr => first | (go_simp; done) | (go_simp; rfl)); intro gb375 hg w75 hbox hb; have n0_ := Aside0.mk (blk_below (g := gb361) (o := .cells #[.int .i64 t365, .int .i64 t366] 26 (0, 0)) (by exact bkw_ BK361.out) hb); have n1_ := Aside0.mk (blk_below (g := gb370) (o := .cells #[.int .i64 3, .int .i64 t369] 26 (0, 0)) (by exact bkw_ BK370.out) hb); have n2_ := Aside0.mk (below_step (bla_ HB.out) hb); have n3_ := Aside0.mk (hbox); have n4_ := Aside0.mk ((by rw [hg]; exact (below_size (bla_ HB.out)) : w.heap.size ≤ gb375)); have n5_ := Aside0.mk ((by rw [hg]; exact (below_size (bla_ HB.out)) : w.heap.size ≤ gb375)); have n6_ := Aside0.mk ((by rw [hg]; exact Nat.ne_of_lt (blk_lt (g := gb361) (o := .cells #[.int .i64 t365, .int .i64 t366] 26 (0, 0)) (by exact bkw_ BK361.out)) : gb361 ≠ gb375)); have n7_ := Aside0.mk ((by rw [hg]; exact Nat.ne_of_gt (blk_lt (g := gb361) (o := .cells #[.int .i64 t365, .int .i64 t366] 26 (0, 0)) (by exact bkw_ BK361.out)) : gb375 ≠ gb361)); have n8_ := Aside0.mk ((by rw [hg]; exact Nat.ne_of_lt (blk_lt (g := gb370) (o := .cells #[.int .i64 3, .int .i64 t369] 26 (0, 0)) (by exact bkw_ BK370.out)) : gb370 ≠ gb375)); have n9_ := Aside0.mk ((by rw [hg]; exact Nat.ne_of_gt (blk_lt (g := gb370) (o := .cells #[.int .i64 3, .int .i64 t369] 26 (0, 0)) (by exact bkw_ BK370.out)) : gb375 ≠ gb370)); clear BK361; clear BK370; clear HB; have BK361 := n0_; have BK370 := n1_; have HB := n2_; have BK375 := n3_; have GW375 := n4_; have GE375 := n5_; have NB361_375 := n6_; have NB375_361 := n7_; have NB370_375 := n8_; have NB375_370 := n9_; clear n0_ n1_ n2_ n3_ n4_ n5_ n6_ n7_ n8_ n9_; clear hb hbox hg; have hnb76 := NB375_361.out; have hnc76 := NB361_375.out; have hnb77 := NB375_370.out; have hnc77 := NB370_375.out; have hcz78_0 : w75.cell? ⟨gb375, 0, none⟩ = some (.int .i64 0) := (blk_cell BK375.out 0).trans rfl; have hcz78_1 : w75.cell? ⟨gb375, 1, none⟩ = some (.int .i64 0) := (blk_cell BK375.out 1).trans rfl; have hfz78_0 := blk_frozen BK375.out 0; have hfz78_1 := blk_frozen BK375.out 1; have hcz79_0 : w75.cell? ⟨gb361, 0, none⟩ = some (.int .i64 t365) := (blk_cell BK361.out 0).trans rfl; have hcz79_1 : w75.cell? ⟨gb361, 1, none⟩ = some (.int .i64 t366) := (blk_cell BK361.out 1).trans rfl; have hfz79_0 := blk_frozen BK361.out 0; have hfz79_1 := blk_frozen BK361.out 1; have hcz80_0 : w75.cell? ⟨gb370, 0, none⟩ = some (.int .i64 3) := (blk_cell BK370.out 0).trans rfl; have hcz80_1 : w75.cell? ⟨gb370, 1, none⟩ = some (.int .i64 t369) := (blk_cell BK370.out 1).trans rfl; have hfz80_0 := blk_frozen BK370.out 0; have hfz80_1 := blk_frozen BK370.out 1))
               go_ret
               exact ⟨fia_, bla_ HB.out⟩
             ·rw [if_neg c37] at H
              have c37b0 : (t364 == t368) = false := beq_eq_false_iff_ne.mpr c37
              have c37b1 : (t364 != t368) = true := bne_iff_ne.mpr c37
              obtain rfl := Option.some.inj H
              go_wp2_with (first | ((with_reducible refine gate_callee (f := 15) rfl ?_); refine goesL_ (some 80) rfl rfl Tryd.func15 (by kernel_rfl) rfl #[.string a1, .int .i64 (wrap64 (a2))] rfl lma_ ?_; (with_reducible refine (script_Unquote.calls kj19 a1 (wrap64 (a2)) t363 t364 t365 t366 _ A32.out).mono ?_); rintro e w81 ⟨rfl, hb⟩; refine ⟨_, rfl, ?_⟩; have n0_ := Aside0.mk (blk_below (g := gb361) (o := .cells #[.int .i64 t359, .int .i64 t360] 26 (0, 0)) (by exact bkw_ BK361.out) hb); have n1_ := Aside0.mk (below_step (blg_ HB.out GE361.out) hb); clear BK361; clear HB; have BK361 := n0_; have HB := n1_; clear n0_ n1_; (try clear hb); (try clear hb2); (try clear hk); (try clear hi); have hcz82_0 : w81.cell? ⟨gb361, 0, none⟩ = some (.int .i64 t359) := (blk_cell BK361.out 0).trans rfl; have hcz82_1 : w81.cell? ⟨gb361, 1, none⟩ = some (.int .i64 t360) := (blk_cell BK361.out 1).trans rfl; have hfz82_0 := blk_frozen BK361.out 0; have hfz82_1 := blk_frozen BK361.out 1) | ((with_reducible refine gate_callee (f := 17) rfl ?_); refine goesL_ (some 87) rfl rfl Tryd.func17 (by kernel_rfl) rfl #[.string a1, .int .i64 (wrap64 (a2))] rfl lma_ ?_; (with_reducible refine (spoolref48_Unquote.calls kj19 a1 (wrap64 (a2)) t367 t368 t369 _ A33.out).mono ?_); rintro e w83 ⟨rfl, hb⟩; refine ⟨_, rfl, ?_⟩; have n0_ := Aside0.mk (blk_below (g := gb361) (o := .cells #[.int .i64 t365, .int .i64 t366] 26 (0, 0)) (by (with_reducible repeat (first | refine blk_drewN ?_ _ | refine blk_drew ?_ | refine blk_alloc ?_ _)); refine blk_put (cs := #[.int .i64 t365, .int .i64 t360]) ?_ 1 _ rfl; (with_reducible repeat (first | refine blk_drewN ?_ _ | refine blk_drew ?_ | refine blk_alloc ?_ _)); refine blk_put (cs := #[.int .i64 t359, .int .i64 t360]) ?_ 0 _ rfl; exact bkw_ BK361.out) hb); have n1_ := Aside0.mk (below_step (blg_ HB.out GE361.out) hb); clear BK361; clear HB; have BK361 := n0_; have HB := n1_; clear n0_ n1_; (try clear hb); (try clear hb2); (try clear hk); (try clear hi)) | ((with_reducible refine gate_dst (N := 16) rfl ?_); (try (refine gate_guard (by rfl) ?_; dsimp only)); refine box_event ?hg (N := 16) ?hd (cs := #[.int .i64 0, .int .i64 0]) (t := 26) ?hr ?_; (case hd => rfl); (case hg => rfl); (case hr => first | (go_simp; done) | (go_simp; rfl)); intro gb370 hg w84 hbox hb; have n0_ := Aside0.mk (blk_below (g := gb361) (o := .cells #[.int .i64 t365, .int .i64 t366] 26 (0, 0)) (by exact bkw_ BK361.out) hb); have n1_ := Aside0.mk (below_step (blg_ HB.out GE361.out) hb); have n2_ := Aside0.mk (hbox); have n3_ := Aside0.mk ((by rw [hg]; exact (below_size (blg_ HB.out GE361.out)) : w.heap.size ≤ gb370)); have n4_ := Aside0.mk ((by rw [hg]; exact (below_size (blg_ HB.out GE361.out)) : w.heap.size ≤ gb370)); have n5_ := Aside0.mk ((by rw [hg]; exact Nat.ne_of_lt (blk_lt (g := gb361) (o := .cells #[.int .i64 t365, .int .i64 t366] 26 (0, 0)) (by exact bkw_ BK361.out)) : gb361 ≠ gb370)); have n6_ := Aside0.mk ((by rw [hg]; exact Nat.ne_of_gt (blk_lt (g := gb361) (o := .cells #[.int .i64 t365, .int .i64 t366] 26 (0, 0)) (by exact bkw_ BK361.out)) : gb370 ≠ gb361)); clear BK361; clear HB; have BK361 := n0_; have HB := n1_; have BK370 := n2_; have GW370 := n3_; have GE370 := n4_; have NB361_370 := n5_; have NB370_361 := n6_; clear n0_ n1_ n2_ n3_ n4_ n5_ n6_; clear hb hbox hg; have hnb85 := NB370_361.out; have hnc85 := NB361_370.out; have hcz86_0 : w84.cell? ⟨gb370, 0, none⟩ = some (.int .i64 0) := (blk_cell BK370.out 0).trans rfl; have hcz86_1 : w84.cell? ⟨gb370, 1, none⟩ = some (.int .i64 0) := (blk_cell BK370.out 1).trans rfl; have hfz86_0 := blk_frozen BK370.out 0; have hfz86_1 := blk_frozen BK370.out 1) | ((with_reducible refine gate_callee (f := 15) rfl ?_); refine goesL_ (some 98) rfl rfl Tryd.func15 (by kernel_rfl) rfl #[.string a0, .int .i64 (-1)] rfl lma_ ?_; (with_reducible refine (script_Unquote.calls kj19 a0 (-1) t371 t372 t373 t374 _ A35.out).mono ?_); rintro e w87 ⟨rfl, hb⟩; refine ⟨_, rfl, ?_⟩; have n0_ := Aside0.mk (blk_below (g := gb361) (o := .cells #[.int .i64 t365, .int .i64 t366] 26 (0, 0)) (by (with_reducible repeat (first | refine blk_drewN ?_ _ | refine blk_drew ?_ | refine blk_alloc ?_ _)); refine blk_far ?_ NB361_370.out _; (with_reducible repeat (first | refine blk_drewN ?_ _ | refine blk_drew ?_ | refine blk_alloc ?_ _)); refine blk_far ?_ NB361_370.out _; (with_reducible repeat (first | refine blk_drewN ?_ _ | refine blk_drew ?_ | refine blk_alloc ?_ _)); refine blk_far ?_ NB361_370.out _; (with_reducible repeat (first | refine blk_drewN ?_ _ | refine blk_drew ?_ | refine blk_alloc ?_ _)); refine blk_far ?_ NB361_370.out _; exact bkw_ BK361.out) hb); have n1_ := Aside0.mk (blk_below (g := gb370) (o := .cells #[.int .i64 3, .int .i64 t369] 26 (0, 0)) (by (with_reducible repeat (first | refine blk_drewN ?_ _ | refine blk_drew ?_ | refine blk_alloc ?_ _)); refine blk_put (cs := #[.int .i64 3, .int .i64 0]) ?_ 1 _ rfl; (with_reducible repeat (first | refine blk_drewN ?_ _ | refine blk_drew ?_ | refine blk_alloc ?_ _)); refine blk_put (cs := #[.int .i64 0, .int .i64 0]) ?_ 0 _ rfl; (with_reducible repeat (first | refine blk_drewN ?_ _ | refine blk_drew ?_ | refine blk_alloc ?_ _)); refine blk_put (cs := #[.int .i64 0, .int .i64 0]) ?_ 1 _ rfl; (with_reducible repeat (first | refine blk_drewN ?_ _ | refine blk_drew ?_ | refine blk_alloc ?_ _)); refine blk_put (cs := #[.int .i64 0, .int .i64 0]) ?_ 0 _ rfl; exact bkw_ BK370.out) hb); have n2_ := Aside0.mk (below_step (bla_ HB.out) hb); clear BK361; clear BK370; clear HB; have BK361 := n0_; have BK370 := n1_; have HB := n2_; clear n0_ n1_ n2_; (try clear hb); (try clear hb2); (try clear hk); (try clear hi)) | ((with_reducible refine gate_dst (N := 19) rfl ?_); (try (refine gate_guard (by rfl) ?_; dsimp only)); refine box_event ?hg (N := 19) ?hd (cs := #[.int .i64 0, .int .i64 0]) (t := 26) ?hr ?_; (case hd => rfl); (case hg => rfl); (case hr => first | (go_simp; done) | (go_simp; rfl)); intro gb375 hg w88 hbox hb; have n0_ := Aside0.mk (blk_below (g := gb361) (o := .cells #[.int .i64 t365, .int .i64 t366] 26 (0, 0)) (by exact bkw_ BK361.out) hb); have n1_ := Aside0.mk (blk_below (g := gb370) (o := .cells #[.int .i64 3, .int .i64 t369] 26 (0, 0)) (by exact bkw_ BK370.out) hb); have n2_ := Aside0.mk (below_step (bla_ HB.out) hb); have n3_ := Aside0.mk (hbox); have n4_ := Aside0.mk ((by rw [hg]; exact (below_size (bla_ HB.out)) : w.heap.size ≤ gb375)); have n5_ := Aside0.mk ((by rw [hg]; exact (below_size (bla_ HB.out)) : w.heap.size ≤ gb375)); have n6_ := Aside0.mk ((by rw [hg]; exact Nat.ne_of_lt (blk_lt (g := gb361) (o := .cells #[.int .i64 t365, .int .i64 t366] 26 (0, 0)) (by exact bkw_ BK361.out)) : gb361 ≠ gb375)); have n7_ := Aside0.mk ((by rw [hg]; exact Nat.ne_of_gt (blk_lt (g := gb361) (o := .cells #[.int .i64 t365, .int .i64 t366] 26 (0, 0)) (by exact bkw_ BK361.out)) : gb375 ≠ gb361)); have n8_ := Aside0.mk ((by rw [hg]; exact Nat.ne_of_lt (blk_lt (g := gb370) (o := .cells #[.int .i64 3, .int .i64 t369] 26 (0, 0)) (by exact bkw_ BK370.out)) : gb370 ≠ gb375)); have n9_ := Aside0.mk ((by rw [hg]; exact Nat.ne_of_gt (blk_lt (g := gb370) (o := .cells #[.int .i64 3, .int .i64 t369] 26 (0, 0)) (by exact bkw_ BK370.out)) : gb375 ≠ gb370)); clear BK361; clear BK370; clear HB; have BK361 := n0_; have BK370 := n1_; have HB := n2_; have BK375 := n3_; have GW375 := n4_; have GE375 := n5_; have NB361_375 := n6_; have NB375_361 := n7_; have NB370_375 := n8_; have NB375_370 := n9_; clear n0_ n1_ n2_ n3_ n4_ n5_ n6_ n7_ n8_ n9_; clear hb hbox hg; have hnb89 := NB375_361.out; have hnc89 := NB361_375.out; have hnb90 := NB375_370.out; have hnc90 := NB370_375.out; have hcz91_0 : w88.cell? ⟨gb375, 0, none⟩ = some (.int .i64 0) := (blk_cell BK375.out 0).trans rfl; have hcz91_1 : w88.cell? ⟨gb375, 1, none⟩ = some (.int .i64 0) := (blk_cell BK375.out 1).trans rfl; have hfz91_0 := blk_frozen BK375.out 0; have hfz91_1 := blk_frozen BK375.out 1))
              go_ret
              exact ⟨fia_, bla_ HB.out⟩
            ·rw [if_neg c36] at H
             have c36b0 : (t363.toList == t367.toList) = false := beq_eq_false_iff_ne.mpr c36
             have c36b1 : (t363.toList != t367.toList) = true := bne_iff_ne.mpr c36
             obtain rfl := Option.some.inj H
             go_wp2_with (first | ((with_reducible refine gate_callee (f := 15) rfl ?_); refine goesL_ (some 80) rfl rfl Tryd.func15 (by kernel_rfl) rfl #[.string a1, .int .i64 (wrap64 (a2))] rfl lma_ ?_; (with_reducible refine (script_Unquote.calls kj19 a1 (wrap64 (a2)) t363 t364 t365 t366 _ A32.out).mono ?_); rintro e w92 ⟨rfl, hb⟩; refine ⟨_, rfl, ?_⟩; have n0_ := Aside0.mk (blk_below (g := gb361) (o := .cells #[.int .i64 t359, .int .i64 t360] 26 (0, 0)) (by exact bkw_ BK361.out) hb); have n1_ := Aside0.mk (below_step (blg_ HB.out GE361.out) hb); clear BK361; clear HB; have BK361 := n0_; have HB := n1_; clear n0_ n1_; (try clear hb); (try clear hb2); (try clear hk); (try clear hi); have hcz93_0 : w92.cell? ⟨gb361, 0, none⟩ = some (.int .i64 t359) := (blk_cell BK361.out 0).trans rfl; have hcz93_1 : w92.cell? ⟨gb361, 1, none⟩ = some (.int .i64 t360) := (blk_cell BK361.out 1).trans rfl; have hfz93_0 := blk_frozen BK361.out 0; have hfz93_1 := blk_frozen BK361.out 1) | ((with_reducible refine gate_callee (f := 17) rfl ?_); refine goesL_ (some 87) rfl rfl Tryd.func17 (by kernel_rfl) rfl #[.string a1, .int .i64 (wrap64 (a2))] rfl lma_ ?_; (with_reducible refine (spoolref48_Unquote.calls kj19 a1 (wrap64 (a2)) t367 t368 t369 _ A33.out).mono ?_); rintro e w94 ⟨rfl, hb⟩; refine ⟨_, rfl, ?_⟩; have n0_ := Aside0.mk (blk_below (g := gb361) (o := .cells #[.int .i64 t365, .int .i64 t366] 26 (0, 0)) (by (with_reducible repeat (first | refine blk_drewN ?_ _ | refine blk_drew ?_ | refine blk_alloc ?_ _)); refine blk_put (cs := #[.int .i64 t365, .int .i64 t360]) ?_ 1 _ rfl; (with_reducible repeat (first | refine blk_drewN ?_ _ | refine blk_drew ?_ | refine blk_alloc ?_ _)); refine blk_put (cs := #[.int .i64 t359, .int .i64 t360]) ?_ 0 _ rfl; exact bkw_ BK361.out) hb); have n1_ := Aside0.mk (below_step (blg_ HB.out GE361.out) hb); clear BK361; clear HB; have BK361 := n0_; have HB := n1_; clear n0_ n1_; (try clear hb); (try clear hb2); (try clear hk); (try clear hi)) | ((with_reducible refine gate_dst (N := 16) rfl ?_); (try (refine gate_guard (by rfl) ?_; dsimp only)); refine box_event ?hg (N := 16) ?hd (cs := #[.int .i64 0, .int .i64 0]) (t := 26) ?hr ?_; (case hd => rfl); (case hg => rfl); (case hr => first | (go_simp; done) | (go_simp; rfl)); intro gb370 hg w95 hbox hb; have n0_ := Aside0.mk (blk_below (g := gb361) (o := .cells #[.int .i64 t365, .int .i64 t366] 26 (0, 0)) (by exact bkw_ BK361.out) hb); have n1_ := Aside0.mk (below_step (blg_ HB.out GE361.out) hb); have n2_ := Aside0.mk (hbox); have n3_ := Aside0.mk ((by rw [hg]; exact (below_size (blg_ HB.out GE361.out)) : w.heap.size ≤ gb370)); have n4_ := Aside0.mk ((by rw [hg]; exact (below_size (blg_ HB.out GE361.out)) : w.heap.size ≤ gb370)); have n5_ := Aside0.mk ((by rw [hg]; exact Nat.ne_of_lt (blk_lt (g := gb361) (o := .cells #[.int .i64 t365, .int .i64 t366] 26 (0, 0)) (by exact bkw_ BK361.out)) : gb361 ≠ gb370)); have n6_ := Aside0.mk ((by rw [hg]; exact Nat.ne_of_gt (blk_lt (g := gb361) (o := .cells #[.int .i64 t365, .int .i64 t366] 26 (0, 0)) (by exact bkw_ BK361.out)) : gb370 ≠ gb361)); clear BK361; clear HB; have BK361 := n0_; have HB := n1_; have BK370 := n2_; have GW370 := n3_; have GE370 := n4_; have NB361_370 := n5_; have NB370_361 := n6_; clear n0_ n1_ n2_ n3_ n4_ n5_ n6_; clear hb hbox hg; have hnb96 := NB370_361.out; have hnc96 := NB361_370.out; have hcz97_0 : w95.cell? ⟨gb370, 0, none⟩ = some (.int .i64 0) := (blk_cell BK370.out 0).trans rfl; have hcz97_1 : w95.cell? ⟨gb370, 1, none⟩ = some (.int .i64 0) := (blk_cell BK370.out 1).trans rfl; have hfz97_0 := blk_frozen BK370.out 0; have hfz97_1 := blk_frozen BK370.out 1) | ((with_reducible refine gate_callee (f := 15) rfl ?_); refine goesL_ (some 98) rfl rfl Tryd.func15 (by kernel_rfl) rfl #[.string a0, .int .i64 (-1)] rfl lma_ ?_; (with_reducible refine (script_Unquote.calls kj19 a0 (-1) t371 t372 t373 t374 _ A35.out).mono ?_); rintro e w98 ⟨rfl, hb⟩; refine ⟨_, rfl, ?_⟩; have n0_ := Aside0.mk (blk_below (g := gb361) (o := .cells #[.int .i64 t365, .int .i64 t366] 26 (0, 0)) (by (with_reducible repeat (first | refine blk_drewN ?_ _ | refine blk_drew ?_ | refine blk_alloc ?_ _)); refine blk_far ?_ NB361_370.out _; (with_reducible repeat (first | refine blk_drewN ?_ _ | refine blk_drew ?_ | refine blk_alloc ?_ _)); refine blk_far ?_ NB361_370.out _; (with_reducible repeat (first | refine blk_drewN ?_ _ | refine blk_drew ?_ | refine blk_alloc ?_ _)); refine blk_far ?_ NB361_370.out _; (with_reducible repeat (first | refine blk_drewN ?_ _ | refine blk_drew ?_ | refine blk_alloc ?_ _)); refine blk_far ?_ NB361_370.out _; exact bkw_ BK361.out) hb); have n1_ := Aside0.mk (blk_below (g := gb370) (o := .cells #[.int .i64 3, .int .i64 t369] 26 (0, 0)) (by (with_reducible repeat (first | refine blk_drewN ?_ _ | refine blk_drew ?_ | refine blk_alloc ?_ _)); refine blk_put (cs := #[.int .i64 3, .int .i64 0]) ?_ 1 _ rfl; (with_reducible repeat (first | refine blk_drewN ?_ _ | refine blk_drew ?_ | refine blk_alloc ?_ _)); refine blk_put (cs := #[.int .i64 0, .int .i64 0]) ?_ 0 _ rfl; (with_reducible repeat (first | refine blk_drewN ?_ _ | refine blk_drew ?_ | refine blk_alloc ?_ _)); refine blk_put (cs := #[.int .i64 0, .int .i64 0]) ?_ 1 _ rfl; (with_reducible repeat (first | refine blk_drewN ?_ _ | refine blk_drew ?_ | refine blk_alloc ?_ _)); refine blk_put (cs := #[.int .i64 0, .int .i64 0]) ?_ 0 _ rfl; exact bkw_ BK370.out) hb); have n2_ := Aside0.mk (below_step (bla_ HB.out) hb); clear BK361; clear BK370; clear HB; have BK361 := n0_; have BK370 := n1_; have HB := n2_; clear n0_ n1_ n2_; (try clear hb); (try clear hb2); (try clear hk); (try clear hi)) | ((with_reducible refine gate_dst (N := 19) rfl ?_); (try (refine gate_guard (by rfl) ?_; dsimp only)); refine box_event ?hg (N := 19) ?hd (cs := #[.int .i64 0, .int .i64 0]) (t := 26) ?hr ?_; (case hd => rfl); (case hg => rfl); (case hr => first | (go_simp; done) | (go_simp; rfl)); intro gb375 hg w99 hbox hb; have n0_ := Aside0.mk (blk_below (g := gb361) (o := .cells #[.int .i64 t365, .int .i64 t366] 26 (0, 0)) (by exact bkw_ BK361.out) hb); have n1_ := Aside0.mk (blk_below (g := gb370) (o := .cells #[.int .i64 3, .int .i64 t369] 26 (0, 0)) (by exact bkw_ BK370.out) hb); have n2_ := Aside0.mk (below_step (bla_ HB.out) hb); have n3_ := Aside0.mk (hbox); have n4_ := Aside0.mk ((by rw [hg]; exact (below_size (bla_ HB.out)) : w.heap.size ≤ gb375)); have n5_ := Aside0.mk ((by rw [hg]; exact (below_size (bla_ HB.out)) : w.heap.size ≤ gb375)); have n6_ := Aside0.mk ((by rw [hg]; exact Nat.ne_of_lt (blk_lt (g := gb361) (o := .cells #[.int .i64 t365, .int .i64 t366] 26 (0, 0)) (by exact bkw_ BK361.out)) : gb361 ≠ gb375)); have n7_ := Aside0.mk ((by rw [hg]; exact Nat.ne_of_gt (blk_lt (g := gb361) (o := .cells #[.int .i64 t365, .int .i64 t366] 26 (0, 0)) (by exact bkw_ BK361.out)) : gb375 ≠ gb361)); have n8_ := Aside0.mk ((by rw [hg]; exact Nat.ne_of_lt (blk_lt (g := gb370) (o := .cells #[.int .i64 3, .int .i64 t369] 26 (0, 0)) (by exact bkw_ BK370.out)) : gb370 ≠ gb375)); have n9_ := Aside0.mk ((by rw [hg]; exact Nat.ne_of_gt (blk_lt (g := gb370) (o := .cells #[.int .i64 3, .int .i64 t369] 26 (0, 0)) (by exact bkw_ BK370.out)) : gb375 ≠ gb370)); clear BK361; clear BK370; clear HB; have BK361 := n0_; have BK370 := n1_; have HB := n2_; have BK375 := n3_; have GW375 := n4_; have GE375 := n5_; have NB361_375 := n6_; have NB375_361 := n7_; have NB370_375 := n8_; have NB375_370 := n9_; clear n0_ n1_ n2_ n3_ n4_ n5_ n6_ n7_ n8_ n9_; clear hb hbox hg; have hnb100 := NB375_361.out; have hnc100 := NB361_375.out; have hnb101 := NB375_370.out; have hnc101 := NB370_375.out; have hcz102_0 : w99.cell? ⟨gb375, 0, none⟩ = some (.int .i64 0) := (blk_cell BK375.out 0).trans rfl; have hcz102_1 : w99.cell? ⟨gb375, 1, none⟩ = some (.int .i64 0) := (blk_cell BK375.out 1).trans rfl; have hfz102_0 := blk_frozen BK375.out 0; have hfz102_1 := blk_frozen BK375.out 1))
             go_ret
             exact ⟨fia_, bla_ HB.out⟩
           ·rw [if_neg c34] at H
            have c34b0 : decide (0 ≤ t369) = false := decide_eq_false c34
            clear c34
            replace H := Option.bind_eq_some_iff.mp H
            obtain ⟨⟨t377, t378, t379, t380⟩, A1030, H⟩ := H
            replace H : (if t363.toList = t367.toList then (if t364 = t368 then (if (t365 == 0 && (t366 == 0)) = true then (if (t379 == 3 && (t380 == (-1))) = true then ((spoollaw48_alive.f kj19).bind fun t382 => (some t382)) else (some false)) else (some false)) else (some false)) else (some false)) = some r := H
            have A103 := Aside0.mk A1030
            clear A1030
            by_cases c104 : t363.toList = t367.toList
            ·rw [if_pos c104] at H
             have c104b0 : (t363.toList == t367.toList) = true := beq_iff_eq.mpr c104
             have c104b1 : (t363.toList != t367.toList) = false := bne_eq_false_iff_eq.mpr c104
             clear c104
             by_cases c105 : t364 = t368
             ·rw [if_pos c105] at H
              have c105b0 : (t364 == t368) = true := beq_iff_eq.mpr c105
              have c105b1 : (t364 != t368) = false := bne_eq_false_iff_eq.mpr c105
              clear c105
              by_cases c106 : (t365 == 0 && (t366 == 0)) = true
              ·rw [if_pos c106] at H
               have c106b0 : (t365 == 0 && (t366 == 0)) = true := c106
               (try (have c106b1 : decide (t365 = 0 && (t366 == 0)) = true := by simpa using c106))
               (try (have c106b2 : (t365 == 0 && (t366 == 0)) = true := by simpa using c106))
               clear c106
               by_cases c107 : (t379 == 3 && (t380 == (-1))) = true
               ·rw [if_pos c107] at H
                have c107b0 : (t379 == 3 && (t380 == (-1))) = true := c107
                (try (have c107b1 : decide (t379 = 3 && (t380 == (-1))) = true := by simpa using c107))
                (try (have c107b2 : (t379 == 3 && (t380 == (-1))) = true := by simpa using c107))
                clear c107
                replace H := Option.bind_eq_some_iff.mp H
                obtain ⟨t382, A1080, H⟩ := H
                replace H : (some t382) = some r := H
                have A108 := Aside0.mk A1080
                clear A1080
                obtain rfl := Option.some.inj H
                go_wp2_with (first | ((with_reducible refine gate_callee (f := 15) rfl ?_); refine goesL_ (some 80) rfl rfl Tryd.func15 (by kernel_rfl) rfl #[.string a1, .int .i64 (wrap64 (a2))] rfl lma_ ?_; (with_reducible refine (script_Unquote.calls kj19 a1 (wrap64 (a2)) t363 t364 t365 t366 _ A32.out).mono ?_); rintro e w109 ⟨rfl, hb⟩; refine ⟨_, rfl, ?_⟩; have n0_ := Aside0.mk (blk_below (g := gb361) (o := .cells #[.int .i64 t359, .int .i64 t360] 26 (0, 0)) (by exact bkw_ BK361.out) hb); have n1_ := Aside0.mk (below_step (blg_ HB.out GE361.out) hb); clear BK361; clear HB; have BK361 := n0_; have HB := n1_; clear n0_ n1_; (try clear hb); (try clear hb2); (try clear hk); (try clear hi); have hcz110_0 : w109.cell? ⟨gb361, 0, none⟩ = some (.int .i64 t359) := (blk_cell BK361.out 0).trans rfl; have hcz110_1 : w109.cell? ⟨gb361, 1, none⟩ = some (.int .i64 t360) := (blk_cell BK361.out 1).trans rfl; have hfz110_0 := blk_frozen BK361.out 0; have hfz110_1 := blk_frozen BK361.out 1) | ((with_reducible refine gate_callee (f := 17) rfl ?_); refine goesL_ (some 87) rfl rfl Tryd.func17 (by kernel_rfl) rfl #[.string a1, .int .i64 (wrap64 (a2))] rfl lma_ ?_; (with_reducible refine (spoolref48_Unquote.calls kj19 a1 (wrap64 (a2)) t367 t368 t369 _ A33.out).mono ?_); rintro e w111 ⟨rfl, hb⟩; refine ⟨_, rfl, ?_⟩; have n0_ := Aside0.mk (blk_below (g := gb361) (o := .cells #[.int .i64 t365, .int .i64 t366] 26 (0, 0)) (by (with_reducible repeat (first | refine blk_drewN ?_ _ | refine blk_drew ?_ | refine blk_alloc ?_ _)); refine blk_put (cs := #[.int .i64 t365, .int .i64 t360]) ?_ 1 _ rfl; (with_reducible repeat (first | refine blk_drewN ?_ _ | refine blk_drew ?_ | refine blk_alloc ?_ _)); refine blk_put (cs := #[.int .i64 t359, .int .i64 t360]) ?_ 0 _ rfl; exact bkw_ BK361.out) hb); have n1_ := Aside0.mk (below_step (blg_ HB.out GE361.out) hb); clear BK361; clear HB; have BK361 := n0_; have HB := n1_; clear n0_ n1_; (try clear hb); (try clear hb2); (try clear hk); (try clear hi)) | ((with_reducible refine gate_dst (N := 16) rfl ?_); (try (refine gate_guard (by rfl) ?_; dsimp only)); refine box_event ?hg (N := 16) ?hd (cs := #[.int .i64 0, .int .i64 0]) (t := 26) ?hr ?_; (case hd => rfl); (case hg => rfl); (case hr => first | (go_simp; done) | (go_simp; rfl)); intro gb370 hg w112 hbox hb; have n0_ := Aside0.mk (blk_below (g := gb361) (o := .cells #[.int .i64 t365, .int .i64 t366] 26 (0, 0)) (by exact bkw_ BK361.out) hb); have n1_ := Aside0.mk (below_step (blg_ HB.out GE361.out) hb); have n2_ := Aside0.mk (hbox); have n3_ := Aside0.mk ((by rw [hg]; exact (below_size (blg_ HB.out GE361.out)) : w.heap.size ≤ gb370)); have n4_ := Aside0.mk ((by rw [hg]; exact (below_size (blg_ HB.out GE361.out)) : w.heap.size ≤ gb370)); have n5_ := Aside0.mk ((by rw [hg]; exact Nat.ne_of_lt (blk_lt (g := gb361) (o := .cells #[.int .i64 t365, .int .i64 t366] 26 (0, 0)) (by exact bkw_ BK361.out)) : gb361 ≠ gb370)); have n6_ := Aside0.mk ((by rw [hg]; exact Nat.ne_of_gt (blk_lt (g := gb361) (o := .cells #[.int .i64 t365, .int .i64 t366] 26 (0, 0)) (by exact bkw_ BK361.out)) : gb370 ≠ gb361)); clear BK361; clear HB; have BK361 := n0_; have HB := n1_; have BK370 := n2_; have GW370 := n3_; have GE370 := n4_; have NB361_370 := n5_; have NB370_361 := n6_; clear n0_ n1_ n2_ n3_ n4_ n5_ n6_; clear hb hbox hg; have hnb113 := NB370_361.out; have hnc113 := NB361_370.out; have hcz114_0 : w112.cell? ⟨gb370, 0, none⟩ = some (.int .i64 0) := (blk_cell BK370.out 0).trans rfl; have hcz114_1 : w112.cell? ⟨gb370, 1, none⟩ = some (.int .i64 0) := (blk_cell BK370.out 1).trans rfl; have hfz114_0 := blk_frozen BK370.out 0; have hfz114_1 := blk_frozen BK370.out 1) | ((with_reducible refine gate_callee (f := 15) rfl ?_); refine goesL_ (some 98) rfl rfl Tryd.func15 (by kernel_rfl) rfl #[.string a0, .int .i64 (-1)] rfl lma_ ?_; (with_reducible refine (script_Unquote.calls kj19 a0 (-1) t377 t378 t379 t380 _ A103.out).mono ?_); rintro e w115 ⟨rfl, hb⟩; refine ⟨_, rfl, ?_⟩; have n0_ := Aside0.mk (blk_below (g := gb361) (o := .cells #[.int .i64 t365, .int .i64 t366] 26 (0, 0)) (by (with_reducible repeat (first | refine blk_drewN ?_ _ | refine blk_drew ?_ | refine blk_alloc ?_ _)); refine blk_far ?_ NB361_370.out _; (with_reducible repeat (first | refine blk_drewN ?_ _ | refine blk_drew ?_ | refine blk_alloc ?_ _)); refine blk_far ?_ NB361_370.out _; exact bkw_ BK361.out) hb); have n1_ := Aside0.mk (blk_below (g := gb370) (o := .cells #[.int .i64 0, .int .i64 0] 26 (0, 0)) (by (with_reducible repeat (first | refine blk_drewN ?_ _ | refine blk_drew ?_ | refine blk_alloc ?_ _)); refine blk_put (cs := #[.int .i64 0, .int .i64 0]) ?_ 1 _ rfl; (with_reducible repeat (first | refine blk_drewN ?_ _ | refine blk_drew ?_ | refine blk_alloc ?_ _)); refine blk_put (cs := #[.int .i64 0, .int .i64 0]) ?_ 0 _ rfl; exact bkw_ BK370.out) hb); have n2_ := Aside0.mk (below_step (bla_ HB.out) hb); clear BK361; clear BK370; clear HB; have BK361 := n0_; have BK370 := n1_; have HB := n2_; clear n0_ n1_ n2_; (try clear hb); (try clear hb2); (try clear hk); (try clear hi)) | ((with_reducible refine gate_dst (N := 19) rfl ?_); (try (refine gate_guard (by rfl) ?_; dsimp only)); refine box_event ?hg (N := 19) ?hd (cs := #[.int .i64 0, .int .i64 0]) (t := 26) ?hr ?_; (case hd => rfl); (case hg => rfl); (case hr => first | (go_simp; done) | (go_simp; rfl)); intro gb381 hg w116 hbox hb; have n0_ := Aside0.mk (blk_below (g := gb361) (o := .cells #[.int .i64 t365, .int .i64 t366] 26 (0, 0)) (by exact bkw_ BK361.out) hb); have n1_ := Aside0.mk (blk_below (g := gb370) (o := .cells #[.int .i64 0, .int .i64 0] 26 (0, 0)) (by exact bkw_ BK370.out) hb); have n2_ := Aside0.mk (below_step (bla_ HB.out) hb); have n3_ := Aside0.mk (hbox); have n4_ := Aside0.mk ((by rw [hg]; exact (below_size (bla_ HB.out)) : w.heap.size ≤ gb381)); have n5_ := Aside0.mk ((by rw [hg]; exact (below_size (bla_ HB.out)) : w.heap.size ≤ gb381)); have n6_ := Aside0.mk ((by rw [hg]; exact Nat.ne_of_lt (blk_lt (g := gb361) (o := .cells #[.int .i64 t365, .int .i64 t366] 26 (0, 0)) (by exact bkw_ BK361.out)) : gb361 ≠ gb381)); have n7_ := Aside0.mk ((by rw [hg]; exact Nat.ne_of_gt (blk_lt (g := gb361) (o := .cells #[.int .i64 t365, .int .i64 t366] 26 (0, 0)) (by exact bkw_ BK361.out)) : gb381 ≠ gb361)); have n8_ := Aside0.mk ((by rw [hg]; exact Nat.ne_of_lt (blk_lt (g := gb370) (o := .cells #[.int .i64 0, .int .i64 0] 26 (0, 0)) (by exact bkw_ BK370.out)) : gb370 ≠ gb381)); have n9_ := Aside0.mk ((by rw [hg]; exact Nat.ne_of_gt (blk_lt (g := gb370) (o := .cells #[.int .i64 0, .int .i64 0] 26 (0, 0)) (by exact bkw_ BK370.out)) : gb381 ≠ gb370)); clear BK361; clear BK370; clear HB; have BK361 := n0_; have BK370 := n1_; have HB := n2_; have BK381 := n3_; have GW381 := n4_; have GE381 := n5_; have NB361_381 := n6_; have NB381_361 := n7_; have NB370_381 := n8_; have NB381_370 := n9_; clear n0_ n1_ n2_ n3_ n4_ n5_ n6_ n7_ n8_ n9_; clear hb hbox hg; have hnb117 := NB381_361.out; have hnc117 := NB361_381.out; have hnb118 := NB381_370.out; have hnc118 := NB370_381.out; have hcz119_0 : w116.cell? ⟨gb381, 0, none⟩ = some (.int .i64 0) := (blk_cell BK381.out 0).trans rfl; have hcz119_1 : w116.cell? ⟨gb381, 1, none⟩ = some (.int .i64 0) := (blk_cell BK381.out 1).trans rfl; have hfz119_0 := blk_frozen BK381.out 0; have hfz119_1 := blk_frozen BK381.out 1; have hcz120_0 : w116.cell? ⟨gb361, 0, none⟩ = some (.int .i64 t365) := (blk_cell BK361.out 0).trans rfl; have hcz120_1 : w116.cell? ⟨gb361, 1, none⟩ = some (.int .i64 t366) := (blk_cell BK361.out 1).trans rfl; have hfz120_0 := blk_frozen BK361.out 0; have hfz120_1 := blk_frozen BK361.out 1; have hcz121_0 : w116.cell? ⟨gb370, 0, none⟩ = some (.int .i64 0) := (blk_cell BK370.out 0).trans rfl; have hcz121_1 : w116.cell? ⟨gb370, 1, none⟩ = some (.int .i64 0) := (blk_cell BK370.out 1).trans rfl; have hfz121_0 := blk_frozen BK370.out 0; have hfz121_1 := blk_frozen BK370.out 1) | (go_at_call 8; (with_reducible refine (spoollaw48_alive.calls kj19  t382 _ ?side1 ?side2 ?side3 A108.out).mono ?_); (case side1 => exact Kd.C_below HRG0.out (bla_ HB.out)); (case side2 => exact Kd.C_below HRG1.out (bla_ HB.out)); (case side3 => exact Kd.C_below HRG2.out (bla_ HB.out)); rintro e w122 ⟨rfl, hb⟩; have n0_ := Aside0.mk (blk_below (g := gb361) (o := .cells #[.int .i64 t365, .int .i64 t366] 26 (0, 0)) (by (with_reducible repeat (first | refine blk_drewN ?_ _ | refine blk_drew ?_ | refine blk_alloc ?_ _)); refine blk_far ?_ NB361_381.out _; (with_reducible repeat (first | refine blk_drewN ?_ _ | refine blk_drew ?_ | refine blk_alloc ?_ _)); refine blk_far ?_ NB361_381.out _; exact bkw_ BK361.out) hb); have n1_ := Aside0.mk (blk_below (g := gb370) (o := .cells #[.int .i64 0, .int .i64 0] 26 (0, 0)) (by (with_reducible repeat (first | refine blk_drewN ?_ _ | refine blk_drew ?_ | refine blk_alloc ?_ _)); refine blk_far ?_ NB370_381.out _; (with_reducible repeat (first | refine blk_drewN ?_ _ | refine blk_drew ?_ | refine blk_alloc ?_ _)); refine blk_far ?_ NB370_381.out _; exact bkw_ BK370.out) hb); have n2_ := Aside0.mk (blk_below (g := gb381) (o := .cells #[.int .i64 t379, .int .i64 t380] 26 (0, 0)) (by (with_reducible repeat (first | refine blk_drewN ?_ _ | refine blk_drew ?_ | refine blk_alloc ?_ _)); refine blk_put (cs := #[.int .i64 t379, .int .i64 0]) ?_ 1 _ rfl; (with_reducible repeat (first | refine blk_drewN ?_ _ | refine blk_drew ?_ | refine blk_alloc ?_ _)); refine blk_put (cs := #[.int .i64 0, .int .i64 0]) ?_ 0 _ rfl; exact bkw_ BK381.out) hb); have n3_ := Aside0.mk (below_step (bla_ HB.out) hb); clear BK361; clear BK370; clear BK381; clear HB; have BK361 := n0_; have BK370 := n1_; have BK381 := n2_; have HB := n3_; clear n0_ n1_ n2_ n3_; (try clear hb); (try clear hb2); (try clear hk); (try clear hi)))
                go_ret
                exact ⟨fia_, bla_ HB.out⟩
               ·rw [if_neg c107] at H
                have c107b0 : (t379 == 3 && (t380 == (-1))) = false := by simpa using c107
                (try (have c107b1 : decide (t379 = 3 && (t380 == (-1))) = false := by simpa using c107))
                (try (have c107b2 : (t379 == 3 && (t380 == (-1))) = false := by simpa using c107))
                (try (have c107b3 : ¬ (t379 = 3 && (t380 == (-1))) := by simpa using c107))
                clear c107
                obtain rfl := Option.some.inj H
                go_wp2_with (first | ((with_reducible refine gate_callee (f := 15) rfl ?_); refine goesL_ (some 80) rfl rfl Tryd.func15 (by kernel_rfl) rfl #[.string a1, .int .i64 (wrap64 (a2))] rfl lma_ ?_; (with_reducible refine (script_Unquote.calls kj19 a1 (wrap64 (a2)) t363 t364 t365 t366 _ A32.out).mono ?_); rintro e w123 ⟨rfl, hb⟩; refine ⟨_, rfl, ?_⟩; have n0_ := Aside0.mk (blk_below (g := gb361) (o := .cells #[.int .i64 t359, .int .i64 t360] 26 (0, 0)) (by exact bkw_ BK361.out) hb); have n1_ := Aside0.mk (below_step (blg_ HB.out GE361.out) hb); clear BK361; clear HB; have BK361 := n0_; have HB := n1_; clear n0_ n1_; (try clear hb); (try clear hb2); (try clear hk); (try clear hi); have hcz124_0 : w123.cell? ⟨gb361, 0, none⟩ = some (.int .i64 t359) := (blk_cell BK361.out 0).trans rfl; have hcz124_1 : w123.cell? ⟨gb361, 1, none⟩ = some (.int .i64 t360) := (blk_cell BK361.out 1).trans rfl; have hfz124_0 := blk_frozen BK361.out 0; have hfz124_1 := blk_frozen BK361.out 1) | ((with_reducible refine gate_callee (f := 17) rfl ?_); refine goesL_ (some 87) rfl rfl Tryd.func17 (by kernel_rfl) rfl #[.string a1, .int .i64 (wrap64 (a2))] rfl lma_ ?_; (with_reducible refine (spoolref48_Unquote.calls kj19 a1 (wrap64 (a2)) t367 t368 t369 _ A33.out).mono ?_); rintro e w125 ⟨rfl, hb⟩; refine ⟨_, rfl, ?_⟩; have n0_ := Aside0.mk (blk_below (g := gb361) (o := .cells #[.int .i64 t365, .int .i64 t366] 26 (0, 0)) (by (with_reducible repeat (first | refine blk_drewN ?_ _ | refine blk_drew ?_ | refine blk_alloc ?_ _)); refine blk_put (cs := #[.int .i64 t365, .int .i64 t360]) ?_ 1 _ rfl; (with_reducible repeat (first | refine blk_drewN ?_ _ | refine blk_drew ?_ | refine blk_alloc ?_ _)); refine blk_put (cs := #[.int .i64 t359, .int .i64 t360]) ?_ 0 _ rfl; exact bkw_ BK361.out) hb); have n1_ := Aside0.mk (below_step (blg_ HB.out GE361.out) hb); clear BK361; clear HB; have BK361 := n0_; have HB := n1_; clear n0_ n1_; (try clear hb); (try clear hb2); (try clear hk); (try clear hi)) | ((with_reducible refine gate_dst (N := 16) rfl ?_); (try (refine gate_guard (by rfl) ?_; dsimp only)); refine box_event ?hg (N := 16) ?hd (cs := #[.int .i64 0, .int .i64 0]) (t := 26) ?hr ?_; (case hd => rfl); (case hg => rfl); (case hr => first | (go_simp; done) | (go_simp; rfl)); intro gb370 hg w126 hbox hb; have n0_ := Aside0.mk (blk_below (g := gb361) (o := .cells #[.int .i64 t365, .int .i64 t366] 26 (0, 0)) (by exact bkw_ BK361.out) hb); have n1_ := Aside0.mk (below_step (blg_ HB.out GE361.out) hb); have n2_ := Aside0.mk (hbox); have n3_ := Aside0.mk ((by rw [hg]; exact (below_size (blg_ HB.out GE361.out)) : w.heap.size ≤ gb370)); have n4_ := Aside0.mk ((by rw [hg]; exact (below_size (blg_ HB.out GE361.out)) : w.heap.size ≤ gb370)); have n5_ := Aside0.mk ((by rw [hg]; exact Nat.ne_of_lt (blk_lt (g := gb361) (o := .cells #[.int .i64 t365, .int .i64 t366] 26 (0, 0)) (by exact bkw_ BK361.out)) : gb361 ≠ gb370)); have n6_ := Aside0.mk ((by rw [hg]; exact Nat.ne_of_gt (blk_lt (g := gb361) (o := .cells #[.int .i64 t365, .int .i64 t366] 26 (0, 0)) (by exact bkw_ BK361.out)) : gb370 ≠ gb361)); clear BK361; clear HB; have BK361 := n0_; have HB := n1_; have BK370 := n2_; have GW370 := n3_; have GE370 := n4_; have NB361_370 := n5_; have NB370_361 := n6_; clear n0_ n1_ n2_ n3_ n4_ n5_ n6_; clear hb hbox hg; have hnb127 := NB370_361.out; have hnc127 := NB361_370.out; have hcz128_0 : w126.cell? ⟨gb370, 0, none⟩ = some (.int .i64 0) := (blk_cell BK370.out 0).trans rfl; have hcz128_1 : w126.cell? ⟨gb370, 1, none⟩ = some (.int .i64 0) := (blk_cell BK370.out 1).trans rfl; have hfz128_0 := blk_frozen BK370.out 0; have hfz128_1 := blk_frozen BK370.out 1) | ((with_reducible refine gate_callee (f := 15) rfl ?_); refine goesL_ (some 98) rfl rfl Tryd.func15 (by kernel_rfl) rfl #[.string a0, .int .i64 (-1)] rfl lma_ ?_; (with_reducible refine (script_Unquote.calls kj19 a0 (-1) t377 t378 t379 t380 _ A103.out).mono ?_); rintro e w129 ⟨rfl, hb⟩; refine ⟨_, rfl, ?_⟩; have n0_ := Aside0.mk (blk_below (g := gb361) (o := .cells #[.int .i64 t365, .int .i64 t366] 26 (0, 0)) (by (with_reducible repeat (first | refine blk_drewN ?_ _ | refine blk_drew ?_ | refine blk_alloc ?_ _)); refine blk_far ?_ NB361_370.out _; (with_reducible repeat (first | refine blk_drewN ?_ _ | refine blk_drew ?_ | refine blk_alloc ?_ _)); refine blk_far ?_ NB361_370.out _; exact bkw_ BK361.out) hb); have n1_ := Aside0.mk (blk_below (g := gb370) (o := .cells #[.int .i64 0, .int .i64 0] 26 (0, 0)) (by (with_reducible repeat (first | refine blk_drewN ?_ _ | refine blk_drew ?_ | refine blk_alloc ?_ _)); refine blk_put (cs := #[.int .i64 0, .int .i64 0]) ?_ 1 _ rfl; (with_reducible repeat (first | refine blk_drewN ?_ _ | refine blk_drew ?_ | refine blk_alloc ?_ _)); refine blk_put (cs := #[.int .i64 0, .int .i64 0]) ?_ 0 _ rfl; exact bkw_ BK370.out) hb); have n2_ := Aside0.mk (below_step (bla_ HB.out) hb); clear BK361; clear BK370; clear HB; have BK361 := n0_; have BK370 := n1_; have HB := n2_; clear n0_ n1_ n2_; (try clear hb); (try clear hb2); (try clear hk); (try clear hi)) | ((with_reducible refine gate_dst (N := 19) rfl ?_); (try (refine gate_guard (by rfl) ?_; dsimp only)); refine box_event ?hg (N := 19) ?hd (cs := #[.int .i64 0, .int .i64 0]) (t := 26) ?hr ?_; (case hd => rfl); (case hg => rfl); (case hr => first | (go_simp; done) | (go_simp; rfl)); intro gb381 hg w130 hbox hb; have n0_ := Aside0.mk (blk_below (g := gb361) (o := .cells #[.int .i64 t365, .int .i64 t366] 26 (0, 0)) (by exact bkw_ BK361.out) hb); have n1_ := Aside0.mk (blk_below (g := gb370) (o := .cells #[.int .i64 0, .int .i64 0] 26 (0, 0)) (by exact bkw_ BK370.out) hb); have n2_ := Aside0.mk (below_step (bla_ HB.out) hb); have n3_ := Aside0.mk (hbox); have n4_ := Aside0.mk ((by rw [hg]; exact (below_size (bla_ HB.out)) : w.heap.size ≤ gb381)); have n5_ := Aside0.mk ((by rw [hg]; exact (below_size (bla_ HB.out)) : w.heap.size ≤ gb381)); have n6_ := Aside0.mk ((by rw [hg]; exact Nat.ne_of_lt (blk_lt (g := gb361) (o := .cells #[.int .i64 t365, .int .i64 t366] 26 (0, 0)) (by exact bkw_ BK361.out)) : gb361 ≠ gb381)); have n7_ := Aside0.mk ((by rw [hg]; exact Nat.ne_of_gt (blk_lt (g := gb361) (o := .cells #[.int .i64 t365, .int .i64 t366] 26 (0, 0)) (by exact bkw_ BK361.out)) : gb381 ≠ gb361)); have n8_ := Aside0.mk ((by rw [hg]; exact Nat.ne_of_lt (blk_lt (g := gb370) (o := .cells #[.int .i64 0, .int .i64 0] 26 (0, 0)) (by exact bkw_ BK370.out)) : gb370 ≠ gb381)); have n9_ := Aside0.mk ((by rw [hg]; exact Nat.ne_of_gt (blk_lt (g := gb370) (o := .cells #[.int .i64 0, .int .i64 0] 26 (0, 0)) (by exact bkw_ BK370.out)) : gb381 ≠ gb370)); clear BK361; clear BK370; clear HB; have BK361 := n0_; have BK370 := n1_; have HB := n2_; have BK381 := n3_; have GW381 := n4_; have GE381 := n5_; have NB361_381 := n6_; have NB381_361 := n7_; have NB370_381 := n8_; have NB381_370 := n9_; clear n0_ n1_ n2_ n3_ n4_ n5_ n6_ n7_ n8_ n9_; clear hb hbox hg; have hnb131 := NB381_361.out; have hnc131 := NB361_381.out; have hnb132 := NB381_370.out; have hnc132 := NB370_381.out; have hcz133_0 : w130.cell? ⟨gb381, 0, none⟩ = some (.int .i64 0) := (blk_cell BK381.out 0).trans rfl; have hcz133_1 : w130.cell? ⟨gb381, 1, none⟩ = some (.int .i64 0) := (blk_cell BK381.out 1).trans rfl; have hfz133_0 := blk_frozen BK381.out 0; have hfz133_1 := blk_frozen BK381.out 1; have hcz134_0 : w130.cell? ⟨gb361, 0, none⟩ = some (.int .i64 t365) := (blk_cell BK361.out 0).trans rfl; have hcz134_1 : w130.cell? ⟨gb361, 1, none⟩ = some (.int .i64 t366) := (blk_cell BK361.out 1).trans rfl; have hfz134_0 := blk_frozen BK361.out 0; have hfz134_1 := blk_frozen BK361.out 1; have hcz135_0 : w130.cell? ⟨gb370, 0, none⟩ = some (.int .i64 0) := (blk_cell BK370.out 0).trans rfl; have hcz135_1 : w130.cell? ⟨gb370, 1, none⟩ = some (.int .i64 0) := (blk_cell BK370.out 1).trans rfl; have hfz135_0 := blk_frozen BK370.out 0; have hfz135_1 := blk_frozen BK370.out 1))
                go_ret
                exact ⟨fia_, bla_ HB.out⟩
              ·rw [if_neg c106] at H
               have c106b0 : (t365 == 0 && (t366 == 0)) = false := by simpa using c106
               (try (have c106b1 : decide (t365 = 0 && (t366 == 0)) = false := by simpa using c106))
               (try (have c106b2 : (t365 == 0 && (t366 == 0)) = false := by simpa using c106))
               (try (have c106b3 : ¬ (t365 = 0 && (t366 == 0)) := by simpa using c106))
               clear c106
               obtain rfl := Option.some.inj H
               go_wp2_with (first | ((with_reducible refine gate_callee (f := 15) rfl ?_); refine goesL_ (some 80) rfl rfl Tryd.func15 (by kernel_rfl) rfl #[.string a1, .int .i64 (wrap64 (a2))] rfl lma_ ?_; (with_reducible refine (script_Unquote.calls kj19 a1 (wrap64 (a2)) t363 t364 t365 t366 _ A32.out).mono ?_); rintro e w136 ⟨rfl, hb⟩; refine ⟨_, rfl, ?_⟩; have n0_ := Aside0.mk (blk_below (g := gb361) (o := .cells #[.int .i64 t359, .int .i64 t360] 26 (0, 0)) (by exact bkw_ BK361.out) hb); have n1_ := Aside0.mk (below_step (blg_ HB.out GE361.out) hb); clear BK361; clear HB; have BK361 := n0_; have HB := n1_; clear n0_ n1_; (try clear hb); (try clear hb2); (try clear hk); (try clear hi); have hcz137_0 : w136.cell? ⟨gb361, 0, none⟩ = some (.int .i64 t359) := (blk_cell BK361.out 0).trans rfl; have hcz137_1 : w136.cell? ⟨gb361, 1, none⟩ = some (.int .i64 t360) := (blk_cell BK361.out 1).trans rfl; have hfz137_0 := blk_frozen BK361.out 0; have hfz137_1 := blk_frozen BK361.out 1) | ((with_reducible refine gate_callee (f := 17) rfl ?_); refine goesL_ (some 87) rfl rfl Tryd.func17 (by kernel_rfl) rfl #[.string a1, .int .i64 (wrap64 (a2))] rfl lma_ ?_; (with_reducible refine (spoolref48_Unquote.calls kj19 a1 (wrap64 (a2)) t367 t368 t369 _ A33.out).mono ?_); rintro e w138 ⟨rfl, hb⟩; refine ⟨_, rfl, ?_⟩; have n0_ := Aside0.mk (blk_below (g := gb361) (o := .cells #[.int .i64 t365, .int .i64 t366] 26 (0, 0)) (by (with_reducible repeat (first | refine blk_drewN ?_ _ | refine blk_drew ?_ | refine blk_alloc ?_ _)); refine blk_put (cs := #[.int .i64 t365, .int .i64 t360]) ?_ 1 _ rfl; (with_reducible repeat (first | refine blk_drewN ?_ _ | refine blk_drew ?_ | refine blk_alloc ?_ _)); refine blk_put (cs := #[.int .i64 t359, .int .i64 t360]) ?_ 0 _ rfl; exact bkw_ BK361.out) hb); have n1_ := Aside0.mk (below_step (blg_ HB.out GE361.out) hb); clear BK361; clear HB; have BK361 := n0_; have HB := n1_; clear n0_ n1_; (try clear hb); (try clear hb2); (try clear hk); (try clear hi)) | ((with_reducible refine gate_dst (N := 16) rfl ?_); (try (refine gate_guard (by rfl) ?_; dsimp only)); refine box_event ?hg (N := 16) ?hd (cs := #[.int .i64 0, .int .i64 0]) (t := 26) ?hr ?_; (case hd => rfl); (case hg => rfl); (case hr => first | (go_simp; done) | (go_simp; rfl)); intro gb370 hg w139 hbox hb; have n0_ := Aside0.mk (blk_below (g := gb361) (o := .cells #[.int .i64 t365, .int .i64 t366] 26 (0, 0)) (by exact bkw_ BK361.out) hb); have n1_ := Aside0.mk (below_step (blg_ HB.out GE361.out) hb); have n2_ := Aside0.mk (hbox); have n3_ := Aside0.mk ((by rw [hg]; exact (below_size (blg_ HB.out GE361.out)) : w.heap.size ≤ gb370)); have n4_ := Aside0.mk ((by rw [hg]; exact (below_size (blg_ HB.out GE361.out)) : w.heap.size ≤ gb370)); have n5_ := Aside0.mk ((by rw [hg]; exact Nat.ne_of_lt (blk_lt (g := gb361) (o := .cells #[.int .i64 t365, .int .i64 t366] 26 (0, 0)) (by exact bkw_ BK361.out)) : gb361 ≠ gb370)); have n6_ := Aside0.mk ((by rw [hg]; exact Nat.ne_of_gt (blk_lt (g := gb361) (o := .cells #[.int .i64 t365, .int .i64 t366] 26 (0, 0)) (by exact bkw_ BK361.out)) : gb370 ≠ gb361)); clear BK361; clear HB; have BK361 := n0_; have HB := n1_; have BK370 := n2_; have GW370 := n3_; have GE370 := n4_; have NB361_370 := n5_; have NB370_361 := n6_; clear n0_ n1_ n2_ n3_ n4_ n5_ n6_; clear hb hbox hg; have hnb140 := NB370_361.out; have hnc140 := NB361_370.out; have hcz141_0 : w139.cell? ⟨gb370, 0, none⟩ = some (.int .i64 0) := (blk_cell BK370.out 0).trans rfl; have hcz141_1 : w139.cell? ⟨gb370, 1, none⟩ = some (.int .i64 0) := (blk_cell BK370.out 1).trans rfl; have hfz141_0 := blk_frozen BK370.out 0; have hfz141_1 := blk_frozen BK370.out 1) | ((with_reducible refine gate_callee (f := 15) rfl ?_); refine goesL_ (some 98) rfl rfl Tryd.func15 (by kernel_rfl) rfl #[.string a0, .int .i64 (-1)] rfl lma_ ?_; (with_reducible refine (script_Unquote.calls kj19 a0 (-1) t377 t378 t379 t380 _ A103.out).mono ?_); rintro e w142 ⟨rfl, hb⟩; refine ⟨_, rfl, ?_⟩; have n0_ := Aside0.mk (blk_below (g := gb361) (o := .cells #[.int .i64 t365, .int .i64 t366] 26 (0, 0)) (by (with_reducible repeat (first | refine blk_drewN ?_ _ | refine blk_drew ?_ | refine blk_alloc ?_ _)); refine blk_far ?_ NB361_370.out _; (with_reducible repeat (first | refine blk_drewN ?_ _ | refine blk_drew ?_ | refine blk_alloc ?_ _)); refine blk_far ?_ NB361_370.out _; exact bkw_ BK361.out) hb); have n1_ := Aside0.mk (blk_below (g := gb370) (o := .cells #[.int .i64 0, .int .i64 0] 26 (0, 0)) (by (with_reducible repeat (first | refine blk_drewN ?_ _ | refine blk_drew ?_ | refine blk_alloc ?_ _)); refine blk_put (cs := #[.int .i64 0, .int .i64 0]) ?_ 1 _ rfl; (with_reducible repeat (first | refine blk_drewN ?_ _ | refine blk_drew ?_ | refine blk_alloc ?_ _)); refine blk_put (cs := #[.int .i64 0, .int .i64 0]) ?_ 0 _ rfl; exact bkw_ BK370.out) hb); have n2_ := Aside0.mk (below_step (bla_ HB.out) hb); clear BK361; clear BK370; clear HB; have BK361 := n0_; have BK370 := n1_; have HB := n2_; clear n0_ n1_ n2_; (try clear hb); (try clear hb2); (try clear hk); (try clear hi)) | ((with_reducible refine gate_dst (N := 19) rfl ?_); (try (refine gate_guard (by rfl) ?_; dsimp only)); refine box_event ?hg (N := 19) ?hd (cs := #[.int .i64 0, .int .i64 0]) (t := 26) ?hr ?_; (case hd => rfl); (case hg => rfl); (case hr => first | (go_simp; done) | (go_simp; rfl)); intro gb381 hg w143 hbox hb; have n0_ := Aside0.mk (blk_below (g := gb361) (o := .cells #[.int .i64 t365, .int .i64 t366] 26 (0, 0)) (by exact bkw_ BK361.out) hb); have n1_ := Aside0.mk (blk_below (g := gb370) (o := .cells #[.int .i64 0, .int .i64 0] 26 (0, 0)) (by exact bkw_ BK370.out) hb); have n2_ := Aside0.mk (below_step (bla_ HB.out) hb); have n3_ := Aside0.mk (hbox); have n4_ := Aside0.mk ((by rw [hg]; exact (below_size (bla_ HB.out)) : w.heap.size ≤ gb381)); have n5_ := Aside0.mk ((by rw [hg]; exact (below_size (bla_ HB.out)) : w.heap.size ≤ gb381)); have n6_ := Aside0.mk ((by rw [hg]; exact Nat.ne_of_lt (blk_lt (g := gb361) (o := .cells #[.int .i64 t365, .int .i64 t366] 26 (0, 0)) (by exact bkw_ BK361.out)) : gb361 ≠ gb381)); have n7_ := Aside0.mk ((by rw [hg]; exact Nat.ne_of_gt (blk_lt (g := gb361) (o := .cells #[.int .i64 t365, .int .i64 t366] 26 (0, 0)) (by exact bkw_ BK361.out)) : gb381 ≠ gb361)); have n8_ := Aside0.mk ((by rw [hg]; exact Nat.ne_of_lt (blk_lt (g := gb370) (o := .cells #[.int .i64 0, .int .i64 0] 26 (0, 0)) (by exact bkw_ BK370.out)) : gb370 ≠ gb381)); have n9_ := Aside0.mk ((by rw [hg]; exact Nat.ne_of_gt (blk_lt (g := gb370) (o := .cells #[.int .i64 0, .int .i64 0] 26 (0, 0)) (by exact bkw_ BK370.out)) : gb381 ≠ gb370)); clear BK361; clear BK370; clear HB; have BK361 := n0_; have BK370 := n1_; have HB := n2_; have BK381 := n3_; have GW381 := n4_; have GE381 := n5_; have NB361_381 := n6_; have NB381_361 := n7_; have NB370_381 := n8_; have NB381_370 := n9_; clear n0_ n1_ n2_ n3_ n4_ n5_ n6_ n7_ n8_ n9_; clear hb hbox hg; have hnb144 := NB381_361.out; have hnc144 := NB361_381.out; have hnb145 := NB381_370.out; have hnc145 := NB370_381.out; have hcz146_0 : w143.cell? ⟨gb381, 0, none⟩ = some (.int .i64 0) := (blk_cell BK381.out 0).trans rfl; have hcz146_1 : w143.cell? ⟨gb381, 1, none⟩ = some (.int .i64 0) := (blk_cell BK381.out 1).trans rfl; have hfz146_0 := blk_frozen BK381.out 0; have hfz146_1 := blk_frozen BK381.out 1; have hcz147_0 : w143.cell? ⟨gb361, 0, none⟩ = some (.int .i64 t365) := (blk_cell BK361.out 0).trans rfl; have hcz147_1 : w143.cell? ⟨gb361, 1, none⟩ = some (.int .i64 t366) := (blk_cell BK361.out 1).trans rfl; have hfz147_0 := blk_frozen BK361.out 0; have hfz147_1 := blk_frozen BK361.out 1; have hcz148_0 : w143.cell? ⟨gb370, 0, none⟩ = some (.int .i64 0) := (blk_cell BK370.out 0).trans rfl; have hcz148_1 : w143.cell? ⟨gb370, 1, none⟩ = some (.int .i64 0) := (blk_cell BK370.out 1).trans rfl; have hfz148_0 := blk_frozen BK370.out 0; have hfz148_1 := blk_frozen BK370.out 1))
               go_ret
               exact ⟨fia_, bla_ HB.out⟩
             ·rw [if_neg c105] at H
              have c105b0 : (t364 == t368) = false := beq_eq_false_iff_ne.mpr c105
              have c105b1 : (t364 != t368) = true := bne_iff_ne.mpr c105
              obtain rfl := Option.some.inj H
              go_wp2_with (first | ((with_reducible refine gate_callee (f := 15) rfl ?_); refine goesL_ (some 80) rfl rfl Tryd.func15 (by kernel_rfl) rfl #[.string a1, .int .i64 (wrap64 (a2))] rfl lma_ ?_; (with_reducible refine (script_Unquote.calls kj19 a1 (wrap64 (a2)) t363 t364 t365 t366 _ A32.out).mono ?_); rintro e w149 ⟨rfl, hb⟩; refine ⟨_, rfl, ?_⟩; have n0_ := Aside0.mk (blk_below (g := gb361) (o := .cells #[.int .i64 t359, .int .i64 t360] 26 (0, 0)) (by exact bkw_ BK361.out) hb); have n1_ := Aside0.mk (below_step (blg_ HB.out GE361.out) hb); clear BK361; clear HB; have BK361 := n0_; have HB := n1_; clear n0_ n1_; (try clear hb); (try clear hb2); (try clear hk); (try clear hi); have hcz150_0 : w149.cell? ⟨gb361, 0, none⟩ = some (.int .i64 t359) := (blk_cell BK361.out 0).trans rfl; have hcz150_1 : w149.cell? ⟨gb361, 1, none⟩ = some (.int .i64 t360) := (blk_cell BK361.out 1).trans rfl; have hfz150_0 := blk_frozen BK361.out 0; have hfz150_1 := blk_frozen BK361.out 1) | ((with_reducible refine gate_callee (f := 17) rfl ?_); refine goesL_ (some 87) rfl rfl Tryd.func17 (by kernel_rfl) rfl #[.string a1, .int .i64 (wrap64 (a2))] rfl lma_ ?_; (with_reducible refine (spoolref48_Unquote.calls kj19 a1 (wrap64 (a2)) t367 t368 t369 _ A33.out).mono ?_); rintro e w151 ⟨rfl, hb⟩; refine ⟨_, rfl, ?_⟩; have n0_ := Aside0.mk (blk_below (g := gb361) (o := .cells #[.int .i64 t365, .int .i64 t366] 26 (0, 0)) (by (with_reducible repeat (first | refine blk_drewN ?_ _ | refine blk_drew ?_ | refine blk_alloc ?_ _)); refine blk_put (cs := #[.int .i64 t365, .int .i64 t360]) ?_ 1 _ rfl; (with_reducible repeat (first | refine blk_drewN ?_ _ | refine blk_drew ?_ | refine blk_alloc ?_ _)); refine blk_put (cs := #[.int .i64 t359, .int .i64 t360]) ?_ 0 _ rfl; exact bkw_ BK361.out) hb); have n1_ := Aside0.mk (below_step (blg_ HB.out GE361.out) hb); clear BK361; clear HB; have BK361 := n0_; have HB := n1_; clear n0_ n1_; (try clear hb); (try clear hb2); (try clear hk); (try clear hi)) | ((with_reducible refine gate_dst (N := 16) rfl ?_); (try (refine gate_guard (by rfl) ?_; dsimp only)); refine box_event ?hg (N := 16) ?hd (cs := #[.int .i64 0, .int .i64 0]) (t := 26) ?hr ?_; (case hd => rfl); (case hg => rfl); (case hr => first | (go_simp; done) | (go_simp; rfl)); intro gb370 hg w152 hbox hb; have n0_ := Aside0.mk (blk_below (g := gb361) (o := .cells #[.int .i64 t365, .int .i64 t366] 26 (0, 0)) (by exact bkw_ BK361.out) hb); have n1_ := Aside0.mk (below_step (blg_ HB.out GE361.out) hb); have n2_ := Aside0.mk (hbox); have n3_ := Aside0.mk ((by rw [hg]; exact (below_size (blg_ HB.out GE361.out)) : w.heap.size ≤ gb370)); have n4_ := Aside0.mk ((by rw [hg]; exact (below_size (blg_ HB.out GE361.out)) : w.heap.size ≤ gb370)); have n5_ := Aside0.mk ((by rw [hg]; exact Nat.ne_of_lt (blk_lt (g := gb361) (o := .cells #[.int .i64 t365, .int .i64 t366] 26 (0, 0)) (by exact bkw_ BK361.out)) : gb361 ≠ gb370)); have n6_ := Aside0.mk ((by rw [hg]; exact Nat.ne_of_gt (blk_lt (g := gb361) (o := .cells #[.int .i64 t365, .int .i64 t366] 26 (0, 0)) (by exact bkw_ BK361.out)) : gb370 ≠ gb361)); clear BK361; clear HB; have BK361 := n0_; have HB := n1_; have BK370 := n2_; have GW370 := n3_; have GE370 := n4_; have NB361_370 := n5_; have NB370_361 := n6_; clear n0_ n1_ n2_ n3_ n4_ n5_ n6_; clear hb hbox hg; have hnb153 := NB370_361.out; have hnc153 := NB361_370.out; have hcz154_0 : w152.cell? ⟨gb370, 0, none⟩ = some (.int .i64 0) := (blk_cell BK370.out 0).trans rfl; have hcz154_1 : w152.cell? ⟨gb370, 1, none⟩ = some (.int .i64 0) := (blk_cell BK370.out 1).trans rfl; have hfz154_0 := blk_frozen BK370.out 0; have hfz154_1 := blk_frozen BK370.out 1) | ((with_reducible refine gate_callee (f := 15) rfl ?_); refine goesL_ (some 98) rfl rfl Tryd.func15 (by kernel_rfl) rfl #[.string a0, .int .i64 (-1)] rfl lma_ ?_; (with_reducible refine (script_Unquote.calls kj19 a0 (-1) t377 t378 t379 t380 _ A103.out).mono ?_); rintro e w155 ⟨rfl, hb⟩; refine ⟨_, rfl, ?_⟩; have n0_ := Aside0.mk (blk_below (g := gb361) (o := .cells #[.int .i64 t365, .int .i64 t366] 26 (0, 0)) (by (with_reducible repeat (first | refine blk_drewN ?_ _ | refine blk_drew ?_ | refine blk_alloc ?_ _)); refine blk_far ?_ NB361_370.out _; (with_reducible repeat (first | refine blk_drewN ?_ _ | refine blk_drew ?_ | refine blk_alloc ?_ _)); refine blk_far ?_ NB361_370.out _; exact bkw_ BK361.out) hb); have n1_ := Aside0.mk (blk_below (g := gb370) (o := .cells #[.int .i64 0, .int .i64 0] 26 (0, 0)) (by (with_reducible repeat (first | refine blk_drewN ?_ _ | refine blk_drew ?_ | refine blk_alloc ?_ _)); refine blk_put (cs := #[.int .i64 0, .int .i64 0]) ?_ 1 _ rfl; (with_reducible repeat (first | refine blk_drewN ?_ _ | refine blk_drew ?_ | refine blk_alloc ?_ _)); refine blk_put (cs := #[.int .i64 0, .int .i64 0]) ?_ 0 _ rfl; exact bkw_ BK370.out) hb); have n2_ := Aside0.mk (below_step (bla_ HB.out) hb); clear BK361; clear BK370; clear HB; have BK361 := n0_; have BK370 := n1_; have HB := n2_; clear n0_ n1_ n2_; (try clear hb); (try clear hb2); (try clear hk); (try clear hi)) | ((with_reducible refine gate_dst (N := 19) rfl ?_); (try (refine gate_guard (by rfl) ?_; dsimp only)); refine box_event ?hg (N := 19) ?hd (cs := #[.int .i64 0, .int .i64 0]) (t := 26) ?hr ?_; (case hd => rfl); (case hg => rfl); (case hr => first | (go_simp; done) | (go_simp; rfl)); intro gb381 hg w156 hbox hb; have n0_ := Aside0.mk (blk_below (g := gb361) (o := .cells #[.int .i64 t365, .int .i64 t366] 26 (0, 0)) (by exact bkw_ BK361.out) hb); have n1_ := Aside0.mk (blk_below (g := gb370) (o := .cells #[.int .i64 0, .int .i64 0] 26 (0, 0)) (by exact bkw_ BK370.out) hb); have n2_ := Aside0.mk (below_step (bla_ HB.out) hb); have n3_ := Aside0.mk (hbox); have n4_ := Aside0.mk ((by rw [hg]; exact (below_size (bla_ HB.out)) : w.heap.size ≤ gb381)); have n5_ := Aside0.mk ((by rw [hg]; exact (below_size (bla_ HB.out)) : w.heap.size ≤ gb381)); have n6_ := Aside0.mk ((by rw [hg]; exact Nat.ne_of_lt (blk_lt (g := gb361) (o := .cells #[.int .i64 t365, .int .i64 t366] 26 (0, 0)) (by exact bkw_ BK361.out)) : gb361 ≠ gb381)); have n7_ := Aside0.mk ((by rw [hg]; exact Nat.ne_of_gt (blk_lt (g := gb361) (o := .cells #[.int .i64 t365, .int .i64 t366] 26 (0, 0)) (by exact bkw_ BK361.out)) : gb381 ≠ gb361)); have n8_ := Aside0.mk ((by rw [hg]; exact Nat.ne_of_lt (blk_lt (g := gb370) (o := .cells #[.int .i64 0, .int .i64 0] 26 (0, 0)) (by exact bkw_ BK370.out)) : gb370 ≠ gb381)); have n9_ := Aside0.mk ((by rw [hg]; exact Nat.ne_of_gt (blk_lt (g := gb370) (o := .cells #[.int .i64 0, .int .i64 0] 26 (0, 0)) (by exact bkw_ BK370.out)) : gb381 ≠ gb370)); clear BK361; clear BK370; clear HB; have BK361 := n0_; have BK370 := n1_; have HB := n2_; have BK381 := n3_; have GW381 := n4_; have GE381 := n5_; have NB361_381 := n6_; have NB381_361 := n7_; have NB370_381 := n8_; have NB381_370 := n9_; clear n0_ n1_ n2_ n3_ n4_ n5_ n6_ n7_ n8_ n9_; clear hb hbox hg; have hnb157 := NB381_361.out; have hnc157 := NB361_381.out; have hnb158 := NB381_370.out; have hnc158 := NB370_381.out; have hcz159_0 : w156.cell? ⟨gb381, 0, none⟩ = some (.int .i64 0) := (blk_cell BK381.out 0).trans rfl; have hcz159_1 : w156.cell? ⟨gb381, 1, none⟩ = some (.int .i64 0) := (blk_cell BK381.out 1).trans rfl; have hfz159_0 := blk_frozen BK381.out 0; have hfz159_1 := blk_frozen BK381.out 1))
              go_ret
              exact ⟨fia_, bla_ HB.out⟩
            ·rw [if_neg c104] at H
             have c104b0 : (t363.toList == t367.toList) = false := beq_eq_false_iff_ne.mpr c104
             have c104b1 : (t363.toList != t367.toList) = true := bne_iff_ne.mpr c104
             obtain rfl := Option.some.inj H
             go_wp2_with (first | ((with_reducible refine gate_callee (f := 15) rfl ?_); refine goesL_ (some 80) rfl rfl Tryd.func15 (by kernel_rfl) rfl #[.string a1, .int .i64 (wrap64 (a2))] rfl lma_ ?_; (with_reducible refine (script_Unquote.calls kj19 a1 (wrap64 (a2)) t363 t364 t365 t366 _ A32.out).mono ?_); rintro e w160 ⟨rfl, hb⟩; refine ⟨_, rfl, ?_⟩; have n0_ := Aside0.mk (blk_below (g := gb361) (o := .cells #[.int .i64 t359, .int .i64 t360] 26 (0, 0)) (by exact bkw_ BK361.out) hb); have n1_ := Aside0.mk (below_step (blg_ HB.out GE361.out) hb); clear BK361; clear HB; have BK361 := n0_; have HB := n1_; clear n0_ n1_; (try clear hb); (try clear hb2); (try clear hk); (try clear hi); have hcz161_0 : w160.cell? ⟨gb361, 0, none⟩ = some (.int .i64 t359) := (blk_cell BK361.out 0).trans rfl; have hcz161_1 : w160.cell? ⟨gb361, 1, none⟩ = some (.int .i64 t360) := (blk_cell BK361.out 1).trans rfl; have hfz161_0 := blk_frozen BK361.out 0; have hfz161_1 := blk_frozen BK361.out 1) | ((with_reducible refine gate_callee (f := 17) rfl ?_); refine goesL_ (some 87) rfl rfl Tryd.func17 (by kernel_rfl) rfl #[.string a1, .int .i64 (wrap64 (a2))] rfl lma_ ?_; (with_reducible refine (spoolref48_Unquote.calls kj19 a1 (wrap64 (a2)) t367 t368 t369 _ A33.out).mono ?_); rintro e w162 ⟨rfl, hb⟩; refine ⟨_, rfl, ?_⟩; have n0_ := Aside0.mk (blk_below (g := gb361) (o := .cells #[.int .i64 t365, .int .i64 t366] 26 (0, 0)) (by (with_reducible repeat (first | refine blk_drewN ?_ _ | refine blk_drew ?_ | refine blk_alloc ?_ _)); refine blk_put (cs := #[.int .i64 t365, .int .i64 t360]) ?_ 1 _ rfl; (with_reducible repeat (first | refine blk_drewN ?_ _ | refine blk_drew ?_ | refine blk_alloc ?_ _)); refine blk_put (cs := #[.int .i64 t359, .int .i64 t360]) ?_ 0 _ rfl; exact bkw_ BK361.out) hb); have n1_ := Aside0.mk (below_step (blg_ HB.out GE361.out) hb); clear BK361; clear HB; have BK361 := n0_; have HB := n1_; clear n0_ n1_; (try clear hb); (try clear hb2); (try clear hk); (try clear hi)) | ((with_reducible refine gate_dst (N := 16) rfl ?_); (try (refine gate_guard (by rfl) ?_; dsimp only)); refine box_event ?hg (N := 16) ?hd (cs := #[.int .i64 0, .int .i64 0]) (t := 26) ?hr ?_; (case hd => rfl); (case hg => rfl); (case hr => first | (go_simp; done) | (go_simp; rfl)); intro gb370 hg w163 hbox hb; have n0_ := Aside0.mk (blk_below (g := gb361) (o := .cells #[.int .i64 t365, .int .i64 t366] 26 (0, 0)) (by exact bkw_ BK361.out) hb); have n1_ := Aside0.mk (below_step (blg_ HB.out GE361.out) hb); have n2_ := Aside0.mk (hbox); have n3_ := Aside0.mk ((by rw [hg]; exact (below_size (blg_ HB.out GE361.out)) : w.heap.size ≤ gb370)); have n4_ := Aside0.mk ((by rw [hg]; exact (below_size (blg_ HB.out GE361.out)) : w.heap.size ≤ gb370)); have n5_ := Aside0.mk ((by rw [hg]; exact Nat.ne_of_lt (blk_lt (g := gb361) (o := .cells #[.int .i64 t365, .int .i64 t366] 26 (0, 0)) (by exact bkw_ BK361.out)) : gb361 ≠ gb370)); have n6_ := Aside0.mk ((by rw [hg]; exact Nat.ne_of_gt (blk_lt (g := gb361) (o := .cells #[.int .i64 t365, .int .i64 t366] 26 (0, 0)) (by exact bkw_ BK361.out)) : gb370 ≠ gb361)); clear BK361; clear HB; have BK361 := n0_; have HB := n1_; have BK370 := n2_; have GW370 := n3_; have GE370 := n4_; have NB361_370 := n5_; have NB370_361 := n6_; clear n0_ n1_ n2_ n3_ n4_ n5_ n6_; clear hb hbox hg; have hnb164 := NB370_361.out; have hnc164 := NB361_370.out; have hcz165_0 : w163.cell? ⟨gb370, 0, none⟩ = some (.int .i64 0) := (blk_cell BK370.out 0).trans rfl; have hcz165_1 : w163.cell? ⟨gb370, 1, none⟩ = some (.int .i64 0) := (blk_cell BK370.out 1).trans rfl; have hfz165_0 := blk_frozen BK370.out 0; have hfz165_1 := blk_frozen BK370.out 1) | ((with_reducible refine gate_callee (f := 15) rfl ?_); refine goesL_ (some 98) rfl rfl Tryd.func15 (by kernel_rfl) rfl #[.string a0, .int .i64 (-1)] rfl lma_ ?_; (with_reducible refine (script_Unquote.calls kj19 a0 (-1) t377 t378 t379 t380 _ A103.out).mono ?_); rintro e w166 ⟨rfl, hb⟩; refine ⟨_, rfl, ?_⟩; have n0_ := Aside0.mk (blk_below (g := gb361) (o := .cells #[.int .i64 t365, .int .i64 t366] 26 (0, 0)) (by (with_reducible repeat (first | refine blk_drewN ?_ _ | refine blk_drew ?_ | refine blk_alloc ?_ _)); refine blk_far ?_ NB361_370.out _; (with_reducible repeat (first | refine blk_drewN ?_ _ | refine blk_drew ?_ | refine blk_alloc ?_ _)); refine blk_far ?_ NB361_370.out _; exact bkw_ BK361.out) hb); have n1_ := Aside0.mk (blk_below (g := gb370) (o := .cells #[.int .i64 0, .int .i64 0] 26 (0, 0)) (by (with_reducible repeat (first | refine blk_drewN ?_ _ | refine blk_drew ?_ | refine blk_alloc ?_ _)); refine blk_put (cs := #[.int .i64 0, .int .i64 0]) ?_ 1 _ rfl; (with_reducible repeat (first | refine blk_drewN ?_ _ | refine blk_drew ?_ | refine blk_alloc ?_ _)); refine blk_put (cs := #[.int .i64 0, .int .i64 0]) ?_ 0 _ rfl; exact bkw_ BK370.out) hb); have n2_ := Aside0.mk (below_step (bla_ HB.out) hb); clear BK361; clear BK370; clear HB; have BK361 := n0_; have BK370 := n1_; have HB := n2_; clear n0_ n1_ n2_; (try clear hb); (try clear hb2); (try clear hk); (try clear hi)) | ((with_reducible refine gate_dst (N := 19) rfl ?_); (try (refine gate_guard (by rfl) ?_; dsimp only)); refine box_event ?hg (N := 19) ?hd (cs := #[.int .i64 0, .int .i64 0]) (t := 26) ?hr ?_; (case hd => rfl); (case hg => rfl); (case hr => first | (go_simp; done) | (go_simp; rfl)); intro gb381 hg w167 hbox hb; have n0_ := Aside0.mk (blk_below (g := gb361) (o := .cells #[.int .i64 t365, .int .i64 t366] 26 (0, 0)) (by exact bkw_ BK361.out) hb); have n1_ := Aside0.mk (blk_below (g := gb370) (o := .cells #[.int .i64 0, .int .i64 0] 26 (0, 0)) (by exact bkw_ BK370.out) hb); have n2_ := Aside0.mk (below_step (bla_ HB.out) hb); have n3_ := Aside0.mk (hbox); have n4_ := Aside0.mk ((by rw [hg]; exact (below_size (bla_ HB.out)) : w.heap.size ≤ gb381)); have n5_ := Aside0.mk ((by rw [hg]; exact (below_size (bla_ HB.out)) : w.heap.size ≤ gb381)); have n6_ := Aside0.mk ((by rw [hg]; exact Nat.ne_of_lt (blk_lt (g := gb361) (o := .cells #[.int .i64 t365, .int .i64 t366] 26 (0, 0)) (by exact bkw_ BK361.out)) : gb361 ≠ gb381)); have n7_ := Aside0.mk ((by rw [hg]; exact Nat.ne_of_gt (blk_lt (g := gb361) (o := .cells #[.int .i64 t365, .int .i64 t366] 26 (0, 0)) (by exact bkw_ BK361.out)) : gb381 ≠ gb361)); have n8_ := Aside0.mk ((by rw [hg]; exact Nat.ne_of_lt (blk_lt (g := gb370) (o := .cells #[.int .i64 0, .int .i64 0] 26 (0, 0)) (by exact bkw_ BK370.out)) : gb370 ≠ gb381)); have n9_ := Aside0.mk ((by rw [hg]; exact Nat.ne_of_gt (blk_lt (g := gb370) (o := .cells #[.int .i64 0, .int .i64 0] 26 (0, 0)) (by exact bkw_ BK370.out)) : gb381 ≠ gb370)); clear BK361; clear BK370; clear HB; have BK361 := n0_; have BK370 := n1_; have HB := n2_; have BK381 := n3_; have GW381 := n4_; have GE381 := n5_; have NB361_381 := n6_; have NB381_361 := n7_; have NB370_381 := n8_; have NB381_370 := n9_; clear n0_ n1_ n2_ n3_ n4_ n5_ n6_ n7_ n8_ n9_; clear hb hbox hg; have hnb168 := NB381_361.out; have hnc168 := NB361_381.out; have hnb169 := NB381_370.out; have hnc169 := NB370_381.out; have hcz170_0 : w167.cell? ⟨gb381, 0, none⟩ = some (.int .i64 0) := (blk_cell BK381.out 0).trans rfl; have hcz170_1 : w167.cell? ⟨gb381, 1, none⟩ = some (.int .i64 0) := (blk_cell BK381.out 1).trans rfl; have hfz170_0 := blk_frozen BK381.out 0; have hfz170_1 := blk_frozen BK381.out 1))
             go_ret
             exact ⟨fia_, bla_ HB.out⟩
       ·rw [if_neg c18] at H
        exact absurd H (by simp)

/-- THE ONE PURE STATEMENT of spoollaw48_ScriptQuotes: yours. -/
def spoollaw48_ScriptQuotes.Pure : Prop := ∀ (a0 : ByteArray) (a1 : ByteArray) (a2 : Int), a0.size ≤ 140737488351232 → a1.size ≤ 140737488351232 → (Lit.int .u8 a2).wf = true → ∃ k, spoollaw48_ScriptQuotes.f k a0 a1 a2 = some true
theorem spoollaw48_ScriptQuotes.walk (P : spoollaw48_ScriptQuotes.Pure) (a0 : ByteArray) (a1 : ByteArray) (a2 : Int) (w : World) (w0 : a0.size ≤ 140737488351232) (w1 : a1.size ≤ 140737488351232) (w2 : (Lit.int .u8 a2).wf = true) (hrG0 : Kd.C Kd.string w (some ⟨0, 0, none⟩) tab_script_names.length tab_script_names) (hrG1 : Kd.C Kd.string w (some ⟨1, 0, none⟩) tab_script_heads.length tab_script_heads) (hrG2 : Kd.C (Kd.int .u8) w (some ⟨2, 0, none⟩) tab_digit_signs.length tab_digit_signs) :
  Calls Tryd.prog 5 #[.string a0, .string a1, .int .u8 a2] w fun e w' => e = .returned (.bool true) ∧ Below w.heap.size w w' := by
 obtain ⟨k, h⟩ := P a0 a1 a2 w0 w1 w2
 refine (spoollaw48_ScriptQuotes.calls k a0 a1 a2 true w hrG0 hrG1 hrG2 h).mono ?_
 rintro e w' ⟨rfl, hd⟩
 exact ⟨rfl, hd⟩

end Go.Proofs.YtifcpamliidabaaDoor.PS

-- slim

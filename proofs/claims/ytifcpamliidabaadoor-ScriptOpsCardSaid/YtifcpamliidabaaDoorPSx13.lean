-- WRITTEN BY A PROGRAM OF THIS SESSION (patchprint.py over the kit's print)
import Derived.Test.YtifcpamliidabaaDoorPSx0
import Derived.Test.YtifcpamliidabaaDoorPSx12
namespace Go.Proofs.YtifcpamliidabaaDoor.PS
open Go.RowKit Go.Proofs.YtifcpamliidabaaDoorW.PrintWords Go.Proofs.YtifcpamliidabaaDoorW.PrintLast Go.Proofs.YtifcpamliidabaaDoorW.PrintMore
attribute [local go_sem] max2_int min2_int max_two min_two max_three min_three max_four min_four   -- for this text's walks alone
set_option linter.unusedVariables false
set_option linter.unusedSimpArgs false

/-! ### spoolref48_Unquote: function 17 -/
mutual
def spoolref48_Unquote.j0 : Nat → ByteArray → Int → Bool → Option (ByteArray × Int × Int)
 | 0, _, _, _ => none
 | k + 1, x0, x1, x18 => if x18 = true then (some ((⟨#[]⟩ : ByteArray), 0, x1)) else (spoolref48_Unquote.l0 k x0 ([] : List Int) (wrap64 (x1 + 1)))
def spoolref48_Unquote.l0 : Nat → ByteArray → List Int → Int → Option (ByteArray × Int × Int)
 | 0, _, _, _ => none
 | k + 1, x0, x7, x8 => if x8 < (x0.size : Int) then (if 0 ≤ x8 then (spoolref48_Unquote.j2 k x0 x7 x8 ((bt x0 x8) != 34)) else (none)) else (spoolref48_Unquote.j2 k x0 x7 x8 false)
def spoolref48_Unquote.j2 : Nat → ByteArray → List Int → Int → Bool → Option (ByteArray × Int × Int)
 | 0, _, _, _, _ => none
 | k + 1, x0, x7, x8, x31 => if x31 = true then (if 0 ≤ x8 then (if x8 < (x0.size : Int) then (if (bt x0 x8) < 32 then (spoolref48_Unquote.j3 k x0 x7 x8 true) else (spoolref48_Unquote.j3 k x0 x7 x8 (decide ((bt x0 x8) > 126)))) else (none)) else (none)) else (if x8 ≥ (x0.size : Int) then (some ((⟨#[]⟩ : ByteArray), 0, (x0.size : Int))) else (some (strOfNums x7, wrap64 (x8 + 1), (-1))))
def spoolref48_Unquote.j3 : Nat → ByteArray → List Int → Int → Bool → Option (ByteArray × Int × Int)
 | 0, _, _, _, _ => none
 | k + 1, x0, x7, x8, x41 => if x41 = true then (some ((⟨#[]⟩ : ByteArray), 0, x8)) else (if 0 ≤ x8 then (if x8 < (x0.size : Int) then (if (bt x0 x8) = 92 then (if (wrap64 (x8 + 1)) < (x0.size : Int) then (if 0 ≤ (wrap64 (x8 + 1)) then (if (bt x0 (wrap64 (x8 + 1))) = 34 then (spoolref48_Unquote.j4 k x0 x7 x8 true) else (spoolref48_Unquote.j4 k x0 x7 x8 ((bt x0 (wrap64 (x8 + 1))) == 92))) else (none)) else (spoolref48_Unquote.j4 k x0 x7 x8 false)) else (if x7.length < 140737488355328 then (spoolref48_Unquote.l0 k x0 (x7 ++ [bt x0 x8]) (wrap64 (x8 + 1))) else (none))) else (none)) else (none))
def spoolref48_Unquote.j4 : Nat → ByteArray → List Int → Int → Bool → Option (ByteArray × Int × Int)
 | 0, _, _, _, _ => none
 | k + 1, x0, x7, x8, x73 => if x73 = true then (if 0 ≤ (wrap64 (x8 + 1)) then (if (wrap64 (x8 + 1)) < (x0.size : Int) then (if x7.length < 140737488355328 then (spoolref48_Unquote.l0 k x0 (x7 ++ [bt x0 (wrap64 (x8 + 1))]) (wrap64 (x8 + 2))) else (none)) else (none)) else (none)) else (if (wrap64 (x8 + 3)) ≥ (x0.size : Int) then (spoolref48_Unquote.j5 k x0 x7 x8 true) else (if 0 ≤ (wrap64 (x8 + 1)) then (if (wrap64 (x8 + 1)) < (x0.size : Int) then (if (bt x0 (wrap64 (x8 + 1))) = 120 then (if 0 ≤ (wrap64 (x8 + 2)) then (if (wrap64 (x8 + 2)) < (x0.size : Int) then ((spoolref48_hex.f k (bt x0 (wrap64 (x8 + 2)))).bind fun t227 => (if t227 < 0 then (spoolref48_Unquote.j5 k x0 x7 x8 true) else (if 0 ≤ (wrap64 (x8 + 3)) then (if (wrap64 (x8 + 3)) < (x0.size : Int) then ((spoolref48_hex.f k (bt x0 (wrap64 (x8 + 3)))).bind fun t228 => (spoolref48_Unquote.j5 k x0 x7 x8 (decide (t228 < 0)))) else (none)) else (none)))) else (none)) else (none)) else (spoolref48_Unquote.j5 k x0 x7 x8 true)) else (none)) else (none)))
def spoolref48_Unquote.j5 : Nat → ByteArray → List Int → Int → Bool → Option (ByteArray × Int × Int)
 | 0, _, _, _, _ => none
 | k + 1, x0, x7, x8, x110 => if x110 = true then (some ((⟨#[]⟩ : ByteArray), 0, x8)) else (if 0 ≤ (wrap64 (x8 + 2)) then (if (wrap64 (x8 + 2)) < (x0.size : Int) then ((spoolref48_hex.f k (bt x0 (wrap64 (x8 + 2)))).bind fun t229 => (if 0 ≤ (wrap64 (x8 + 3)) then (if (wrap64 (x8 + 3)) < (x0.size : Int) then ((spoolref48_hex.f k (bt x0 (wrap64 (x8 + 3)))).bind fun t230 => (if x7.length < 140737488355328 then (spoolref48_Unquote.l0 k x0 (x7 ++ [(wrap64 ((wrap64 (16 * t229)) + t230)) % 256]) (wrap64 (x8 + 4))) else (none))) else (none)) else (none))) else (none)) else (none))
end
def spoolref48_Unquote.f (k : Nat) (a0 : ByteArray) (a1 : Int) : Option (ByteArray × Int × Int) := if a1 ≥ (a0.size : Int) then (spoolref48_Unquote.j0 k a0 a1 true) else (if 0 ≤ a1 then (if a1 < (a0.size : Int) then (spoolref48_Unquote.j0 k a0 a1 ((bt a0 a1) != 34)) else (none)) else (none))
theorem spoolref48_Unquote.mono_l : ∀ k, (∀ y0 y1 y2, LeO (spoolref48_Unquote.j0 k y0 y1 y2) (spoolref48_Unquote.j0 (k + 1) y0 y1 y2)) ∧ (∀ y0 y1 y2, LeO (spoolref48_Unquote.l0 k y0 y1 y2) (spoolref48_Unquote.l0 (k + 1) y0 y1 y2)) ∧ (∀ y0 y1 y2 y3, LeO (spoolref48_Unquote.j2 k y0 y1 y2 y3) (spoolref48_Unquote.j2 (k + 1) y0 y1 y2 y3)) ∧ (∀ y0 y1 y2 y3, LeO (spoolref48_Unquote.j3 k y0 y1 y2 y3) (spoolref48_Unquote.j3 (k + 1) y0 y1 y2 y3)) ∧ (∀ y0 y1 y2 y3, LeO (spoolref48_Unquote.j4 k y0 y1 y2 y3) (spoolref48_Unquote.j4 (k + 1) y0 y1 y2 y3)) ∧ (∀ y0 y1 y2 y3, LeO (spoolref48_Unquote.j5 k y0 y1 y2 y3) (spoolref48_Unquote.j5 (k + 1) y0 y1 y2 y3))
 | 0 => ⟨fun _ _ _ r h => by simp [spoolref48_Unquote.j0] at h, fun _ _ _ r h => by simp [spoolref48_Unquote.l0] at h, fun _ _ _ _ r h => by simp [spoolref48_Unquote.j2] at h, fun _ _ _ _ r h => by simp [spoolref48_Unquote.j3] at h, fun _ _ _ _ r h => by simp [spoolref48_Unquote.j4] at h, fun _ _ _ _ r h => by simp [spoolref48_Unquote.j5] at h⟩
 | k + 1 => by
  obtain ⟨ih0, ih1, ih2, ih3, ih4, ih5⟩ := spoolref48_Unquote.mono_l k
  refine ⟨?_, ?_, ?_, ?_, ?_, ?_⟩
  ·intro y0 y1 y2
   unfold spoolref48_Unquote.j0
   repeat' first
   | (with_reducible exact ih0 _ _ _)
   | (with_reducible exact ih1 _ _ _)
   | (with_reducible exact ih2 _ _ _ _)
   | (with_reducible exact ih3 _ _ _ _)
   | (with_reducible exact ih4 _ _ _ _)
   | (with_reducible exact ih5 _ _ _ _)
   | (with_reducible exact spoolref48_hex.mono _ _)
   | (with_reducible exact LeO.refl _)
   | (with_reducible exact LeO.none _)
   | (with_reducible refine LeO.ite ?_ ?_)
   | (with_reducible refine LeO.bind ?_ (fun _ => ?_))
   | exact ih0 _ _ _
   | exact ih1 _ _ _
   | exact ih2 _ _ _ _
   | exact ih3 _ _ _ _
   | exact ih4 _ _ _ _
   | exact ih5 _ _ _ _
   | exact spoolref48_hex.mono _ _
   | exact LeO.none _
   | refine LeO.ite ?_ ?_
   | refine LeO.bind ?_ (fun _ => ?_)
  ·intro y0 y1 y2
   unfold spoolref48_Unquote.l0
   repeat' first
   | (with_reducible exact ih0 _ _ _)
   | (with_reducible exact ih1 _ _ _)
   | (with_reducible exact ih2 _ _ _ _)
   | (with_reducible exact ih3 _ _ _ _)
   | (with_reducible exact ih4 _ _ _ _)
   | (with_reducible exact ih5 _ _ _ _)
   | (with_reducible exact spoolref48_hex.mono _ _)
   | (with_reducible exact LeO.refl _)
   | (with_reducible exact LeO.none _)
   | (with_reducible refine LeO.ite ?_ ?_)
   | (with_reducible refine LeO.bind ?_ (fun _ => ?_))
   | exact ih0 _ _ _
   | exact ih1 _ _ _
   | exact ih2 _ _ _ _
   | exact ih3 _ _ _ _
   | exact ih4 _ _ _ _
   | exact ih5 _ _ _ _
   | exact spoolref48_hex.mono _ _
   | exact LeO.none _
   | refine LeO.ite ?_ ?_
   | refine LeO.bind ?_ (fun _ => ?_)
  ·intro y0 y1 y2 y3
   unfold spoolref48_Unquote.j2
   repeat' first
   | (with_reducible exact ih0 _ _ _)
   | (with_reducible exact ih1 _ _ _)
   | (with_reducible exact ih2 _ _ _ _)
   | (with_reducible exact ih3 _ _ _ _)
   | (with_reducible exact ih4 _ _ _ _)
   | (with_reducible exact ih5 _ _ _ _)
   | (with_reducible exact spoolref48_hex.mono _ _)
   | (with_reducible exact LeO.refl _)
   | (with_reducible exact LeO.none _)
   | (with_reducible refine LeO.ite ?_ ?_)
   | (with_reducible refine LeO.bind ?_ (fun _ => ?_))
   | exact ih0 _ _ _
   | exact ih1 _ _ _
   | exact ih2 _ _ _ _
   | exact ih3 _ _ _ _
   | exact ih4 _ _ _ _
   | exact ih5 _ _ _ _
   | exact spoolref48_hex.mono _ _
   | exact LeO.none _
   | refine LeO.ite ?_ ?_
   | refine LeO.bind ?_ (fun _ => ?_)
  ·intro y0 y1 y2 y3
   unfold spoolref48_Unquote.j3
   repeat' first
   | (with_reducible exact ih0 _ _ _)
   | (with_reducible exact ih1 _ _ _)
   | (with_reducible exact ih2 _ _ _ _)
   | (with_reducible exact ih3 _ _ _ _)
   | (with_reducible exact ih4 _ _ _ _)
   | (with_reducible exact ih5 _ _ _ _)
   | (with_reducible exact spoolref48_hex.mono _ _)
   | (with_reducible exact LeO.refl _)
   | (with_reducible exact LeO.none _)
   | (with_reducible refine LeO.ite ?_ ?_)
   | (with_reducible refine LeO.bind ?_ (fun _ => ?_))
   | exact ih0 _ _ _
   | exact ih1 _ _ _
   | exact ih2 _ _ _ _
   | exact ih3 _ _ _ _
   | exact ih4 _ _ _ _
   | exact ih5 _ _ _ _
   | exact spoolref48_hex.mono _ _
   | exact LeO.none _
   | refine LeO.ite ?_ ?_
   | refine LeO.bind ?_ (fun _ => ?_)
  ·intro y0 y1 y2 y3
   unfold spoolref48_Unquote.j4
   repeat' first
   | (with_reducible exact ih0 _ _ _)
   | (with_reducible exact ih1 _ _ _)
   | (with_reducible exact ih2 _ _ _ _)
   | (with_reducible exact ih3 _ _ _ _)
   | (with_reducible exact ih4 _ _ _ _)
   | (with_reducible exact ih5 _ _ _ _)
   | (with_reducible exact spoolref48_hex.mono _ _)
   | (with_reducible exact LeO.refl _)
   | (with_reducible exact LeO.none _)
   | (with_reducible refine LeO.ite ?_ ?_)
   | (with_reducible refine LeO.bind ?_ (fun _ => ?_))
   | exact ih0 _ _ _
   | exact ih1 _ _ _
   | exact ih2 _ _ _ _
   | exact ih3 _ _ _ _
   | exact ih4 _ _ _ _
   | exact ih5 _ _ _ _
   | exact spoolref48_hex.mono _ _
   | exact LeO.none _
   | refine LeO.ite ?_ ?_
   | refine LeO.bind ?_ (fun _ => ?_)
  ·intro y0 y1 y2 y3
   unfold spoolref48_Unquote.j5
   repeat' first
   | (with_reducible exact ih0 _ _ _)
   | (with_reducible exact ih1 _ _ _)
   | (with_reducible exact ih2 _ _ _ _)
   | (with_reducible exact ih3 _ _ _ _)
   | (with_reducible exact ih4 _ _ _ _)
   | (with_reducible exact ih5 _ _ _ _)
   | (with_reducible exact spoolref48_hex.mono _ _)
   | (with_reducible exact LeO.refl _)
   | (with_reducible exact LeO.none _)
   | (with_reducible refine LeO.ite ?_ ?_)
   | (with_reducible refine LeO.bind ?_ (fun _ => ?_))
   | exact ih0 _ _ _
   | exact ih1 _ _ _
   | exact ih2 _ _ _ _
   | exact ih3 _ _ _ _
   | exact ih4 _ _ _ _
   | exact ih5 _ _ _ _
   | exact spoolref48_hex.mono _ _
   | exact LeO.none _
   | refine LeO.ite ?_ ?_
   | refine LeO.bind ?_ (fun _ => ?_)
theorem spoolref48_Unquote.mono : ∀ a0 a1 k, LeO (spoolref48_Unquote.f k a0 a1) (spoolref48_Unquote.f (k + 1) a0 a1) := by
 intro a0 a1 k
 obtain ⟨ih0, ih1, ih2, ih3, ih4, ih5⟩ := spoolref48_Unquote.mono_l k
 unfold spoolref48_Unquote.f
 repeat' first
   | (with_reducible exact ih0 _ _ _)
   | (with_reducible exact ih1 _ _ _)
   | (with_reducible exact ih2 _ _ _ _)
   | (with_reducible exact ih3 _ _ _ _)
   | (with_reducible exact ih4 _ _ _ _)
   | (with_reducible exact ih5 _ _ _ _)
   | (with_reducible exact spoolref48_hex.mono _ _)
   | (with_reducible exact LeO.refl _)
   | (with_reducible exact LeO.none _)
   | (with_reducible refine LeO.ite ?_ ?_)
   | (with_reducible refine LeO.bind ?_ (fun _ => ?_))
   | exact ih0 _ _ _
   | exact ih1 _ _ _
   | exact ih2 _ _ _ _
   | exact ih3 _ _ _ _
   | exact ih4 _ _ _ _
   | exact ih5 _ _ _ _
   | exact spoolref48_hex.mono _ _
   | exact LeO.none _
   | refine LeO.ite ?_ ?_
   | refine LeO.bind ?_ (fun _ => ?_)
def spoolref48_Unquote.T16 : Bool × List (List Nat × List Nat) := (true, [([], []), ([], []), ([], []), ([2], [2]), ([1, 3], [1, 3]), ([4], [4]), ([5], [5]), ([], []), ([], []), ([8], [8]), ([7, 9], [7, 9]), ([10, 5], [10]), ([6, 11], [6, 11]), ([12], [12]), ([13], [13]), ([0, 14, 11], [0, 14]), ([15, 15, 0, 1, 2, 3, 4, 5, 6, 7, 8, 9, 10, 11, 12, 13, 14, 15], [0, 15])])
def spoolref48_Unquote.B16 : List Nat := [0, 0, 0, 4, 14, 30, 62, 0, 0, 256, 896, 1982, 4094, 8190, 16382, 32767, 65535]
theorem spoolref48_Unquote.tab16 : rtab .any (opsOf Tryd.f17 16) = spoolref48_Unquote.T16 := by kernel_rfl
theorem spoolref48_Unquote.bits16 : waitsOk spoolref48_Unquote.T16.2 spoolref48_Unquote.B16 = true := by kernel_rfl
set_option maxHeartbeats 8000000 in
set_option maxRecDepth 100000 in
theorem spoolref48_Unquote.calls (k : Nat) (a0 : ByteArray) (a1 : Int) (r1 : ByteArray) (r2 : Int) (r3 : Int) (w : World) (h : spoolref48_Unquote.f k a0 a1 = some (r1, r2, r3)) :
  Calls Tryd.prog 17 #[.string a0, .int .i64 a1] w fun e w' => e = .returned (.tuple #[.string r1, .int .i64 r2, .int .i64 r3]) ∧ Below w.heap.size w w' := by
 have HB := Aside0.mk (Below.refl w.heap.size w)
 have H : (if a1 ≥ (a0.size : Int) then (spoolref48_Unquote.j0 k a0 a1 true) else (if 0 ≤ a1 then (if a1 < (a0.size : Int) then (spoolref48_Unquote.j0 k a0 a1 ((bt a0 a1) != 34)) else (none)) else (none))) = some (r1, r2, r3) := h
 clear h
 have HC3 := Aside0.mk H
 clear H
 go_enter Tryd.func17, Tryd.ntmps17
 go_upto_region 1 with (fail)
 go_cut [18] (fun v18 wc => ∃ (kq : Nat) (x18_2 : Bool), v18 = .bool x18_2 ∧ Aside0 (spoolref48_Unquote.j0 kq a0 a1 x18_2 = some (r1, r2, r3)) ∧ Aside0 (kq ≤ k) ∧ Aside0 (Below w.heap.size w wc))
 case first =>
  have H := HC3.out
  clear HC3
  by_cases c4 : a1 ≥ (a0.size : Int)
  ·rw [if_pos c4] at H
   have c4b0 : decide ((a0.size : Int) ≤ a1) = true := decide_eq_true c4
   clear c4
   (first | rw [c4b0] | (simp only [i64_w, i32_w]; rw [c4b0]) | skip)
   have H' := Aside0.mk H
   clear H
   go_wp2
   go_meet
   case rel => exact ⟨_, (true), fib_, H', ⟨by first | omega | exact Nat.le_refl _⟩, ⟨blw_ HB.out⟩⟩
  ·rw [if_neg c4] at H
   have c4b0 : decide ((a0.size : Int) ≤ a1) = false := decide_eq_false c4
   clear c4
   (first | rw [c4b0] | (simp only [i64_w, i32_w]; rw [c4b0]) | skip)
   by_cases c5 : 0 ≤ a1
   ·rw [if_pos c5] at H
    have c5b0 : decide (0 ≤ a1) = true := decide_eq_true c5
    clear c5
    by_cases c6 : a1 < (a0.size : Int)
    ·rw [if_pos c6] at H
     have c6b0 : decide (a1 < (a0.size : Int)) = true := decide_eq_true c6
     clear c6
     have H' := Aside0.mk H
     clear H
     have p7 : 0 ≤ (a1 : Int) := of_decide_eq_true asa_
     have q7 : a1 < (a0.size : Int) := of_decide_eq_true asa_
     have hx7 := bt_at a0 a1
     replace p7 := eq_true p7
     replace q7 := eq_true q7
     go_wp2
     go_meet
     case rel => exact ⟨_, (((bt a0 a1) != 34)), fib_, H', ⟨by first | omega | exact Nat.le_refl _⟩, ⟨blw_ HB.out⟩⟩
    ·rw [if_neg c6] at H
     exact absurd H (by simp)
   ·rw [if_neg c5] at H
    exact absurd H (by simp)
 case rest =>
  clear HC3
  try clear c1
  try clear p2
  try clear c4
  try clear c4b0
  try clear c5
  try clear c5b0
  try clear c6
  try clear c6b0
  try clear p7
  try clear q7
  try clear hx7
  try clear p7
  try clear q7
  obtain ⟨kq, x18_2, rfl, HA, HJ2, HB⟩ := hcut
  cases kq with
  | zero => exact absurd HA.out (by simp [spoolref48_Unquote.j0])
  | succ kj2 =>
   have H := HA.out
   clear HA
   simp only [spoolref48_Unquote.j0] at H
   by_cases c8 : x18_2 = true
   ·subst c8
    have H1 : (some ((⟨#[]⟩ : ByteArray), 0, a1)) = some (r1, r2, r3) := by rw [if_pos rfl] at H; exact H
    clear H
    have H := H1
    clear H1
    simp only [Option.some.injEq, Prod.mk.injEq] at H
    obtain ⟨rfl, rfl, rfl⟩ := H
    go_wp2
    go_ret3
    exact ⟨fia_, blw_ HB.out⟩
   ·replace c8 := Bool.eq_false_iff.mpr c8
    subst c8
    have H1 : (spoolref48_Unquote.l0 kj2 a0 ([] : List Int) (wrap64 (a1 + 1))) = some (r1, r2, r3) := by rw [if_neg (show ¬ (false = true) by decide)] at H; exact H
    clear H
    have H := H1
    clear H1
    have H' := Aside0.mk H
    clear H
    go_wp2
    go_loopg [7, 8] kj2 (fun kq v7 v8 w' => ∃ (x7_2 : List Int) (x8_2 : Int), v8 = .int .i64 x8_2 ∧ Aside0 (spoolref48_Unquote.l0 kq a0 x7_2 x8_2 = some (r1, r2, r3)) ∧ Aside0 (kq ≤ kj2) ∧ Aside0 (Kd.R (Kd.int .u8) 5 w' w.heap.size (fun _ => True) v7 x7_2) ∧ Aside0 (Below w.heap.size w w'))
    case atStart => exact ⟨(([] : List Int)), (wrap64 (a1 + 1)), fib_, H', ⟨Nat.le_refl _⟩, ⟨by first | exact Kd.R_nil _ _ _ _ _ | exact Kd.N_nil _ _ _ _ _ | exact Kd.V_nil _ _ _ _ _ | exact Kd.Q_nil _ _ _ _ _ | exact Kd.S_nil _ _ _ _ _⟩, ⟨blw_ HB.out⟩⟩
    case round =>
     clear H'
     try clear c1
     try clear p2
     try clear c4
     try clear c4b0
     try clear c5
     try clear c5b0
     try clear c6
     try clear c6b0
     try clear p6
     try clear p7
     try clear q7
     try clear hx7
     try clear c8
     try clear p2
     try clear p7
     try clear q7
     obtain ⟨x7_2, x8_2, rfl, HA, HK2, HO_7, HB⟩ := hrel
     cases gk with
     | zero => exact absurd HA.out (by simp [spoolref48_Unquote.l0])
     | succ k2 =>
      have H := HA.out
      clear HA
      simp only [spoolref48_Unquote.l0] at H
      have HC9 := Aside0.mk H
      clear H
      go_upto_region 5 with (fail)
      go_cut [31] (fun v31 wc => ∃ (kq : Nat) (x31_8 : Bool), v31 = .bool x31_8 ∧ Aside0 (spoolref48_Unquote.j2 kq a0 x7_2 x8_2 x31_8 = some (r1, r2, r3)) ∧ Aside0 (kq ≤ k2) ∧ Aside0 (Kd.R (Kd.int .u8) 5 wc w.heap.size (fun _ => True) u7 x7_2) ∧ Aside0 (Below w.heap.size w wc))
      case first =>
       have H := HC9.out
       clear HC9
       by_cases c10 : x8_2 < (a0.size : Int)
       ·rw [if_pos c10] at H
        have c10b0 : decide (x8_2 < (a0.size : Int)) = true := decide_eq_true c10
        clear c10
        (first | rw [c10b0] | (simp only [i64_w, i32_w]; rw [c10b0]) | skip)
        by_cases c11 : 0 ≤ x8_2
        ·rw [if_pos c11] at H
         have c11b0 : decide (0 ≤ x8_2) = true := decide_eq_true c11
         clear c11
         have H' := Aside0.mk H
         clear H
         have p12 : 0 ≤ (x8_2 : Int) := of_decide_eq_true asa_
         have q12 : x8_2 < (a0.size : Int) := of_decide_eq_true asa_
         have hx12 := bt_at a0 x8_2
         replace p12 := eq_true p12
         replace q12 := eq_true q12
         go_wp2
         go_meet
         case rel => exact ⟨_, (((bt a0 x8_2) != 34)), fib_, H', ⟨by have := HJ2.out; have := HK2.out; first | omega | exact Nat.le_refl _⟩, ⟨by (with_reducible repeat (first | apply Kd.R_alloc | apply Kd.R_drewN | apply Kd.R_drew)); exact HO_7.out⟩, ⟨blw_ HB.out⟩⟩
        ·rw [if_neg c11] at H
         exact absurd H (by simp)
       ·rw [if_neg c10] at H
        have c10b0 : decide (x8_2 < (a0.size : Int)) = false := decide_eq_false c10
        clear c10
        (first | rw [c10b0] | (simp only [i64_w, i32_w]; rw [c10b0]) | skip)
        have H' := Aside0.mk H
        clear H
        go_wp2
        go_meet
        case rel => exact ⟨_, (false), fib_, H', ⟨by have := HJ2.out; have := HK2.out; first | omega | exact Nat.le_refl _⟩, ⟨by (with_reducible repeat (first | apply Kd.R_alloc | apply Kd.R_drewN | apply Kd.R_drew)); exact HO_7.out⟩, ⟨blw_ HB.out⟩⟩
      case rest =>
       clear HC9
       try clear c1
       try clear p1
       try clear q1
       try clear hx1
       try clear p2
       try clear c4
       try clear c4b0
       try clear c5
       try clear c5b0
       try clear c6
       try clear c6b0
       try clear p6
       try clear p7
       try clear q7
       try clear hx7
       try clear c8
       try clear c10
       try clear c10b0
       try clear c11
       try clear c11b0
       try clear p12
       try clear q12
       try clear hx12
       try clear p12
       try clear p2
       try clear p6
       try clear p7
       try clear q12
       try clear q7
       obtain ⟨kq, x31_8, rfl, HA, HJ8, HO_7, HB⟩ := hcut
       cases kq with
       | zero => exact absurd HA.out (by simp [spoolref48_Unquote.j2])
       | succ kj8 =>
        have H := HA.out
        clear HA
        simp only [spoolref48_Unquote.j2] at H
        by_cases c13 : x31_8 = true
        ·subst c13
         have H1 : (if 0 ≤ x8_2 then (if x8_2 < (a0.size : Int) then (if (bt a0 x8_2) < 32 then (spoolref48_Unquote.j3 kj8 a0 x7_2 x8_2 true) else (spoolref48_Unquote.j3 kj8 a0 x7_2 x8_2 (decide ((bt a0 x8_2) > 126)))) else (none)) else (none)) = some (r1, r2, r3) := by rw [if_pos rfl] at H; exact H
         clear H
         have H := H1
         clear H1
         have HC14 := Aside0.mk H
         clear H
         go_upto_region 6 with (fail)
         go_cut [41] (fun v41 wc => ∃ (kq : Nat) (x41_13 : Bool), v41 = .bool x41_13 ∧ Aside0 (spoolref48_Unquote.j3 kq a0 x7_2 x8_2 x41_13 = some (r1, r2, r3)) ∧ Aside0 (kq ≤ kj8) ∧ Aside0 (Kd.R (Kd.int .u8) 5 wc w.heap.size (fun _ => True) u7 x7_2) ∧ Aside0 (Below w.heap.size w wc))
         case first =>
          have H := HC14.out
          clear HC14
          by_cases c15 : 0 ≤ x8_2
          ·rw [if_pos c15] at H
           have c15b0 : decide (0 ≤ x8_2) = true := decide_eq_true c15
           clear c15
           (first | rw [c15b0] | (simp only [i64_w, i32_w]; rw [c15b0]) | skip)
           by_cases c16 : x8_2 < (a0.size : Int)
           ·rw [if_pos c16] at H
            have c16b0 : decide (x8_2 < (a0.size : Int)) = true := decide_eq_true c16
            clear c16
            by_cases c18 : (bt a0 x8_2) < 32
            ·rw [if_pos c18] at H
             have c18b0 : decide ((bt a0 x8_2) < 32) = true := decide_eq_true c18
             clear c18
             have H' := Aside0.mk H
             clear H
             have p17 : 0 ≤ (x8_2 : Int) := of_decide_eq_true asa_
             have q17 : x8_2 < (a0.size : Int) := of_decide_eq_true asa_
             have hx17 := bt_at a0 x8_2
             replace p17 := eq_true p17
             replace q17 := eq_true q17
             go_wp2
             go_meet
             case rel => exact ⟨_, (true), fib_, H', ⟨by have := HJ2.out; have := HK2.out; have := HJ8.out; first | omega | exact Nat.le_refl _⟩, ⟨by (with_reducible repeat (first | apply Kd.R_alloc | apply Kd.R_drewN | apply Kd.R_drew)); exact HO_7.out⟩, ⟨blw_ HB.out⟩⟩
            ·rw [if_neg c18] at H
             have c18b0 : decide ((bt a0 x8_2) < 32) = false := decide_eq_false c18
             clear c18
             have H' := Aside0.mk H
             clear H
             have p17 : 0 ≤ (x8_2 : Int) := of_decide_eq_true asa_
             have q17 : x8_2 < (a0.size : Int) := of_decide_eq_true asa_
             have hx17 := bt_at a0 x8_2
             replace p17 := eq_true p17
             replace q17 := eq_true q17
             have p19 : 0 ≤ (x8_2 : Int) := of_decide_eq_true asa_
             have q19 : x8_2 < (a0.size : Int) := of_decide_eq_true asa_
             have hx19 := bt_at a0 x8_2
             replace p19 := eq_true p19
             replace q19 := eq_true q19
             go_wp2
             go_meet
             case rel => exact ⟨_, (decide ((bt a0 x8_2) > 126)), fib_, H', ⟨by have := HJ2.out; have := HK2.out; have := HJ8.out; first | omega | exact Nat.le_refl _⟩, ⟨by (with_reducible repeat (first | apply Kd.R_alloc | apply Kd.R_drewN | apply Kd.R_drew)); exact HO_7.out⟩, ⟨blw_ HB.out⟩⟩
           ·rw [if_neg c16] at H
            exact absurd H (by simp)
          ·rw [if_neg c15] at H
           exact absurd H (by simp)
         case rest =>
          clear HC14
          try clear c1
          try clear p1
          try clear q1
          try clear hx1
          try clear p2
          try clear c4
          try clear c4b0
          try clear c5
          try clear c5b0
          try clear c6
          try clear c6b0
          try clear p6
          try clear p7
          try clear q7
          try clear hx7
          try clear c8
          try clear c10
          try clear c10b0
          try clear c11
          try clear c11b0
          try clear p12
          try clear q12
          try clear hx12
          try clear c13
          try clear c15
          try clear c15b0
          try clear c16
          try clear c16b0
          try clear c17
          try clear p17
          try clear q17
          try clear hx17
          try clear c18
          try clear c18b0
          try clear p19
          try clear q19
          try clear hx19
          try clear p1
          try clear p12
          try clear p17
          try clear p19
          try clear p2
          try clear p6
          try clear p7
          try clear q1
          try clear q12
          try clear q17
          try clear q19
          try clear q7
          obtain ⟨kq, x41_13, rfl, HA, HJ13, HO_7, HB⟩ := hcut
          cases kq with
          | zero => exact absurd HA.out (by simp [spoolref48_Unquote.j3])
          | succ kj13 =>
           have H := HA.out
           clear HA
           simp only [spoolref48_Unquote.j3] at H
           by_cases c20 : x41_13 = true
           ·subst c20
            have H1 : (some ((⟨#[]⟩ : ByteArray), 0, x8_2)) = some (r1, r2, r3) := by rw [if_pos rfl] at H; exact H
            clear H
            have H := H1
            clear H1
            simp only [Option.some.injEq, Prod.mk.injEq] at H
            obtain ⟨rfl, rfl, rfl⟩ := H
            go_wp2
            go_ret3
            exact ⟨fia_, blw_ HB.out⟩
           ·replace c20 := Bool.eq_false_iff.mpr c20
            subst c20
            have H1 : (if 0 ≤ x8_2 then (if x8_2 < (a0.size : Int) then (if (bt a0 x8_2) = 92 then (if (wrap64 (x8_2 + 1)) < (a0.size : Int) then (if 0 ≤ (wrap64 (x8_2 + 1)) then (if (bt a0 (wrap64 (x8_2 + 1))) = 34 then (spoolref48_Unquote.j4 kj13 a0 x7_2 x8_2 true) else (spoolref48_Unquote.j4 kj13 a0 x7_2 x8_2 ((bt a0 (wrap64 (x8_2 + 1))) == 92))) else (none)) else (spoolref48_Unquote.j4 kj13 a0 x7_2 x8_2 false)) else (if x7_2.length < 140737488355328 then (spoolref48_Unquote.l0 kj13 a0 (x7_2 ++ [bt a0 x8_2]) (wrap64 (x8_2 + 1))) else (none))) else (none)) else (none)) = some (r1, r2, r3) := by rw [if_neg (show ¬ (false = true) by decide)] at H; exact H
            clear H
            have H := H1
            clear H1
            by_cases c21 : 0 ≤ x8_2
            ·rw [if_pos c21] at H
             have c21b0 : decide (0 ≤ x8_2) = true := decide_eq_true c21
             clear c21
             by_cases c22 : x8_2 < (a0.size : Int)
             ·rw [if_pos c22] at H
              have c22b0 : decide (x8_2 < (a0.size : Int)) = true := decide_eq_true c22
              clear c22
              by_cases c24 : (bt a0 x8_2) = 92
              ·rw [if_pos c24] at H
               have c24b0 : ((bt a0 x8_2) == 92) = true := beq_iff_eq.mpr c24
               have c24b1 : ((bt a0 x8_2) != 92) = false := bne_eq_false_iff_eq.mpr c24
               clear c24
               have HC25 := Aside0.mk H
               clear H
               have p23 : 0 ≤ (x8_2 : Int) := of_decide_eq_true asa_
               have q23 : x8_2 < (a0.size : Int) := of_decide_eq_true asa_
               have hx23 := bt_at a0 x8_2
               replace p23 := eq_true p23
               replace q23 := eq_true q23
               go_upto_region 11 with (fail)
               go_cut [73] (fun v73 wc => ∃ (kq : Nat) (x73_24 : Bool), v73 = .bool x73_24 ∧ Aside0 (spoolref48_Unquote.j4 kq a0 x7_2 x8_2 x73_24 = some (r1, r2, r3)) ∧ Aside0 (kq ≤ kj13) ∧ Aside0 (Kd.R (Kd.int .u8) 5 wc w.heap.size (fun _ => True) u7 x7_2) ∧ Aside0 (Below w.heap.size w wc))
               case first =>
                have H := HC25.out
                clear HC25
                by_cases c26 : (wrap64 (x8_2 + 1)) < (a0.size : Int)
                ·rw [if_pos c26] at H
                 have c26b0 : decide ((wrap64 (x8_2 + 1)) < (a0.size : Int)) = true := decide_eq_true c26
                 clear c26
                 (first | rw [c26b0] | (simp only [i64_w, i32_w]; rw [c26b0]) | skip)
                 obtain ⟨ji27, hji27⟩ : ∃ j_ : Int, (wrap64 (x8_2 + 1)) = j_ := ⟨_, rfl⟩
                 replace H : (if 0 ≤ (ji27) then (if (bt a0 (ji27)) = 34 then (spoolref48_Unquote.j4 kj13 a0 x7_2 x8_2 true) else (spoolref48_Unquote.j4 kj13 a0 x7_2 x8_2 ((bt a0 (ji27)) == 92))) else (none)) = some (r1, r2, r3) := by first | (rw [hji27] at H; exact H) | (simp only [hji27] at H ⊢; exact H)
                 (try rw [hji27] at c26b0)
                 have hji27w : (IntKind.i64.wrap (x8_2 + 1)) = ji27 := (i64_w _).trans hji27
                 by_cases c28 : 0 ≤ (ji27)
                 ·rw [if_pos c28] at H
                  have c28b0 : decide (0 ≤ (ji27)) = true := decide_eq_true c28
                  clear c28
                  by_cases c30 : (bt a0 (ji27)) = 34
                  ·rw [if_pos c30] at H
                   have c30b0 : ((bt a0 (ji27)) == 34) = true := beq_iff_eq.mpr c30
                   have c30b1 : ((bt a0 (ji27)) != 34) = false := bne_eq_false_iff_eq.mpr c30
                   clear c30
                   have H' := Aside0.mk H
                   clear H
                   have p29 : 0 ≤ ((ji27) : Int) := of_decide_eq_true asa_
                   have q29 : (ji27) < (a0.size : Int) := of_decide_eq_true asa_
                   have hx29 := bt_at a0 (ji27)
                   replace p29 := eq_true p29
                   replace q29 := eq_true q29
                   go_wp2
                   go_meet
                   case rel => exact ⟨_, (true), fib_, H', ⟨by have := HJ2.out; have := HK2.out; have := HJ8.out; have := HJ13.out; first | omega | exact Nat.le_refl _⟩, ⟨by (with_reducible repeat (first | apply Kd.R_alloc | apply Kd.R_drewN | apply Kd.R_drew)); exact HO_7.out⟩, ⟨blw_ HB.out⟩⟩
                  ·rw [if_neg c30] at H
                   have c30b0 : ((bt a0 (ji27)) == 34) = false := beq_eq_false_iff_ne.mpr c30
                   have c30b1 : ((bt a0 (ji27)) != 34) = true := bne_iff_ne.mpr c30
                   have H' := Aside0.mk H
                   clear H
                   have p29 : 0 ≤ ((ji27) : Int) := of_decide_eq_true asa_
                   have q29 : (ji27) < (a0.size : Int) := of_decide_eq_true asa_
                   have hx29 := bt_at a0 (ji27)
                   replace p29 := eq_true p29
                   replace q29 := eq_true q29
                   have p31 : 0 ≤ ((ji27) : Int) := of_decide_eq_true asa_
                   have q31 : (ji27) < (a0.size : Int) := of_decide_eq_true asa_
                   have hx31 := bt_at a0 (ji27)
                   replace p31 := eq_true p31
                   replace q31 := eq_true q31
                   go_wp2
                   go_meet
                   case rel => exact ⟨_, (((bt a0 (ji27)) == 92)), (by first | rfl | (simp; done) | (simp only [← hji27] <;> (first | rfl | simp)) | (simp [*]; done)), H', ⟨by have := HJ2.out; have := HK2.out; have := HJ8.out; have := HJ13.out; first | omega | exact Nat.le_refl _⟩, ⟨by (with_reducible repeat (first | apply Kd.R_alloc | apply Kd.R_drewN | apply Kd.R_drew)); exact HO_7.out⟩, ⟨blw_ HB.out⟩⟩
                 ·rw [if_neg c28] at H
                  exact absurd H (by simp)
                ·rw [if_neg c26] at H
                 have c26b0 : decide ((wrap64 (x8_2 + 1)) < (a0.size : Int)) = false := decide_eq_false c26
                 clear c26
                 (first | rw [c26b0] | (simp only [i64_w, i32_w]; rw [c26b0]) | skip)
                 have H' := Aside0.mk H
                 clear H
                 go_wp2
                 go_meet
                 case rel => exact ⟨_, (false), fib_, H', ⟨by have := HJ2.out; have := HK2.out; have := HJ8.out; have := HJ13.out; first | omega | exact Nat.le_refl _⟩, ⟨by (with_reducible repeat (first | apply Kd.R_alloc | apply Kd.R_drewN | apply Kd.R_drew)); exact HO_7.out⟩, ⟨blw_ HB.out⟩⟩
               case rest =>
                clear HC25
                try clear c1
                try clear p1
                try clear q1
                try clear hx1
                try clear c2
                try clear p2
                try clear q2
                try clear hx2
                try clear c3
                try clear p3
                try clear q3
                try clear hx3
                try clear c4
                try clear c4b0
                try clear c5
                try clear c5b0
                try clear c6
                try clear c6b0
                try clear p6
                try clear p7
                try clear q7
                try clear hx7
                try clear c8
                try clear c10
                try clear c10b0
                try clear c11
                try clear c11b0
                try clear p12
                try clear q12
                try clear hx12
                try clear c13
                try clear c15
                try clear c15b0
                try clear c16
                try clear c16b0
                try clear c17
                try clear p17
                try clear q17
                try clear hx17
                try clear c18
                try clear c18b0
                try clear p19
                try clear q19
                try clear hx19
                try clear c20
                try clear c21
                try clear c21b0
                try clear c22
                try clear c22b0
                try clear p23
                try clear q23
                try clear hx23
                try clear c24
                try clear c24b0
                try clear c24b1
                try clear c26
                try clear c26b0
                try clear c28
                try clear c28b0
                try clear p29
                try clear q29
                try clear hx29
                try clear c30
                try clear c30b0
                try clear c30b1
                try clear p31
                try clear q31
                try clear hx31
                try clear p1
                try clear p12
                try clear p17
                try clear p19
                try clear p2
                try clear p23
                try clear p29
                try clear p31
                try clear p6
                try clear p7
                try clear q1
                try clear q12
                try clear q17
                try clear q19
                try clear q23
                try clear q29
                try clear q31
                try clear q7
                obtain ⟨kq, x73_24, rfl, HA, HJ24, HO_7, HB⟩ := hcut
                cases kq with
                | zero => exact absurd HA.out (by simp [spoolref48_Unquote.j4])
                | succ kj24 =>
                 have H := HA.out
                 clear HA
                 simp only [spoolref48_Unquote.j4] at H
                 by_cases c32 : x73_24 = true
                 ·subst c32
                  have H1 : (if 0 ≤ (wrap64 (x8_2 + 1)) then (if (wrap64 (x8_2 + 1)) < (a0.size : Int) then (if x7_2.length < 140737488355328 then (spoolref48_Unquote.l0 kj24 a0 (x7_2 ++ [bt a0 (wrap64 (x8_2 + 1))]) (wrap64 (x8_2 + 2))) else (none)) else (none)) else (none)) = some (r1, r2, r3) := by rw [if_pos rfl] at H; exact H
                  clear H
                  have H := H1
                  clear H1
                  obtain ⟨ji33, hji33⟩ : ∃ j_ : Int, (wrap64 (x8_2 + 1)) = j_ := ⟨_, rfl⟩
                  replace H : (if 0 ≤ (ji33) then (if (ji33) < (a0.size : Int) then (if x7_2.length < 140737488355328 then (spoolref48_Unquote.l0 kj24 a0 (x7_2 ++ [bt a0 (ji33)]) (wrap64 (x8_2 + 2))) else (none)) else (none)) else (none)) = some (r1, r2, r3) := by first | (rw [hji33] at H; exact H) | (simp only [hji33] at H ⊢; exact H)
                  have hji33w : (IntKind.i64.wrap (x8_2 + 1)) = ji33 := (i64_w _).trans hji33
                  by_cases c34 : 0 ≤ (ji33)
                  ·rw [if_pos c34] at H
                   have c34b0 : decide (0 ≤ (ji33)) = true := decide_eq_true c34
                   clear c34
                   by_cases c35 : (ji33) < (a0.size : Int)
                   ·rw [if_pos c35] at H
                    have c35b0 : decide ((ji33) < (a0.size : Int)) = true := decide_eq_true c35
                    clear c35
                    by_cases c37 : x7_2.length < 140737488355328
                    ·rw [if_pos c37] at H
                     have LMc37 := Aside0.mk c37
                     clear c37
                     obtain ⟨y224, hy224⟩ : ∃ y_ : List Int, y_ = (x7_2 ++ [bt a0 (ji33)]) := ⟨_, rfl⟩
                     replace H : (spoolref48_Unquote.l0 kj24 a0 y224 (wrap64 (x8_2 + 2))) = some (r1, r2, r3) := by first | (rw [hy224]; with_reducible exact H) | (have H2_ := (Option.bind_some _ _).symm.trans H; rw [hy224]; with_reducible exact H2_) | (have H2_ := (Option.bind_some _ _).symm.trans H; with_reducible exact H2_) | with_reducible exact H | (rw [hy224]; exact H) | exact H
                     have Ny224 := Aside0.mk hy224
                     clear hy224
                     have H' := Aside0.mk H
                     clear H
                     have p36 : 0 ≤ ((ji33) : Int) := of_decide_eq_true asa_
                     have q36 : (ji33) < (a0.size : Int) := of_decide_eq_true asa_
                     have hx36 := bt_at a0 (ji33)
                     replace p36 := eq_true p36
                     replace q36 := eq_true q36
                     go_wp2_with (first | ((with_reducible refine gate_builtin (b := .append) (xs := #[.tmp 74, .tmp 79]) rfl ?_); at_builtin; refine Kd.R_append (Kd.int .u8) (w0 := w) w.heap.size rfl (.tmp 74) (.tmp 79) 67 5 (.int .u8 0) 1 rfl Tryd.underlying67 info5 rfl (by decide) (by omega) u7 x7_2 (bt a0 (ji33)) [.int .u8 (bt a0 (ji33))] (fun _ => True) (fun _ => False) rfl rfl ?aP (fun _ hk => hk.elim) ?aF ?aO ?aB ?aS ?aL ?_; (case aP => exact rfl); (case aB => exact (blw_ HB.out)); (case aF => exact (fun _ _ => trivial)); (case aO => exact (by (with_reducible repeat (first | apply Kd.R_alloc | apply Kd.R_drewN | apply Kd.R_drew)); exact HO_7.out)); (case aS => exact (below_size (blw_ HB.out))); (case aL => have := LMc37.out; omega); intro v225 w38 ho hb hg hat; rw [← Ny224.out] at ho; have n0_ := Aside0.mk (hb); have n1_ := Aside0.mk (ho); clear HB; clear HO_7; have HB := n0_; have HO226 := n1_; clear n0_ n1_; clear ho hb hg hat))
                     go_roundg kj24
                     case measure => have := HJ2.out; have := HK2.out; have := HJ8.out; have := HJ13.out; have := HJ24.out; omega
                     case rel => exact ⟨(y224), (wrap64 (x8_2 + 2)), fib_, H', ⟨by have := HJ2.out; have := HK2.out; have := HJ8.out; have := HJ13.out; have := HJ24.out; omega⟩, ⟨by (with_reducible repeat (first | apply Kd.R_alloc | apply Kd.R_drewN | apply Kd.R_drew)); exact HO226.out⟩, ⟨blw_ HB.out⟩⟩
                    ·rw [if_neg c37] at H
                     exact absurd H (by simp)
                   ·rw [if_neg c35] at H
                    exact absurd H (by simp)
                  ·rw [if_neg c34] at H
                   exact absurd H (by simp)
                 ·replace c32 := Bool.eq_false_iff.mpr c32
                  subst c32
                  have H1 : (if (wrap64 (x8_2 + 3)) ≥ (a0.size : Int) then (spoolref48_Unquote.j5 kj24 a0 x7_2 x8_2 true) else (if 0 ≤ (wrap64 (x8_2 + 1)) then (if (wrap64 (x8_2 + 1)) < (a0.size : Int) then (if (bt a0 (wrap64 (x8_2 + 1))) = 120 then (if 0 ≤ (wrap64 (x8_2 + 2)) then (if (wrap64 (x8_2 + 2)) < (a0.size : Int) then ((spoolref48_hex.f kj24 (bt a0 (wrap64 (x8_2 + 2)))).bind fun t227 => (if t227 < 0 then (spoolref48_Unquote.j5 kj24 a0 x7_2 x8_2 true) else (if 0 ≤ (wrap64 (x8_2 + 3)) then (if (wrap64 (x8_2 + 3)) < (a0.size : Int) then ((spoolref48_hex.f kj24 (bt a0 (wrap64 (x8_2 + 3)))).bind fun t228 => (spoolref48_Unquote.j5 kj24 a0 x7_2 x8_2 (decide (t228 < 0)))) else (none)) else (none)))) else (none)) else (none)) else (spoolref48_Unquote.j5 kj24 a0 x7_2 x8_2 true)) else (none)) else (none))) = some (r1, r2, r3) := by rw [if_neg (show ¬ (false = true) by decide)] at H; exact H
                  clear H
                  have H := H1
                  clear H1
                  have HC39 := Aside0.mk H
                  clear H
                  go_upto_region 14 with (fail)
                  go_cut [110] (fun v110 wc => ∃ (kq : Nat) (x110_38 : Bool), v110 = .bool x110_38 ∧ Aside0 (spoolref48_Unquote.j5 kq a0 x7_2 x8_2 x110_38 = some (r1, r2, r3)) ∧ Aside0 (kq ≤ kj24) ∧ Aside0 (Kd.R (Kd.int .u8) 5 wc w.heap.size (fun _ => True) u7 x7_2) ∧ Aside0 (Below w.heap.size w wc))
                  case first =>
                   have H := HC39.out
                   clear HC39
                   by_cases c40 : (wrap64 (x8_2 + 3)) ≥ (a0.size : Int)
                   ·rw [if_pos c40] at H
                    have c40b0 : decide ((a0.size : Int) ≤ (wrap64 (x8_2 + 3))) = true := decide_eq_true c40
                    clear c40
                    (first | rw [c40b0] | (simp only [i64_w, i32_w]; rw [c40b0]) | skip)
                    have H' := Aside0.mk H
                    clear H
                    go_wp2
                    go_meet
                    case rel => exact ⟨_, (true), fib_, H', ⟨by have := HJ2.out; have := HK2.out; have := HJ8.out; have := HJ13.out; have := HJ24.out; first | omega | exact Nat.le_refl _⟩, ⟨by (with_reducible repeat (first | apply Kd.R_alloc | apply Kd.R_drewN | apply Kd.R_drew)); exact HO_7.out⟩, ⟨blw_ HB.out⟩⟩
                   ·rw [if_neg c40] at H
                    have c40b0 : decide ((a0.size : Int) ≤ (wrap64 (x8_2 + 3))) = false := decide_eq_false c40
                    clear c40
                    (first | rw [c40b0] | (simp only [i64_w, i32_w]; rw [c40b0]) | skip)
                    obtain ⟨ji41, hji41⟩ : ∃ j_ : Int, (wrap64 (x8_2 + 1)) = j_ := ⟨_, rfl⟩
                    replace H : (if 0 ≤ (ji41) then (if (ji41) < (a0.size : Int) then (if (bt a0 (ji41)) = 120 then (if 0 ≤ (wrap64 (x8_2 + 2)) then (if (wrap64 (x8_2 + 2)) < (a0.size : Int) then ((spoolref48_hex.f kj24 (bt a0 (wrap64 (x8_2 + 2)))).bind fun t227 => (if t227 < 0 then (spoolref48_Unquote.j5 kj24 a0 x7_2 x8_2 true) else (if 0 ≤ (wrap64 (x8_2 + 3)) then (if (wrap64 (x8_2 + 3)) < (a0.size : Int) then ((spoolref48_hex.f kj24 (bt a0 (wrap64 (x8_2 + 3)))).bind fun t228 => (spoolref48_Unquote.j5 kj24 a0 x7_2 x8_2 (decide (t228 < 0)))) else (none)) else (none)))) else (none)) else (none)) else (spoolref48_Unquote.j5 kj24 a0 x7_2 x8_2 true)) else (none)) else (none)) = some (r1, r2, r3) := by first | (rw [hji41] at H; exact H) | (simp only [hji41] at H ⊢; exact H)
                    have hji41w : (IntKind.i64.wrap (x8_2 + 1)) = ji41 := (i64_w _).trans hji41
                    by_cases c42 : 0 ≤ (ji41)
                    ·rw [if_pos c42] at H
                     have c42b0 : decide (0 ≤ (ji41)) = true := decide_eq_true c42
                     clear c42
                     by_cases c43 : (ji41) < (a0.size : Int)
                     ·rw [if_pos c43] at H
                      have c43b0 : decide ((ji41) < (a0.size : Int)) = true := decide_eq_true c43
                      clear c43
                      by_cases c45 : (bt a0 (ji41)) = 120
                      ·rw [if_pos c45] at H
                       have c45b0 : ((bt a0 (ji41)) == 120) = true := beq_iff_eq.mpr c45
                       have c45b1 : ((bt a0 (ji41)) != 120) = false := bne_eq_false_iff_eq.mpr c45
                       clear c45
                       obtain ⟨ji46, hji46⟩ : ∃ j_ : Int, (wrap64 (x8_2 + 2)) = j_ := ⟨_, rfl⟩
                       replace H : (if 0 ≤ (ji46) then (if (ji46) < (a0.size : Int) then ((spoolref48_hex.f kj24 (bt a0 (ji46))).bind fun t227 => (if t227 < 0 then (spoolref48_Unquote.j5 kj24 a0 x7_2 x8_2 true) else (if 0 ≤ (wrap64 (x8_2 + 3)) then (if (wrap64 (x8_2 + 3)) < (a0.size : Int) then ((spoolref48_hex.f kj24 (bt a0 (wrap64 (x8_2 + 3)))).bind fun t228 => (spoolref48_Unquote.j5 kj24 a0 x7_2 x8_2 (decide (t228 < 0)))) else (none)) else (none)))) else (none)) else (none)) = some (r1, r2, r3) := by first | (rw [hji46] at H; exact H) | (simp only [hji46] at H ⊢; exact H)
                       have hji46w : (IntKind.i64.wrap (x8_2 + 2)) = ji46 := (i64_w _).trans hji46
                       by_cases c47 : 0 ≤ (ji46)
                       ·rw [if_pos c47] at H
                        have c47b0 : decide (0 ≤ (ji46)) = true := decide_eq_true c47
                        clear c47
                        by_cases c48 : (ji46) < (a0.size : Int)
                        ·rw [if_pos c48] at H
                         have c48b0 : decide ((ji46) < (a0.size : Int)) = true := decide_eq_true c48
                         clear c48
                         replace H := Option.bind_eq_some_iff.mp H
                         obtain ⟨t227, A500, H⟩ := H
                         replace H : (if t227 < 0 then (spoolref48_Unquote.j5 kj24 a0 x7_2 x8_2 true) else (if 0 ≤ (wrap64 (x8_2 + 3)) then (if (wrap64 (x8_2 + 3)) < (a0.size : Int) then ((spoolref48_hex.f kj24 (bt a0 (wrap64 (x8_2 + 3)))).bind fun t228 => (spoolref48_Unquote.j5 kj24 a0 x7_2 x8_2 (decide (t228 < 0)))) else (none)) else (none))) = some (r1, r2, r3) := H
                         have A50 := Aside0.mk A500
                         clear A500
                         by_cases c51 : t227 < 0
                         ·rw [if_pos c51] at H
                          have c51b0 : decide (t227 < 0) = true := decide_eq_true c51
                          clear c51
                          have H' := Aside0.mk H
                          clear H
                          have p44 : 0 ≤ ((ji41) : Int) := of_decide_eq_true asa_
                          have q44 : (ji41) < (a0.size : Int) := of_decide_eq_true asa_
                          have hx44 := bt_at a0 (ji41)
                          replace p44 := eq_true p44
                          replace q44 := eq_true q44
                          have p49 : 0 ≤ ((ji46) : Int) := of_decide_eq_true asa_
                          have q49 : (ji46) < (a0.size : Int) := of_decide_eq_true asa_
                          have hx49 := bt_at a0 (ji46)
                          replace p49 := eq_true p49
                          replace q49 := eq_true q49
                          go_wp2_with (first | (go_at_call 36; (with_reducible refine (spoolref48_hex.calls kj24 (bt a0 (ji46)) t227 _ A50.out).mono ?_); rintro e w' ⟨rfl, ⟨nd, rfl⟩⟩))
                          go_meet
                          case rel => exact ⟨_, (true), fib_, H', ⟨by have := HJ2.out; have := HK2.out; have := HJ8.out; have := HJ13.out; have := HJ24.out; first | omega | exact Nat.le_refl _⟩, ⟨by (with_reducible repeat (first | apply Kd.R_alloc | apply Kd.R_drewN | apply Kd.R_drew)); exact HO_7.out⟩, ⟨blw_ HB.out⟩⟩
                         ·rw [if_neg c51] at H
                          have c51b0 : decide (t227 < 0) = false := decide_eq_false c51
                          clear c51
                          obtain ⟨ji52, hji52⟩ : ∃ j_ : Int, (wrap64 (x8_2 + 3)) = j_ := ⟨_, rfl⟩
                          replace H : (if 0 ≤ (ji52) then (if (ji52) < (a0.size : Int) then ((spoolref48_hex.f kj24 (bt a0 (ji52))).bind fun t228 => (spoolref48_Unquote.j5 kj24 a0 x7_2 x8_2 (decide (t228 < 0)))) else (none)) else (none)) = some (r1, r2, r3) := by first | (rw [hji52] at H; exact H) | (simp only [hji52] at H ⊢; exact H)
                          (try rw [hji52] at c40b0)
                          (try rw [hji52] at A50)
                          have hji52w : (IntKind.i64.wrap (x8_2 + 3)) = ji52 := (i64_w _).trans hji52
                          by_cases c53 : 0 ≤ (ji52)
                          ·rw [if_pos c53] at H
                           have c53b0 : decide (0 ≤ (ji52)) = true := decide_eq_true c53
                           clear c53
                           by_cases c54 : (ji52) < (a0.size : Int)
                           ·rw [if_pos c54] at H
                            have c54b0 : decide ((ji52) < (a0.size : Int)) = true := decide_eq_true c54
                            clear c54
                            replace H := Option.bind_eq_some_iff.mp H
                            obtain ⟨t228, A560, H⟩ := H
                            replace H : (spoolref48_Unquote.j5 kj24 a0 x7_2 x8_2 (decide (t228 < 0))) = some (r1, r2, r3) := H
                            have A56 := Aside0.mk A560
                            clear A560
                            have H' := Aside0.mk H
                            clear H
                            have p44 : 0 ≤ ((ji41) : Int) := of_decide_eq_true asa_
                            have q44 : (ji41) < (a0.size : Int) := of_decide_eq_true asa_
                            have hx44 := bt_at a0 (ji41)
                            replace p44 := eq_true p44
                            replace q44 := eq_true q44
                            have p49 : 0 ≤ ((ji46) : Int) := of_decide_eq_true asa_
                            have q49 : (ji46) < (a0.size : Int) := of_decide_eq_true asa_
                            have hx49 := bt_at a0 (ji46)
                            replace p49 := eq_true p49
                            replace q49 := eq_true q49
                            go_wp2_with (first | (go_at_call 36; (with_reducible refine (spoolref48_hex.calls kj24 (bt a0 (ji46)) t227 _ A50.out).mono ?_); rintro e w' ⟨rfl, ⟨nd, rfl⟩⟩; have p55 : 0 ≤ ((ji52) : Int) := of_decide_eq_true asa_; have q55 : (ji52) < (a0.size : Int) := of_decide_eq_true asa_; have hx55 := bt_at a0 (ji52); replace p55 := eq_true p55; replace q55 := eq_true q55) | (go_at_call 36; (with_reducible refine (spoolref48_hex.calls kj24 (bt a0 (ji52)) t228 _ A56.out).mono ?_); rintro e w' ⟨rfl, ⟨nd, rfl⟩⟩))
                            go_meet
                            case rel => exact ⟨_, (decide (t228 < 0)), fib_, H', ⟨by have := HJ2.out; have := HK2.out; have := HJ8.out; have := HJ13.out; have := HJ24.out; first | omega | exact Nat.le_refl _⟩, ⟨by (with_reducible repeat (first | apply Kd.R_alloc | apply Kd.R_drewN | apply Kd.R_drew)); exact HO_7.out⟩, ⟨blw_ HB.out⟩⟩
                           ·rw [if_neg c54] at H
                            exact absurd H (by simp)
                          ·rw [if_neg c53] at H
                           exact absurd H (by simp)
                        ·rw [if_neg c48] at H
                         exact absurd H (by simp)
                       ·rw [if_neg c47] at H
                        exact absurd H (by simp)
                      ·rw [if_neg c45] at H
                       have c45b0 : ((bt a0 (ji41)) == 120) = false := beq_eq_false_iff_ne.mpr c45
                       have c45b1 : ((bt a0 (ji41)) != 120) = true := bne_iff_ne.mpr c45
                       have H' := Aside0.mk H
                       clear H
                       have p44 : 0 ≤ ((ji41) : Int) := of_decide_eq_true asa_
                       have q44 : (ji41) < (a0.size : Int) := of_decide_eq_true asa_
                       have hx44 := bt_at a0 (ji41)
                       replace p44 := eq_true p44
                       replace q44 := eq_true q44
                       go_wp2
                       go_meet
                       case rel => exact ⟨_, (true), fib_, H', ⟨by have := HJ2.out; have := HK2.out; have := HJ8.out; have := HJ13.out; have := HJ24.out; first | omega | exact Nat.le_refl _⟩, ⟨by (with_reducible repeat (first | apply Kd.R_alloc | apply Kd.R_drewN | apply Kd.R_drew)); exact HO_7.out⟩, ⟨blw_ HB.out⟩⟩
                     ·rw [if_neg c43] at H
                      exact absurd H (by simp)
                    ·rw [if_neg c42] at H
                     exact absurd H (by simp)
                  case rest =>
                   clear HC39
                   try clear c1
                   try clear p1
                   try clear q1
                   try clear hx1
                   try clear c2
                   try clear p2
                   try clear q2
                   try clear hx2
                   try clear c3
                   try clear p3
                   try clear q3
                   try clear hx3
                   try clear c4
                   try clear c4b0
                   try clear p4
                   try clear q4
                   try clear hx4
                   try clear c5
                   try clear c5b0
                   try clear p5
                   try clear q5
                   try clear hx5
                   try clear c6
                   try clear c6b0
                   try clear p6
                   try clear p7
                   try clear q7
                   try clear hx7
                   try clear c8
                   try clear c10
                   try clear c10b0
                   try clear c11
                   try clear c11b0
                   try clear p12
                   try clear q12
                   try clear hx12
                   try clear c13
                   try clear c15
                   try clear c15b0
                   try clear c16
                   try clear c16b0
                   try clear c17
                   try clear p17
                   try clear q17
                   try clear hx17
                   try clear c18
                   try clear c18b0
                   try clear p19
                   try clear q19
                   try clear hx19
                   try clear c20
                   try clear c21
                   try clear c21b0
                   try clear c22
                   try clear c22b0
                   try clear p23
                   try clear q23
                   try clear hx23
                   try clear c24
                   try clear c24b0
                   try clear c24b1
                   try clear c26
                   try clear c26b0
                   try clear c28
                   try clear c28b0
                   try clear p29
                   try clear q29
                   try clear hx29
                   try clear c30
                   try clear c30b0
                   try clear c30b1
                   try clear p31
                   try clear q31
                   try clear hx31
                   try clear c32
                   try clear c34
                   try clear c34b0
                   try clear c35
                   try clear c35b0
                   try clear p36
                   try clear q36
                   try clear hx36
                   try clear c37
                   try clear c40
                   try clear c40b0
                   try clear c42
                   try clear c42b0
                   try clear c43
                   try clear c43b0
                   try clear p44
                   try clear q44
                   try clear hx44
                   try clear c45
                   try clear c45b0
                   try clear c45b1
                   try clear c47
                   try clear c47b0
                   try clear c48
                   try clear c48b0
                   try clear p49
                   try clear q49
                   try clear hx49
                   try clear c51
                   try clear c51b0
                   try clear c53
                   try clear c53b0
                   try clear c54
                   try clear c54b0
                   try clear p55
                   try clear q55
                   try clear hx55
                   try clear p1
                   try clear p12
                   try clear p17
                   try clear p19
                   try clear p2
                   try clear p23
                   try clear p29
                   try clear p3
                   try clear p31
                   try clear p36
                   try clear p44
                   try clear p49
                   try clear p55
                   try clear p6
                   try clear p7
                   try clear q1
                   try clear q12
                   try clear q17
                   try clear q19
                   try clear q2
                   try clear q23
                   try clear q29
                   try clear q3
                   try clear q31
                   try clear q36
                   try clear q44
                   try clear q49
                   try clear q55
                   try clear q7
                   obtain ⟨kq, x110_38, rfl, HA, HJ38, HO_7, HB⟩ := hcut
                   cases kq with
                   | zero => exact absurd HA.out (by simp [spoolref48_Unquote.j5])
                   | succ kj38 =>
                    have H := HA.out
                    clear HA
                    simp only [spoolref48_Unquote.j5] at H
                    by_cases c57 : x110_38 = true
                    ·subst c57
                     have H1 : (some ((⟨#[]⟩ : ByteArray), 0, x8_2)) = some (r1, r2, r3) := by rw [if_pos rfl] at H; exact H
                     clear H
                     have H := H1
                     clear H1
                     simp only [Option.some.injEq, Prod.mk.injEq] at H
                     obtain ⟨rfl, rfl, rfl⟩ := H
                     go_wp2
                     go_ret3
                     exact ⟨fia_, blw_ HB.out⟩
                    ·replace c57 := Bool.eq_false_iff.mpr c57
                     subst c57
                     have H1 : (if 0 ≤ (wrap64 (x8_2 + 2)) then (if (wrap64 (x8_2 + 2)) < (a0.size : Int) then ((spoolref48_hex.f kj38 (bt a0 (wrap64 (x8_2 + 2)))).bind fun t229 => (if 0 ≤ (wrap64 (x8_2 + 3)) then (if (wrap64 (x8_2 + 3)) < (a0.size : Int) then ((spoolref48_hex.f kj38 (bt a0 (wrap64 (x8_2 + 3)))).bind fun t230 => (if x7_2.length < 140737488355328 then (spoolref48_Unquote.l0 kj38 a0 (x7_2 ++ [(wrap64 ((wrap64 (16 * t229)) + t230)) % 256]) (wrap64 (x8_2 + 4))) else (none))) else (none)) else (none))) else (none)) else (none)) = some (r1, r2, r3) := by rw [if_neg (show ¬ (false = true) by decide)] at H; exact H
                     clear H
                     have H := H1
                     clear H1
                     obtain ⟨ji58, hji58⟩ : ∃ j_ : Int, (wrap64 (x8_2 + 2)) = j_ := ⟨_, rfl⟩
                     replace H : (if 0 ≤ (ji58) then (if (ji58) < (a0.size : Int) then ((spoolref48_hex.f kj38 (bt a0 (ji58))).bind fun t229 => (if 0 ≤ (wrap64 (x8_2 + 3)) then (if (wrap64 (x8_2 + 3)) < (a0.size : Int) then ((spoolref48_hex.f kj38 (bt a0 (wrap64 (x8_2 + 3)))).bind fun t230 => (if x7_2.length < 140737488355328 then (spoolref48_Unquote.l0 kj38 a0 (x7_2 ++ [(wrap64 ((wrap64 (16 * t229)) + t230)) % 256]) (wrap64 (x8_2 + 4))) else (none))) else (none)) else (none))) else (none)) else (none)) = some (r1, r2, r3) := by first | (rw [hji58] at H; exact H) | (simp only [hji58] at H ⊢; exact H)
                     have hji58w : (IntKind.i64.wrap (x8_2 + 2)) = ji58 := (i64_w _).trans hji58
                     by_cases c59 : 0 ≤ (ji58)
                     ·rw [if_pos c59] at H
                      have c59b0 : decide (0 ≤ (ji58)) = true := decide_eq_true c59
                      clear c59
                      by_cases c60 : (ji58) < (a0.size : Int)
                      ·rw [if_pos c60] at H
                       have c60b0 : decide ((ji58) < (a0.size : Int)) = true := decide_eq_true c60
                       clear c60
                       replace H := Option.bind_eq_some_iff.mp H
                       obtain ⟨t229, A620, H⟩ := H
                       replace H : (if 0 ≤ (wrap64 (x8_2 + 3)) then (if (wrap64 (x8_2 + 3)) < (a0.size : Int) then ((spoolref48_hex.f kj38 (bt a0 (wrap64 (x8_2 + 3)))).bind fun t230 => (if x7_2.length < 140737488355328 then (spoolref48_Unquote.l0 kj38 a0 (x7_2 ++ [(wrap64 ((wrap64 (16 * t229)) + t230)) % 256]) (wrap64 (x8_2 + 4))) else (none))) else (none)) else (none)) = some (r1, r2, r3) := H
                       have A62 := Aside0.mk A620
                       clear A620
                       obtain ⟨ji63, hji63⟩ : ∃ j_ : Int, (wrap64 (x8_2 + 3)) = j_ := ⟨_, rfl⟩
                       replace H : (if 0 ≤ (ji63) then (if (ji63) < (a0.size : Int) then ((spoolref48_hex.f kj38 (bt a0 (ji63))).bind fun t230 => (if x7_2.length < 140737488355328 then (spoolref48_Unquote.l0 kj38 a0 (x7_2 ++ [(wrap64 ((wrap64 (16 * t229)) + t230)) % 256]) (wrap64 (x8_2 + 4))) else (none))) else (none)) else (none)) = some (r1, r2, r3) := by first | (rw [hji63] at H; exact H) | (simp only [hji63] at H ⊢; exact H)
                       (try rw [hji63] at A62)
                       have hji63w : (IntKind.i64.wrap (x8_2 + 3)) = ji63 := (i64_w _).trans hji63
                       by_cases c64 : 0 ≤ (ji63)
                       ·rw [if_pos c64] at H
                        have c64b0 : decide (0 ≤ (ji63)) = true := decide_eq_true c64
                        clear c64
                        by_cases c65 : (ji63) < (a0.size : Int)
                        ·rw [if_pos c65] at H
                         have c65b0 : decide ((ji63) < (a0.size : Int)) = true := decide_eq_true c65
                         clear c65
                         replace H := Option.bind_eq_some_iff.mp H
                         obtain ⟨t230, A670, H⟩ := H
                         replace H : (if x7_2.length < 140737488355328 then (spoolref48_Unquote.l0 kj38 a0 (x7_2 ++ [(wrap64 ((wrap64 (16 * t229)) + t230)) % 256]) (wrap64 (x8_2 + 4))) else (none)) = some (r1, r2, r3) := H
                         have A67 := Aside0.mk A670
                         clear A670
                         by_cases c68 : x7_2.length < 140737488355328
                         ·rw [if_pos c68] at H
                          have LMc68 := Aside0.mk c68
                          clear c68
                          obtain ⟨y231, hy231⟩ : ∃ y_ : List Int, y_ = (x7_2 ++ [(wrap64 ((wrap64 (16 * t229)) + t230)) % 256]) := ⟨_, rfl⟩
                          replace H : (spoolref48_Unquote.l0 kj38 a0 y231 (wrap64 (x8_2 + 4))) = some (r1, r2, r3) := by first | (rw [hy231]; with_reducible exact H) | (have H2_ := (Option.bind_some _ _).symm.trans H; rw [hy231]; with_reducible exact H2_) | (have H2_ := (Option.bind_some _ _).symm.trans H; with_reducible exact H2_) | with_reducible exact H | (rw [hy231]; exact H) | exact H
                          have Ny231 := Aside0.mk hy231
                          clear hy231
                          have H' := Aside0.mk H
                          clear H
                          try go_wp2
                          have n0_ := Aside0.mk (Kd.R_drew HO_7.out)
                          have n1_ := Aside0.mk (below_drew1 HB.out)
                          clear HO_7
                          clear HB
                          have HO_7 := n0_
                          have HB := n1_
                          clear n0_ n1_
                          have p61 : 0 ≤ ((ji58) : Int) := of_decide_eq_true asa_
                          have q61 : (ji58) < (a0.size : Int) := of_decide_eq_true asa_
                          have hx61 := bt_at a0 (ji58)
                          replace p61 := eq_true p61
                          replace q61 := eq_true q61
                          have p66 : 0 ≤ ((ji63) : Int) := of_decide_eq_true asa_
                          have q66 : (ji63) < (a0.size : Int) := of_decide_eq_true asa_
                          have hx66 := bt_at a0 (ji63)
                          replace p66 := eq_true p66
                          replace q66 := eq_true q66
                          refine start_ (n := 17) (S := fun w' => True) (ds := []) #[false, false, false, false, false, false, false, false, false, false, false, false, false, false, false, false, false] (by kernel_rfl) rfl rfl trivial (fun hHeld => ?_); refine with_tabW spoolref48_Unquote.tab16 spoolref48_Unquote.bits16 (fun HT_ HW_ => ?_)
                          generalize wc.drew = w69 at HO_7 HB hHeld ⊢
                          refine pure_ (i := 0) (N := some 112) (v := ?_) (a' := ?_) #[true, false, false, false, false, false, false, false, false, false, false, false, false, false, false, false, false] rfl rfl (any_of HT_.out (by kernel_rfl)) (fun _ _ _ h => h) (Or.inl ⟨by rfl, ?_⟩) ?_ ?_
                          rotate_left
                          ·intro w'
                           go_simp
                           with_reducible rfl
                          rotate_left
                          ·simp only [Act.put, List.setIfInBounds_toArray, List.set_cons_zero, List.set_cons_succ, i64_w, i32_w]
                           rfl
                          refine pure_ (i := 1) (N := some 113) (v := ?_) (a' := ?_) #[true, true, false, false, false, false, false, false, false, false, false, false, false, false, false, false, false] rfl rfl (any_of HT_.out (by kernel_rfl)) (fun _ _ _ h => h) (Or.inl ⟨by rfl, ?_⟩) ?_ ?_
                          rotate_left
                          ·intro w'
                           go_simp
                           with_reducible rfl
                          rotate_left
                          ·simp only [Act.put, List.setIfInBounds_toArray, List.set_cons_zero, List.set_cons_succ, i64_w, i32_w]
                           rfl
                          refine pure_ (i := 2) (N := some 114) (v := ?_) (a' := ?_) #[true, true, true, false, false, false, false, false, false, false, false, false, false, false, false, false, false] rfl rfl (any_of HT_.out (by kernel_rfl)) (fun _ _ _ h => h) (Or.inl ⟨by rfl, ?_⟩) ?_ ?_
                          rotate_left
                          ·intro w'
                           go_simp
                           with_reducible rfl
                          rotate_left
                          ·simp only [Act.put, List.setIfInBounds_toArray, List.set_cons_zero, List.set_cons_succ, i64_w, i32_w]
                           rfl
                          refine pure_ (i := 3) (N := some 115) (v := ?_) (a' := ?_) #[true, true, true, true, false, false, false, false, false, false, false, false, false, false, false, false, false] rfl rfl (any_of HT_.out (by kernel_rfl)) (fun _ _ _ h => h) (Or.inl ⟨by rfl, ?_⟩) ?_ ?_
                          rotate_left
                          ·intro w'
                           go_simp
                           with_reducible rfl
                          rotate_left
                          ·simp only [Act.put, List.setIfInBounds_toArray, List.set_cons_zero, List.set_cons_succ, i64_w, i32_w]
                           rfl
                          refine pure_ (i := 7) (N := some 119) (v := ?_) (a' := ?_) #[true, true, true, true, false, false, false, true, false, false, false, false, false, false, false, false, false] rfl rfl (any_of HT_.out (by kernel_rfl)) (fun _ _ _ h => h) (Or.inl ⟨by rfl, ?_⟩) ?_ ?_
                          rotate_left
                          ·intro w'
                           go_simp
                           with_reducible rfl
                          rotate_left
                          ·simp only [Act.put, List.setIfInBounds_toArray, List.set_cons_zero, List.set_cons_succ, i64_w, i32_w]
                           rfl
                          refine pure_ (i := 8) (N := some 120) (v := ?_) (a' := ?_) #[true, true, true, true, false, false, false, true, true, false, false, false, false, false, false, false, false] rfl rfl (any_of HT_.out (by kernel_rfl)) (fun _ _ _ h => h) (Or.inl ⟨by rfl, ?_⟩) ?_ ?_
                          rotate_left
                          ·intro w'
                           go_simp
                           with_reducible rfl
                          rotate_left
                          ·simp only [Act.put, List.setIfInBounds_toArray, List.set_cons_zero, List.set_cons_succ, i64_w, i32_w]
                           rfl
                          refine pure_ (i := 9) (N := some 121) (v := ?_) (a' := ?_) #[true, true, true, true, false, false, false, true, true, true, false, false, false, false, false, false, false] rfl rfl (any_of HT_.out (by kernel_rfl)) (fun _ _ _ h => h) (Or.inl ⟨by rfl, ?_⟩) ?_ ?_
                          rotate_left
                          ·intro w'
                           go_simp
                           with_reducible rfl
                          rotate_left
                          ·simp only [Act.put, List.setIfInBounds_toArray, List.set_cons_zero, List.set_cons_succ, i64_w, i32_w]
                           rfl
                          refine take_ (i := 4) (N := some 116) (v := ?_) (a' := ?_) #[true, true, true, true, true, false, false, true, true, true, false, false, false, false, false, false, false] rfl rfl (take_ofW HT_.out HW_.out (by kernel_rfl)) (fun _ _ _ h => h) (Or.inl ⟨by rfl, ?_⟩) hHeld ?_ ?_
                          rotate_left
                          ·intro w' _
                           go_simp
                           with_reducible rfl
                          rotate_left
                          ·simp only [Act.put, List.setIfInBounds_toArray, List.set_cons_zero, List.set_cons_succ, i64_w, i32_w]
                           rfl
                          refine take_ (i := 10) (N := some 122) (v := ?_) (a' := ?_) #[true, true, true, true, true, false, false, true, true, true, true, false, false, false, false, false, false] rfl rfl (take_ofW HT_.out HW_.out (by kernel_rfl)) (fun _ _ _ h => h) (Or.inl ⟨by rfl, ?_⟩) hHeld ?_ ?_
                          rotate_left
                          ·intro w' _
                           go_simp
                           with_reducible rfl
                          rotate_left
                          ·simp only [Act.put, List.setIfInBounds_toArray, List.set_cons_zero, List.set_cons_succ, i64_w, i32_w]
                           rfl
                          refine one_ (i := 5) (N := some 117) #[true, true, true, true, true, true, false, true, true, true, true, false, false, false, false, false, false] rfl rfl (one_of HT_.out (by kernel_rfl)) (by decide) (fun K hK => ?_)
                          refine goes_ Tryd.func36 (by kernel_rfl) rfl #[.int .u8 (bt a0 (ji58))] (by rfl) rfl rfl (by (try simp only [List.map_toArray, List.map_cons, List.map_nil]); first | done | (simp only [hji58]; rfl) | rfl | (simp only [List.length_drop, List.length_take]; rfl)) ?_
                          with_reducible refine (spoolref48_hex.calls kj38 (bt a0 (ji58)) t229 _ A62.out).mono ?_
                          rintro e w' ⟨rfl, ⟨nd, rfl⟩⟩
                          refine ⟨_, rfl, ?_⟩
                          refine hK.out _ _ trivial (fun hHeld => ?_)
                          clear hK K
                          refine norm_ (a' := ?_) ?_ ?_
                          rotate_left
                          ·show Act.put _ (some 117) _ = _
                           simp only [Act.put, List.setIfInBounds_toArray, List.set_cons_zero, List.set_cons_succ, i64_w, i32_w]
                           rfl
                          refine pure_ (i := 6) (N := some 118) (v := ?_) (a' := ?_) #[true, true, true, true, true, true, true, true, true, true, true, false, false, false, false, false, false] rfl rfl (any_of HT_.out (by kernel_rfl)) (fun _ _ _ h => h) (Or.inl ⟨by rfl, ?_⟩) ?_ ?_
                          rotate_left
                          ·intro w'
                           go_simp
                           with_reducible rfl
                          rotate_left
                          ·simp only [Act.put, List.setIfInBounds_toArray, List.set_cons_zero, List.set_cons_succ, i64_w, i32_w]
                           rfl
                          refine one_ (i := 11) (N := some 123) #[true, true, true, true, true, true, true, true, true, true, true, true, false, false, false, false, false] rfl rfl (one_of HT_.out (by kernel_rfl)) (by decide) (fun K hK => ?_)
                          refine goes_ Tryd.func36 (by kernel_rfl) rfl #[.int .u8 (bt a0 (ji63))] (by rfl) rfl rfl (by (try simp only [List.map_toArray, List.map_cons, List.map_nil]); first | done | (simp only [hji63]; rfl) | rfl | (simp only [List.length_drop, List.length_take]; rfl)) ?_
                          with_reducible refine (spoolref48_hex.calls kj38 (bt a0 (ji63)) t230 _ A67.out).mono ?_
                          rintro e w' ⟨rfl, ⟨nd, rfl⟩⟩
                          refine ⟨_, rfl, ?_⟩
                          refine hK.out _ _ trivial (fun hHeld => ?_)
                          clear hK K
                          refine norm_ (a' := ?_) ?_ ?_
                          rotate_left
                          ·show Act.put _ (some 123) _ = _
                           simp only [Act.put, List.setIfInBounds_toArray, List.set_cons_zero, List.set_cons_succ, i64_w, i32_w]
                           rfl
                          refine pure_ (i := 12) (N := some 124) (v := ?_) (a' := ?_) #[true, true, true, true, true, true, true, true, true, true, true, true, true, false, false, false, false] rfl rfl (any_of HT_.out (by kernel_rfl)) (fun _ _ _ h => h) (Or.inl ⟨by rfl, ?_⟩) ?_ ?_
                          rotate_left
                          ·intro w'
                           go_simp
                           with_reducible rfl
                          rotate_left
                          ·simp only [Act.put, List.setIfInBounds_toArray, List.set_cons_zero, List.set_cons_succ, i64_w, i32_w]
                           rfl
                          refine pure_ (i := 13) (N := some 125) (v := ?_) (a' := ?_) #[true, true, true, true, true, true, true, true, true, true, true, true, true, true, false, false, false] rfl rfl (any_of HT_.out (by kernel_rfl)) (fun _ _ _ h => h) (Or.inl ⟨by rfl, ?_⟩) ?_ ?_
                          rotate_left
                          ·intro w'
                           go_simp
                           with_reducible rfl
                          rotate_left
                          ·simp only [Act.put, List.setIfInBounds_toArray, List.set_cons_zero, List.set_cons_succ, i64_w, i32_w]
                           rfl
                          refine one_ (i := 14) (N := some 126) #[true, true, true, true, true, true, true, true, true, true, true, true, true, true, true, false, false] rfl rfl (one_of HT_.out (by kernel_rfl)) (by decide) (fun K hK => ?_)
                          refine value_ (w1 := ?_) (v := ?_) (by rfl) rfl ?_ ?_
                          rotate_left 2
                          ·go_simp
                           constructor
                           ·rfl
                           ·rfl
                          refine hK.out _ _ trivial (fun hHeld => ?_)
                          clear hK K
                          refine norm_ (a' := ?_) ?_ ?_
                          rotate_left
                          ·show Act.put _ (some 126) _ = _
                           simp only [Act.put, List.setIfInBounds_toArray, List.set_cons_zero, List.set_cons_succ, i64_w, i32_w]
                           rfl
                          refine one_ (i := 15) (N := some 127) #[true, true, true, true, true, true, true, true, true, true, true, true, true, true, true, true, false] rfl rfl (one_of HT_.out (by kernel_rfl)) (by decide) (fun K hK => ?_)
                          refine Kd.R_append_step (Kd.int .u8) (w0 := w) w.heap.size (by rfl) (.tmp 112) (.tmp 126) 67 5 (.int .u8 0) 1 rfl Tryd.underlying67 info5 rfl (by decide) (by omega) u7 x7_2 ((wrap64 ((wrap64 (16 * t229)) + t230)) % 256) [.int .u8 ((wrap64 ((wrap64 (16 * t229)) + t230)) % 256)] (fun _ => True) (fun _ => False) rfl rfl ?aP (fun _ hk => hk.elim) ?aF ?aO ?aB ?aS ?aL ?_
                          (case aP => exact rfl)
                          (case aB => exact (blw_ HB.out))
                          (case aF => exact (fun _ _ => trivial))
                          (case aO => exact (by (with_reducible repeat (first | apply Kd.R_alloc | apply Kd.R_drewN | apply Kd.R_drew)); exact HO_7.out))
                          (case aS => exact (below_size (blw_ HB.out)))
                          (case aL => have := LMc68.out; omega)
                          intro v232 w70 ho hb hg hat
                          rw [← Ny231.out] at ho
                          have n0_ := Aside0.mk (hb)
                          have n1_ := Aside0.mk (ho)
                          clear HB
                          clear HO_7
                          have HB := n0_
                          have HO233 := n1_
                          clear n0_ n1_
                          clear ho hb hg hat
                          refine hK.out _ _ trivial (fun hHeld => ?_)
                          clear hK K
                          refine norm_ (a' := ?_) ?_ ?_
                          rotate_left
                          ·show Act.put _ (some 127) _ = _
                           simp only [Act.put, List.setIfInBounds_toArray, List.set_cons_zero, List.set_cons_succ, i64_w, i32_w]
                           rfl
                          refine pure_ (i := 16) (N := some 7) (v := ?_) (a' := ?_) #[true, true, true, true, true, true, true, true, true, true, true, true, true, true, true, true, true] rfl rfl (any_of HT_.out (by kernel_rfl)) (fun _ _ _ h => h) (Or.inl ⟨by rfl, ?_⟩) ?_ ?_
                          rotate_left
                          ·intro w'
                           go_simp
                           with_reducible rfl
                          rotate_left
                          ·simp only [Act.put, List.setIfInBounds_toArray, List.set_cons_zero, List.set_cons_succ, i64_w, i32_w]
                           rfl
                          refine done_ (done_of HT_.out (by kernel_rfl)) ?_
                          try go_wp2
                          go_roundg kj38
                          case measure => have := HJ2.out; have := HK2.out; have := HJ8.out; have := HJ13.out; have := HJ24.out; have := HJ38.out; omega
                          case rel => exact ⟨(y231), (wrap64 (x8_2 + 4)), fib_, H', ⟨by have := HJ2.out; have := HK2.out; have := HJ8.out; have := HJ13.out; have := HJ24.out; have := HJ38.out; omega⟩, ⟨by (with_reducible repeat (first | apply Kd.R_alloc | apply Kd.R_drewN | apply Kd.R_drew)); exact HO233.out⟩, ⟨blw_ HB.out⟩⟩
                         ·rw [if_neg c68] at H
                          exact absurd H (by simp)
                        ·rw [if_neg c65] at H
                         exact absurd H (by simp)
                       ·rw [if_neg c64] at H
                        exact absurd H (by simp)
                      ·rw [if_neg c60] at H
                       exact absurd H (by simp)
                     ·rw [if_neg c59] at H
                      exact absurd H (by simp)
              ·rw [if_neg c24] at H
               have c24b0 : ((bt a0 x8_2) == 92) = false := beq_eq_false_iff_ne.mpr c24
               have c24b1 : ((bt a0 x8_2) != 92) = true := bne_iff_ne.mpr c24
               by_cases c72 : x7_2.length < 140737488355328
               ·rw [if_pos c72] at H
                have LMc72 := Aside0.mk c72
                clear c72
                obtain ⟨y221, hy221⟩ : ∃ y_ : List Int, y_ = (x7_2 ++ [bt a0 x8_2]) := ⟨_, rfl⟩
                replace H : (spoolref48_Unquote.l0 kj13 a0 y221 (wrap64 (x8_2 + 1))) = some (r1, r2, r3) := by first | (rw [hy221]; with_reducible exact H) | (have H2_ := (Option.bind_some _ _).symm.trans H; rw [hy221]; with_reducible exact H2_) | (have H2_ := (Option.bind_some _ _).symm.trans H; with_reducible exact H2_) | with_reducible exact H | (rw [hy221]; exact H) | exact H
                have Ny221 := Aside0.mk hy221
                clear hy221
                have H' := Aside0.mk H
                clear H
                have p23 : 0 ≤ (x8_2 : Int) := of_decide_eq_true asa_
                have q23 : x8_2 < (a0.size : Int) := of_decide_eq_true asa_
                have hx23 := bt_at a0 x8_2
                replace p23 := eq_true p23
                replace q23 := eq_true q23
                have p71 : 0 ≤ (x8_2 : Int) := of_decide_eq_true asa_
                have q71 : x8_2 < (a0.size : Int) := of_decide_eq_true asa_
                have hx71 := bt_at a0 x8_2
                replace p71 := eq_true p71
                replace q71 := eq_true q71
                go_wp2_with (first | ((with_reducible refine gate_builtin (b := .append) (xs := #[.tmp 47, .tmp 51]) rfl ?_); at_builtin; refine Kd.R_append (Kd.int .u8) (w0 := w) w.heap.size rfl (.tmp 47) (.tmp 51) 67 5 (.int .u8 0) 1 rfl Tryd.underlying67 info5 rfl (by decide) (by omega) u7 x7_2 (bt a0 x8_2) [.int .u8 (bt a0 x8_2)] (fun _ => True) (fun _ => False) rfl rfl ?aP (fun _ hk => hk.elim) ?aF ?aO ?aB ?aS ?aL ?_; (case aP => exact rfl); (case aB => exact (blw_ HB.out)); (case aF => exact (fun _ _ => trivial)); (case aO => exact (by (with_reducible repeat (first | apply Kd.R_alloc | apply Kd.R_drewN | apply Kd.R_drew)); exact HO_7.out)); (case aS => exact (below_size (blw_ HB.out))); (case aL => have := LMc72.out; omega); intro v222 w73 ho hb hg hat; rw [← Ny221.out] at ho; have n0_ := Aside0.mk (hb); have n1_ := Aside0.mk (ho); clear HB; clear HO_7; have HB := n0_; have HO223 := n1_; clear n0_ n1_; clear ho hb hg hat))
                go_roundg kj13
                case measure => have := HJ2.out; have := HK2.out; have := HJ8.out; have := HJ13.out; omega
                case rel => exact ⟨(y221), (wrap64 (x8_2 + 1)), fib_, H', ⟨by have := HJ2.out; have := HK2.out; have := HJ8.out; have := HJ13.out; omega⟩, ⟨by (with_reducible repeat (first | apply Kd.R_alloc | apply Kd.R_drewN | apply Kd.R_drew)); exact HO223.out⟩, ⟨blw_ HB.out⟩⟩
               ·rw [if_neg c72] at H
                exact absurd H (by simp)
             ·rw [if_neg c22] at H
              exact absurd H (by simp)
            ·rw [if_neg c21] at H
             exact absurd H (by simp)
        ·replace c13 := Bool.eq_false_iff.mpr c13
         subst c13
         have H1 : (if x8_2 ≥ (a0.size : Int) then (some ((⟨#[]⟩ : ByteArray), 0, (a0.size : Int))) else (some (strOfNums x7_2, wrap64 (x8_2 + 1), (-1)))) = some (r1, r2, r3) := by rw [if_neg (show ¬ (false = true) by decide)] at H; exact H
         clear H
         have H := H1
         clear H1
         by_cases c74 : x8_2 ≥ (a0.size : Int)
         ·rw [if_pos c74] at H
          have c74b0 : decide ((a0.size : Int) ≤ x8_2) = true := decide_eq_true c74
          clear c74
          simp only [Option.some.injEq, Prod.mk.injEq] at H
          obtain ⟨rfl, rfl, rfl⟩ := H
          go_wp2
          go_ret3
          exact ⟨fia_, blw_ HB.out⟩
         ·rw [if_neg c74] at H
          have c74b0 : decide ((a0.size : Int) ≤ x8_2) = false := decide_eq_false c74
          clear c74
          simp only [Option.some.injEq, Prod.mk.injEq] at H
          obtain ⟨rfl, rfl, rfl⟩ := H
          have hcv75 := own_string (P := Tryd.prog) Tryd.underlying67 Tryd.underlying5 Tryd.underlying9 (Kd.own_of_R HO_7.out)
          go_wp2
          go_ret3
          exact ⟨fia_, blw_ HB.out⟩

end Go.Proofs.YtifcpamliidabaaDoor.PS

-- slim

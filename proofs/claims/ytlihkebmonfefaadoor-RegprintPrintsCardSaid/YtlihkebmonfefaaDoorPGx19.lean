-- WRITTEN BY A PROGRAM OF THIS SESSION (patchprint.py over the kit's print)
import Derived.Test.YtlihkebmonfefaaDoorPGx0
import Derived.Test.YtlihkebmonfefaaDoorPGx9
import Derived.Test.YtlihkebmonfefaaDoorPGx18
namespace Go.Proofs.YtlihkebmonfefaaDoor.PG
open Go.RowKit Go.Proofs.YtlihkebmonfefaaDoorW.PrintWords Go.Proofs.YtlihkebmonfefaaDoorW.PrintLast Go.Proofs.YtlihkebmonfefaaDoorW.PrintMore
attribute [local go_sem] max2_int min2_int max_two min_two max_three min_three max_four min_four   -- for this text's walks alone
set_option linter.unusedVariables false
set_option linter.unusedSimpArgs false
def spoolref14_set.j0 : Nat → List (S60) → Bool → Option (ByteArray)
 | 0, _, _ => none
 | k + 1, x0, x31 => if x31 = true then (if 0 < (x0.length : Int) then (some (strOfNums (([((rd_T60 x0 0).f0) % 256] : List Int)))) else (none)) else ((spoolref05_Set.f k 0 x0 ([] : List (S60))).bind fun t347 => ((spoolref12_Text.f k t347).bind fun t350 => (some t350)))
def spoolref14_set.f (k : Nat) (l0 : List (S60)) : Option (ByteArray) := if (l0.length : Int) = 1 then (if 0 < (l0.length : Int) then (if ((rd_T60 l0 0).f0) = ((rd_T60 l0 0).f1) then (if ((rd_T60 l0 0).f0) < 128 then ((spoolref11_Plain.f (((rd_T60 l0 0).f0) % 256)).bind fun t342 => (spoolref14_set.j0 k l0 t342)) else (spoolref14_set.j0 k l0 false)) else (spoolref14_set.j0 k l0 false)) else (none)) else (spoolref14_set.j0 k l0 false)
theorem spoolref14_set.mono_l : ∀ k, (∀ y0 y1, LeO (spoolref14_set.j0 k y0 y1) (spoolref14_set.j0 (k + 1) y0 y1))
 | 0 => fun _ _ r h => by simp [spoolref14_set.j0] at h
 | k + 1 => by
  have ih0 := spoolref14_set.mono_l k
  ·intro y0 y1
   unfold spoolref14_set.j0
   repeat' first
   | (with_reducible exact ih0 _ _)
   | (with_reducible exact spoolref05_Set.mono _ _ _ _)
   | (with_reducible exact spoolref12_Text.mono _ _)
   | (with_reducible exact LeO.refl _)
   | (with_reducible exact LeO.none _)
   | (with_reducible refine LeO.ite ?_ ?_)
   | (with_reducible refine LeO.bind ?_ (fun _ => ?_))
   | exact ih0 _ _
   | exact spoolref05_Set.mono _ _ _ _
   | exact spoolref12_Text.mono _ _
   | exact LeO.none _
   | refine LeO.ite ?_ ?_
   | refine LeO.bind ?_ (fun _ => ?_)
theorem spoolref14_set.mono : ∀ a0 k, LeO (spoolref14_set.f k a0) (spoolref14_set.f (k + 1) a0) := by
 intro a0 k
 have ih0 := spoolref14_set.mono_l k
 unfold spoolref14_set.f
 repeat' first
   | (with_reducible exact ih0 _ _)
   | (with_reducible exact spoolref05_Set.mono _ _ _ _)
   | (with_reducible exact spoolref12_Text.mono _ _)
   | (with_reducible exact LeO.refl _)
   | (with_reducible exact LeO.none _)
   | (with_reducible refine LeO.ite ?_ ?_)
   | (with_reducible refine LeO.bind ?_ (fun _ => ?_))
   | exact ih0 _ _
   | exact spoolref05_Set.mono _ _ _ _
   | exact spoolref12_Text.mono _ _
   | exact LeO.none _
   | refine LeO.ite ?_ ?_
   | refine LeO.bind ?_ (fun _ => ?_)
set_option maxHeartbeats 8000000 in
set_option maxRecDepth 100000 in
theorem spoolref14_set.calls (k : Nat) (A0 : Option Addr) (c0 : Nat) (l0 : List (S60)) (r : ByteArray) (w : World) (hr0 : Kd.C k60 w A0 l0.length l0) (hc0 : l0.length ≤ c0) (h : spoolref14_set.f k l0 = some r) :
  Calls Tryd.prog 20 #[.slice A0 l0.length c0] w fun e w' => e = .returned (.string r) ∧ Below w.heap.size w w' := by
 have HR0 := Aside0.mk hr0
 have HC0 := Aside0.mk hc0
 clear hr0 hc0
 have HB := Aside0.mk (Below.refl w.heap.size w)
 have H : (if (l0.length : Int) = 1 then (if 0 < (l0.length : Int) then (if ((rd_T60 l0 0).f0) = ((rd_T60 l0 0).f1) then (if ((rd_T60 l0 0).f0) < 128 then ((spoolref11_Plain.f (((rd_T60 l0 0).f0) % 256)).bind fun t342 => (spoolref14_set.j0 k l0 t342)) else (spoolref14_set.j0 k l0 false)) else (spoolref14_set.j0 k l0 false)) else (none)) else (spoolref14_set.j0 k l0 false)) = some r := h
 clear h
 have HC2 := Aside0.mk H
 clear H
 go_enter Tryd.func20, Tryd.ntmps20
 go_upto_region 1 with (fail)
 repeat (go_quiet (fail); go_upto_region 1 with (fail))
 go_cut [31] (fun v31 wc => ∃ (kq : Nat) (x31_1 : Bool), v31 = .bool x31_1 ∧ Aside0 (spoolref14_set.j0 kq l0 x31_1 = some r) ∧ Aside0 (kq ≤ k) ∧ Aside0 (Below w.heap.size w wc))
 case first =>
  have H := HC2.out
  clear HC2
  by_cases c3 : (l0.length : Int) = 1
  ·rw [if_pos c3] at H
   have c3b0 : ((l0.length : Int) == 1) = true := beq_iff_eq.mpr c3
   have c3b1 : ((l0.length : Int) != 1) = false := bne_eq_false_iff_eq.mpr c3
   clear c3
   (first | rw [c3b0] | (simp only [i64_w, i32_w]; rw [c3b0]) | skip)
   by_cases c4 : 0 < (l0.length : Int)
   ·rw [if_pos c4] at H
    have c4b0 : decide (0 < (l0.length : Int)) = true := decide_eq_true c4
    have c4b1 : decide (0 < l0.length) = true := decide_eq_true (by omega)
    clear c4
    by_cases c5 : ((rd_T60 l0 0).f0) = ((rd_T60 l0 0).f1)
    ·rw [if_pos c5] at H
     have c5b0 : (((rd_T60 l0 0).f0) == ((rd_T60 l0 0).f1)) = true := beq_iff_eq.mpr c5
     have c5b1 : (((rd_T60 l0 0).f0) != ((rd_T60 l0 0).f1)) = false := bne_eq_false_iff_eq.mpr c5
     clear c5
     by_cases c6 : ((rd_T60 l0 0).f0) < 128
     ·rw [if_pos c6] at H
      have c6b0 : decide (((rd_T60 l0 0).f0) < 128) = true := decide_eq_true c6
      clear c6
      replace H := Option.bind_eq_some_iff.mp H
      obtain ⟨t342, A70, H⟩ := H
      replace H : (spoolref14_set.j0 k l0 t342) = some r := H
      have A7 := Aside0.mk A70
      clear A70
      have H' := Aside0.mk H
      clear H
      have p338 : 0 ≤ (0 : Int) := (by omega)
      have q338 : 0 < (l0.length : Int) := of_decide_eq_true asa_
      obtain ⟨ad338, e338, hx338_0, hx338_1⟩ := at_T60 HR0.out 0 p338 q338
      cases e338
      have qi338 : (0 < l0.length) = True := eq_true (by omega)
      (try rw [show ((0 : Int)).toNat = 0 from rfl] at hx338_0)
      (try rw [show 0 * 2 = 0 from rfl] at hx338_0)
      (try rw [Addr.add_zero'] at hx338_0)
      (try rw [show ((0 : Int)).toNat = 0 from rfl] at hx338_1)
      (try rw [show 0 * 2 = 0 from rfl] at hx338_1)
      (try rw [Addr.add_zero'] at hx338_1)
      replace hx338_0 := (HB.out.cell (World.block_lt_of_cell? w _ hx338_0)).trans hx338_0
      replace hx338_1 := (HB.out.cell (World.block_lt_of_cell? w _ hx338_1)).trans hx338_1
      replace p338 := eq_true p338
      replace q338 := eq_true q338
      have p339 : 0 ≤ (0 : Int) := (by omega)
      have q339 : 0 < (l0.length : Int) := of_decide_eq_true asa_
      obtain ⟨ad339, e339, hx339_0, hx339_1⟩ := at_T60 HR0.out 0 p339 q339
      obtain rfl : ad338 = ad339 := (by injection e339)
      have qi339 : (0 < l0.length) = True := eq_true (by omega)
      (try rw [show ((0 : Int)).toNat = 0 from rfl] at hx339_0)
      (try rw [show 0 * 2 = 0 from rfl] at hx339_0)
      (try rw [Addr.add_zero'] at hx339_0)
      (try rw [show ((0 : Int)).toNat = 0 from rfl] at hx339_1)
      (try rw [show 0 * 2 = 0 from rfl] at hx339_1)
      (try rw [Addr.add_zero'] at hx339_1)
      replace hx339_0 := (HB.out.cell (World.block_lt_of_cell? w _ hx339_0)).trans hx339_0
      replace hx339_1 := (HB.out.cell (World.block_lt_of_cell? w _ hx339_1)).trans hx339_1
      replace p339 := eq_true p339
      replace q339 := eq_true q339
      have p340 : 0 ≤ (0 : Int) := (by omega)
      have q340 : 0 < (l0.length : Int) := of_decide_eq_true asa_
      obtain ⟨ad340, e340, hx340_0, hx340_1⟩ := at_T60 HR0.out 0 p340 q340
      obtain rfl : ad338 = ad340 := (by injection e340)
      have qi340 : (0 < l0.length) = True := eq_true (by omega)
      (try rw [show ((0 : Int)).toNat = 0 from rfl] at hx340_0)
      (try rw [show 0 * 2 = 0 from rfl] at hx340_0)
      (try rw [Addr.add_zero'] at hx340_0)
      (try rw [show ((0 : Int)).toNat = 0 from rfl] at hx340_1)
      (try rw [show 0 * 2 = 0 from rfl] at hx340_1)
      (try rw [Addr.add_zero'] at hx340_1)
      replace hx340_0 := (HB.out.cell (World.block_lt_of_cell? w _ hx340_0)).trans hx340_0
      replace hx340_1 := (HB.out.cell (World.block_lt_of_cell? w _ hx340_1)).trans hx340_1
      replace p340 := eq_true p340
      replace q340 := eq_true q340
      have p341 : 0 ≤ (0 : Int) := (by omega)
      have q341 : 0 < (l0.length : Int) := of_decide_eq_true asa_
      obtain ⟨ad341, e341, hx341_0, hx341_1⟩ := at_T60 HR0.out 0 p341 q341
      obtain rfl : ad338 = ad341 := (by injection e341)
      have qi341 : (0 < l0.length) = True := eq_true (by omega)
      (try rw [show ((0 : Int)).toNat = 0 from rfl] at hx341_0)
      (try rw [show 0 * 2 = 0 from rfl] at hx341_0)
      (try rw [Addr.add_zero'] at hx341_0)
      (try rw [show ((0 : Int)).toNat = 0 from rfl] at hx341_1)
      (try rw [show 0 * 2 = 0 from rfl] at hx341_1)
      (try rw [Addr.add_zero'] at hx341_1)
      replace hx341_0 := (HB.out.cell (World.block_lt_of_cell? w _ hx341_0)).trans hx341_0
      replace hx341_1 := (HB.out.cell (World.block_lt_of_cell? w _ hx341_1)).trans hx341_1
      replace p341 := eq_true p341
      replace q341 := eq_true q341
      go_wp2_with (first | (go_at_call 32; (with_reducible refine (spoolref11_Plain.calls (((rd_T60 l0 0).f0) % 256) t342 _ A7.out).mono ?_); rintro e w' ⟨rfl, ⟨nd, rfl⟩⟩; (try first | exact ⟨rfl, _, World.drewN_drewN _ _ _⟩ | exact ⟨rfl, _, Eq.trans (World.drewN_drewN _ _ _) (congrArg (World.drewN _) (Nat.add_assoc _ _ _))⟩)))
      repeat (go_quiet (first | (go_at_call 32; (with_reducible refine (spoolref11_Plain.calls (((rd_T60 l0 0).f0) % 256) t342 _ A7.out).mono ?_); rintro e w' ⟨rfl, ⟨nd, rfl⟩⟩; (try first | exact ⟨rfl, _, World.drewN_drewN _ _ _⟩ | exact ⟨rfl, _, Eq.trans (World.drewN_drewN _ _ _) (congrArg (World.drewN _) (Nat.add_assoc _ _ _))⟩))); try go_wp2_with (first | (go_at_call 32; (with_reducible refine (spoolref11_Plain.calls (((rd_T60 l0 0).f0) % 256) t342 _ A7.out).mono ?_); rintro e w' ⟨rfl, ⟨nd, rfl⟩⟩; (try first | exact ⟨rfl, _, World.drewN_drewN _ _ _⟩ | exact ⟨rfl, _, Eq.trans (World.drewN_drewN _ _ _) (congrArg (World.drewN _) (Nat.add_assoc _ _ _))⟩))))
      go_meet
      case rel => exact ⟨_, (t342), fib_, H', ⟨by first | omega | exact Nat.le_refl _⟩, ⟨blw_ HB.out⟩⟩
     ·rw [if_neg c6] at H
      have c6b0 : decide (((rd_T60 l0 0).f0) < 128) = false := decide_eq_false c6
      clear c6
      have H' := Aside0.mk H
      clear H
      have p338 : 0 ≤ (0 : Int) := (by omega)
      have q338 : 0 < (l0.length : Int) := of_decide_eq_true asa_
      obtain ⟨ad338, e338, hx338_0, hx338_1⟩ := at_T60 HR0.out 0 p338 q338
      cases e338
      have qi338 : (0 < l0.length) = True := eq_true (by omega)
      (try rw [show ((0 : Int)).toNat = 0 from rfl] at hx338_0)
      (try rw [show 0 * 2 = 0 from rfl] at hx338_0)
      (try rw [Addr.add_zero'] at hx338_0)
      (try rw [show ((0 : Int)).toNat = 0 from rfl] at hx338_1)
      (try rw [show 0 * 2 = 0 from rfl] at hx338_1)
      (try rw [Addr.add_zero'] at hx338_1)
      replace hx338_0 := (HB.out.cell (World.block_lt_of_cell? w _ hx338_0)).trans hx338_0
      replace hx338_1 := (HB.out.cell (World.block_lt_of_cell? w _ hx338_1)).trans hx338_1
      replace p338 := eq_true p338
      replace q338 := eq_true q338
      have p339 : 0 ≤ (0 : Int) := (by omega)
      have q339 : 0 < (l0.length : Int) := of_decide_eq_true asa_
      obtain ⟨ad339, e339, hx339_0, hx339_1⟩ := at_T60 HR0.out 0 p339 q339
      obtain rfl : ad338 = ad339 := (by injection e339)
      have qi339 : (0 < l0.length) = True := eq_true (by omega)
      (try rw [show ((0 : Int)).toNat = 0 from rfl] at hx339_0)
      (try rw [show 0 * 2 = 0 from rfl] at hx339_0)
      (try rw [Addr.add_zero'] at hx339_0)
      (try rw [show ((0 : Int)).toNat = 0 from rfl] at hx339_1)
      (try rw [show 0 * 2 = 0 from rfl] at hx339_1)
      (try rw [Addr.add_zero'] at hx339_1)
      replace hx339_0 := (HB.out.cell (World.block_lt_of_cell? w _ hx339_0)).trans hx339_0
      replace hx339_1 := (HB.out.cell (World.block_lt_of_cell? w _ hx339_1)).trans hx339_1
      replace p339 := eq_true p339
      replace q339 := eq_true q339
      have p340 : 0 ≤ (0 : Int) := (by omega)
      have q340 : 0 < (l0.length : Int) := of_decide_eq_true asa_
      obtain ⟨ad340, e340, hx340_0, hx340_1⟩ := at_T60 HR0.out 0 p340 q340
      obtain rfl : ad338 = ad340 := (by injection e340)
      have qi340 : (0 < l0.length) = True := eq_true (by omega)
      (try rw [show ((0 : Int)).toNat = 0 from rfl] at hx340_0)
      (try rw [show 0 * 2 = 0 from rfl] at hx340_0)
      (try rw [Addr.add_zero'] at hx340_0)
      (try rw [show ((0 : Int)).toNat = 0 from rfl] at hx340_1)
      (try rw [show 0 * 2 = 0 from rfl] at hx340_1)
      (try rw [Addr.add_zero'] at hx340_1)
      replace hx340_0 := (HB.out.cell (World.block_lt_of_cell? w _ hx340_0)).trans hx340_0
      replace hx340_1 := (HB.out.cell (World.block_lt_of_cell? w _ hx340_1)).trans hx340_1
      replace p340 := eq_true p340
      replace q340 := eq_true q340
      go_wp2
      repeat (go_quiet (fail); try go_wp2)
      go_meet
      case rel => exact ⟨_, (false), fib_, H', ⟨by first | omega | exact Nat.le_refl _⟩, ⟨blw_ HB.out⟩⟩
    ·rw [if_neg c5] at H
     have c5b0 : (((rd_T60 l0 0).f0) == ((rd_T60 l0 0).f1)) = false := beq_eq_false_iff_ne.mpr c5
     have c5b1 : (((rd_T60 l0 0).f0) != ((rd_T60 l0 0).f1)) = true := bne_iff_ne.mpr c5
     have H' := Aside0.mk H
     clear H
     have p338 : 0 ≤ (0 : Int) := (by omega)
     have q338 : 0 < (l0.length : Int) := of_decide_eq_true asa_
     obtain ⟨ad338, e338, hx338_0, hx338_1⟩ := at_T60 HR0.out 0 p338 q338
     cases e338
     have qi338 : (0 < l0.length) = True := eq_true (by omega)
     (try rw [show ((0 : Int)).toNat = 0 from rfl] at hx338_0)
     (try rw [show 0 * 2 = 0 from rfl] at hx338_0)
     (try rw [Addr.add_zero'] at hx338_0)
     (try rw [show ((0 : Int)).toNat = 0 from rfl] at hx338_1)
     (try rw [show 0 * 2 = 0 from rfl] at hx338_1)
     (try rw [Addr.add_zero'] at hx338_1)
     replace hx338_0 := (HB.out.cell (World.block_lt_of_cell? w _ hx338_0)).trans hx338_0
     replace hx338_1 := (HB.out.cell (World.block_lt_of_cell? w _ hx338_1)).trans hx338_1
     replace p338 := eq_true p338
     replace q338 := eq_true q338
     have p339 : 0 ≤ (0 : Int) := (by omega)
     have q339 : 0 < (l0.length : Int) := of_decide_eq_true asa_
     obtain ⟨ad339, e339, hx339_0, hx339_1⟩ := at_T60 HR0.out 0 p339 q339
     obtain rfl : ad338 = ad339 := (by injection e339)
     have qi339 : (0 < l0.length) = True := eq_true (by omega)
     (try rw [show ((0 : Int)).toNat = 0 from rfl] at hx339_0)
     (try rw [show 0 * 2 = 0 from rfl] at hx339_0)
     (try rw [Addr.add_zero'] at hx339_0)
     (try rw [show ((0 : Int)).toNat = 0 from rfl] at hx339_1)
     (try rw [show 0 * 2 = 0 from rfl] at hx339_1)
     (try rw [Addr.add_zero'] at hx339_1)
     replace hx339_0 := (HB.out.cell (World.block_lt_of_cell? w _ hx339_0)).trans hx339_0
     replace hx339_1 := (HB.out.cell (World.block_lt_of_cell? w _ hx339_1)).trans hx339_1
     replace p339 := eq_true p339
     replace q339 := eq_true q339
     go_wp2
     repeat (go_quiet (fail); try go_wp2)
     go_meet
     case rel => exact ⟨_, (false), fib_, H', ⟨by first | omega | exact Nat.le_refl _⟩, ⟨blw_ HB.out⟩⟩
   ·rw [if_neg c4] at H
    exact absurd H (by simp)
  ·rw [if_neg c3] at H
   have c3b0 : ((l0.length : Int) == 1) = false := beq_eq_false_iff_ne.mpr c3
   have c3b1 : ((l0.length : Int) != 1) = true := bne_iff_ne.mpr c3
   (first | rw [c3b0] | (simp only [i64_w, i32_w]; rw [c3b0]) | skip)
   have H' := Aside0.mk H
   clear H
   go_wp2
   repeat (go_quiet (fail); try go_wp2)
   go_meet
   case rel => exact ⟨_, (false), fib_, H', ⟨by first | omega | exact Nat.le_refl _⟩, ⟨blw_ HB.out⟩⟩
 case rest =>
  clear HC2
  try clear c2
  try clear p2
  try clear c3
  try clear c3b0
  try clear c3b1
  try clear p3
  try clear q3
  try clear hx3
  try clear qi3
  try clear c4
  try clear c4b0
  try clear c4b1
  try clear c5
  try clear c5b0
  try clear c5b1
  try clear c6
  try clear c6b0
  try clear hx338_0
  try clear hx338_1
  try clear hx339_0
  try clear hx339_1
  try clear hx340_0
  try clear hx340_1
  try clear hx341_0
  try clear hx341_1
  try clear p338
  try clear p339
  try clear p340
  try clear p341
  try clear q338
  try clear q339
  try clear q340
  try clear q341
  obtain ⟨kq, x31_1, rfl, HA, HJ1, HB⟩ := hcut
  cases kq with
  | zero => exact absurd HA.out (by simp [spoolref14_set.j0])
  | succ kj1 =>
   have H := HA.out
   clear HA
   simp only [spoolref14_set.j0] at H
   by_cases c8 : x31_1 = true
   ·subst c8
    have H1 : (if 0 < (l0.length : Int) then (some (strOfNums (([((rd_T60 l0 0).f0) % 256] : List Int)))) else (none)) = some r := by rw [if_pos rfl] at H; exact H
    clear H
    have H := H1
    clear H1
    by_cases c9 : 0 < (l0.length : Int)
    ·rw [if_pos c9] at H
     have c9b0 : decide (0 < (l0.length : Int)) = true := decide_eq_true c9
     have c9b1 : decide (0 < l0.length) = true := decide_eq_true (by omega)
     clear c9
     obtain ⟨y344, hy344⟩ : ∃ y_ : List Int, y_ = (([((rd_T60 l0 0).f0) % 256] : List Int)) := ⟨_, rfl⟩
     replace H : (some (strOfNums y344)) = some r := by first | (rw [hy344]; with_reducible exact H) | (have H2_ := (Option.bind_some _ _).symm.trans H; rw [hy344]; with_reducible exact H2_) | (have H2_ := (Option.bind_some _ _).symm.trans H; with_reducible exact H2_) | with_reducible exact H | (rw [hy344]; exact H) | exact H
     have Ny344 := Aside0.mk hy344
     clear hy344
     obtain rfl := Option.some.inj H
     have p343 : 0 ≤ (0 : Int) := (by omega)
     have q343 : 0 < (l0.length : Int) := of_decide_eq_true asa_
     obtain ⟨ad343, e343, hx343_0, hx343_1⟩ := at_T60 HR0.out 0 p343 q343
     cases e343
     have qi343 : (0 < l0.length) = True := eq_true (by omega)
     (try rw [show ((0 : Int)).toNat = 0 from rfl] at hx343_0)
     (try rw [show 0 * 2 = 0 from rfl] at hx343_0)
     (try rw [Addr.add_zero'] at hx343_0)
     (try rw [show ((0 : Int)).toNat = 0 from rfl] at hx343_1)
     (try rw [show 0 * 2 = 0 from rfl] at hx343_1)
     (try rw [Addr.add_zero'] at hx343_1)
     replace hx343_0 := (HB.out.cell (World.block_lt_of_cell? w _ hx343_0)).trans hx343_0
     replace hx343_1 := (HB.out.cell (World.block_lt_of_cell? w _ hx343_1)).trans hx343_1
     replace p343 := eq_true p343
     replace q343 := eq_true q343
     go_wp2_with (first | ((with_reducible refine gate_dst (N := 37) rfl ?_); refine Kd.R_lit (Kd.int .u8) _ 5 ?hg (N := 37) ?hd (xs := ([((rd_T60 l0 0).f0) % 256] : List Int)) (inner := [.int .u8 (((rd_T60 l0 0).f0) % 256)]) (ok := fun _ => True) (okp := fun _ => True) ?hr ?hp (fun _ hk => hk) trivial (Below.refl _ _) (Nat.le_refl _) (by simp) ?_; (case hd => rfl); (case hg => rfl); (case hr => first | (go_simp; done) | (go_simp; rfl)); (case hp => exact (Reps.one (show Kd.M (Kd.int .u8) _ _ _ (((rd_T60 l0 0).f0) % 256) [.int .u8 (((rd_T60 l0 0).f0) % 256)] from rfl) (Reps.none _ _))); intro v345 w10 ho11 hb hg_ hnew_; clear hg_ hnew_; (first | rw [← Ny344.out] at ho11 | (simp only [Int.reduceToNat] at ho11; rw [← Ny344.out] at ho11)); have n0_ := Aside0.mk (Kd.R_lower ho11 (below_size (blw_ HB.out))); have n1_ := Aside0.mk (below_step (blw_ HB.out) hb); clear HB; have HO346 := n0_; have HB := n1_; clear n0_ n1_; clear hb ho11; have hcv12 := own_string (P := Tryd.prog) Tryd.underlying38 Tryd.underlying5 Tryd.underlying9 (Kd.own_of_R HO346.out)))
     repeat (go_quiet (first | ((with_reducible refine gate_dst (N := 37) rfl ?_); refine Kd.R_lit (Kd.int .u8) _ 5 ?hg (N := 37) ?hd (xs := ([((rd_T60 l0 0).f0) % 256] : List Int)) (inner := [.int .u8 (((rd_T60 l0 0).f0) % 256)]) (ok := fun _ => True) (okp := fun _ => True) ?hr ?hp (fun _ hk => hk) trivial (Below.refl _ _) (Nat.le_refl _) (by simp) ?_; (case hd => rfl); (case hg => rfl); (case hr => first | (go_simp; done) | (go_simp; rfl)); (case hp => exact (Reps.one (show Kd.M (Kd.int .u8) _ _ _ (((rd_T60 l0 0).f0) % 256) [.int .u8 (((rd_T60 l0 0).f0) % 256)] from rfl) (Reps.none _ _))); intro v345 w10 ho11 hb hg_ hnew_; clear hg_ hnew_; (first | rw [← Ny344.out] at ho11 | (simp only [Int.reduceToNat] at ho11; rw [← Ny344.out] at ho11)); have n0_ := Aside0.mk (Kd.R_lower ho11 (below_size (blw_ HB.out))); have n1_ := Aside0.mk (below_step (blw_ HB.out) hb); clear HB; have HO346 := n0_; have HB := n1_; clear n0_ n1_; clear hb ho11; have hcv12 := own_string (P := Tryd.prog) Tryd.underlying38 Tryd.underlying5 Tryd.underlying9 (Kd.own_of_R HO346.out))); try go_wp2_with (first | ((with_reducible refine gate_dst (N := 37) rfl ?_); refine Kd.R_lit (Kd.int .u8) _ 5 ?hg (N := 37) ?hd (xs := ([((rd_T60 l0 0).f0) % 256] : List Int)) (inner := [.int .u8 (((rd_T60 l0 0).f0) % 256)]) (ok := fun _ => True) (okp := fun _ => True) ?hr ?hp (fun _ hk => hk) trivial (Below.refl _ _) (Nat.le_refl _) (by simp) ?_; (case hd => rfl); (case hg => rfl); (case hr => first | (go_simp; done) | (go_simp; rfl)); (case hp => exact (Reps.one (show Kd.M (Kd.int .u8) _ _ _ (((rd_T60 l0 0).f0) % 256) [.int .u8 (((rd_T60 l0 0).f0) % 256)] from rfl) (Reps.none _ _))); intro v345 w10 ho11 hb hg_ hnew_; clear hg_ hnew_; (first | rw [← Ny344.out] at ho11 | (simp only [Int.reduceToNat] at ho11; rw [← Ny344.out] at ho11)); have n0_ := Aside0.mk (Kd.R_lower ho11 (below_size (blw_ HB.out))); have n1_ := Aside0.mk (below_step (blw_ HB.out) hb); clear HB; have HO346 := n0_; have HB := n1_; clear n0_ n1_; clear hb ho11; have hcv12 := own_string (P := Tryd.prog) Tryd.underlying38 Tryd.underlying5 Tryd.underlying9 (Kd.own_of_R HO346.out))))
     go_ret
     exact ⟨fia_, blw_ HB.out⟩
    ·rw [if_neg c9] at H
     exact absurd H (by simp)
   ·replace c8 := Bool.eq_false_iff.mpr c8
    subst c8
    have H1 : ((spoolref05_Set.f kj1 0 l0 ([] : List (S60))).bind fun t347 => ((spoolref12_Text.f kj1 t347).bind fun t350 => (some t350))) = some r := by rw [if_neg (show ¬ (false = true) by decide)] at H; exact H
    clear H
    have H := H1
    clear H1
    replace H := Option.bind_eq_some_iff.mp H
    obtain ⟨t347, A130, H⟩ := H
    replace H : ((spoolref12_Text.f kj1 t347).bind fun t350 => (some t350)) = some r := H
    have A13 := Aside0.mk A130
    clear A130
    replace H := Option.bind_eq_some_iff.mp H
    obtain ⟨t350, A140, H⟩ := H
    replace H : (some t350) = some r := H
    have A14 := Aside0.mk A140
    clear A140
    obtain rfl := Option.some.inj H
    go_wp2_with (first | (go_at_call 30; (refine (spoolref05_Set.calls kj1 0 _ _ l0 _ _ ([] : List (S60)) t347 _ ?side1 ?side2 ?side3 ?side4 A13.out).mono ?_); (case side1 => repeat (first | exact (Kd.C_below HR0.out HB.out) | (with_reducible refine Kd.C_alloc ?_ _) | (with_reducible refine Kd.C_drewN ?_ _) | (with_reducible refine Kd.C_drew ?_))); (case side2 => exact HC0.out); (case side3 => exact Kd.C_nil _ _); (case side4 => exact Nat.le_refl _); rintro e w15 ⟨v348, rfl, ho0, hb⟩; have n0_ := Aside0.mk (Kd.R_lower ho0 (below_size (blw_ HB.out))); have n1_ := Aside0.mk (below_step (blw_ HB.out) hb); clear HB; have HO349 := n0_; have HB := n1_; clear n0_ n1_; (try clear hb); (try clear hb2); (try clear hk); (try clear hi); (try clear ho0); obtain ⟨Ao16, co16, eo16⟩ := Kd.R_slice HO349.out; subst eo16) | (go_at_call 33; (with_reducible refine (spoolref12_Text.calls kj1 _ _ t347 t350 _ ?side1 ?side2 A14.out).mono ?_); (case side1 => repeat (first | exact (Kd.R_reads' HO349.out).2.2 | (with_reducible refine Kd.C_alloc ?_ _) | (with_reducible refine Kd.C_drewN ?_ _) | (with_reducible refine Kd.C_drew ?_))); (case side2 => exact (Kd.R_reads' HO349.out).2.1); rintro e w17 ⟨rfl, hb⟩; have n0_ := Aside0.mk (Kd.R_below (by (with_reducible repeat (first | apply Kd.R_alloc | apply Kd.R_drewN | apply Kd.R_drew)); exact HO349.out) hb); have n1_ := Aside0.mk (below_step (blw_ HB.out) hb); clear HO349; clear HB; have HO349 := n0_; have HB := n1_; clear n0_ n1_; (try clear hb); (try clear hb2); (try clear hk); (try clear hi)))
    repeat (go_quiet (first | (go_at_call 30; (refine (spoolref05_Set.calls kj1 0 _ _ l0 _ _ ([] : List (S60)) t347 _ ?side1 ?side2 ?side3 ?side4 A13.out).mono ?_); (case side1 => repeat (first | exact (Kd.C_below HR0.out HB.out) | (with_reducible refine Kd.C_alloc ?_ _) | (with_reducible refine Kd.C_drewN ?_ _) | (with_reducible refine Kd.C_drew ?_))); (case side2 => exact HC0.out); (case side3 => exact Kd.C_nil _ _); (case side4 => exact Nat.le_refl _); rintro e w15 ⟨v348, rfl, ho0, hb⟩; have n0_ := Aside0.mk (Kd.R_lower ho0 (below_size (blw_ HB.out))); have n1_ := Aside0.mk (below_step (blw_ HB.out) hb); clear HB; have HO349 := n0_; have HB := n1_; clear n0_ n1_; (try clear hb); (try clear hb2); (try clear hk); (try clear hi); (try clear ho0); obtain ⟨Ao16, co16, eo16⟩ := Kd.R_slice HO349.out; subst eo16) | (go_at_call 33; (with_reducible refine (spoolref12_Text.calls kj1 _ _ t347 t350 _ ?side1 ?side2 A14.out).mono ?_); (case side1 => repeat (first | exact (Kd.R_reads' HO349.out).2.2 | (with_reducible refine Kd.C_alloc ?_ _) | (with_reducible refine Kd.C_drewN ?_ _) | (with_reducible refine Kd.C_drew ?_))); (case side2 => exact (Kd.R_reads' HO349.out).2.1); rintro e w17 ⟨rfl, hb⟩; have n0_ := Aside0.mk (Kd.R_below (by (with_reducible repeat (first | apply Kd.R_alloc | apply Kd.R_drewN | apply Kd.R_drew)); exact HO349.out) hb); have n1_ := Aside0.mk (below_step (blw_ HB.out) hb); clear HO349; clear HB; have HO349 := n0_; have HB := n1_; clear n0_ n1_; (try clear hb); (try clear hb2); (try clear hk); (try clear hi))); try go_wp2_with (first | (go_at_call 30; (refine (spoolref05_Set.calls kj1 0 _ _ l0 _ _ ([] : List (S60)) t347 _ ?side1 ?side2 ?side3 ?side4 A13.out).mono ?_); (case side1 => repeat (first | exact (Kd.C_below HR0.out HB.out) | (with_reducible refine Kd.C_alloc ?_ _) | (with_reducible refine Kd.C_drewN ?_ _) | (with_reducible refine Kd.C_drew ?_))); (case side2 => exact HC0.out); (case side3 => exact Kd.C_nil _ _); (case side4 => exact Nat.le_refl _); rintro e w15 ⟨v348, rfl, ho0, hb⟩; have n0_ := Aside0.mk (Kd.R_lower ho0 (below_size (blw_ HB.out))); have n1_ := Aside0.mk (below_step (blw_ HB.out) hb); clear HB; have HO349 := n0_; have HB := n1_; clear n0_ n1_; (try clear hb); (try clear hb2); (try clear hk); (try clear hi); (try clear ho0); obtain ⟨Ao16, co16, eo16⟩ := Kd.R_slice HO349.out; subst eo16) | (go_at_call 33; (with_reducible refine (spoolref12_Text.calls kj1 _ _ t347 t350 _ ?side1 ?side2 A14.out).mono ?_); (case side1 => repeat (first | exact (Kd.R_reads' HO349.out).2.2 | (with_reducible refine Kd.C_alloc ?_ _) | (with_reducible refine Kd.C_drewN ?_ _) | (with_reducible refine Kd.C_drew ?_))); (case side2 => exact (Kd.R_reads' HO349.out).2.1); rintro e w17 ⟨rfl, hb⟩; have n0_ := Aside0.mk (Kd.R_below (by (with_reducible repeat (first | apply Kd.R_alloc | apply Kd.R_drewN | apply Kd.R_drew)); exact HO349.out) hb); have n1_ := Aside0.mk (below_step (blw_ HB.out) hb); clear HO349; clear HB; have HO349 := n0_; have HB := n1_; clear n0_ n1_; (try clear hb); (try clear hb2); (try clear hk); (try clear hi))))
    go_ret
    exact ⟨fia_, blw_ HB.out⟩
def spoolref01_Text.f : Nat → Int → Option (ByteArray)
 | 0, _ => none
 | k + 1, a0 => if a0 < 10 then (if 0 ≤ a0 then (if a0 ≤ (wrap64 (a0 + 1)) then (if (wrap64 (a0 + 1)) ≤ 10 then (some ((⟨#[48, 49, 50, 51, 52, 53, 54, 55, 56, 57]⟩ : ByteArray).extract (a0 : Int).toNat ((wrap64 (a0 + 1)) : Int).toNat)) else (none)) else (none)) else (none)) else ((spoolref01_Text.f k (wrap64 (Int.tdiv a0 10))).bind fun t352 => ((spoolref01_Text.f k (Int.tmod a0 10)).bind fun t353 => (if t352.size + t353.size ≤ 9223372036854775807 then (some (t352 ++ t353)) else (none))))
theorem spoolref01_Text.mono_l : ∀ k, (∀ y0, LeO (spoolref01_Text.f k y0) (spoolref01_Text.f (k + 1) y0))
 | 0 => fun _ r h => by simp [spoolref01_Text.f] at h
 | k + 1 => by
  have ih0 := spoolref01_Text.mono_l k
  ·intro y0
   unfold spoolref01_Text.f
   repeat' first
   | (with_reducible exact ih0 _)
   | (with_reducible exact LeO.refl _)
   | (with_reducible exact LeO.none _)
   | (with_reducible refine LeO.ite ?_ ?_)
   | (with_reducible refine LeO.bind ?_ (fun _ => ?_))
   | exact ih0 _
   | exact LeO.none _
   | refine LeO.ite ?_ ?_
   | refine LeO.bind ?_ (fun _ => ?_)
theorem spoolref01_Text.mono : ∀ a0 k, LeO (spoolref01_Text.f k a0) (spoolref01_Text.f (k + 1) a0) := by
 intro a0 k
 have ih0 := spoolref01_Text.mono_l k
 exact ih0 a0
set_option maxHeartbeats 8000000 in
set_option maxRecDepth 100000 in
theorem spoolref01_Text.calls (k : Nat) : ∀ (a0 : Int) (r : ByteArray) (w : World) (h : spoolref01_Text.f k a0 = some r),
  Calls Tryd.prog 34 #[.int .i64 a0] w fun e w' => e = .returned (.string r) ∧ Drawn0 w w' := by
 induction k using Nat.strongRecOn with
 | _ k ih =>
 intro a0 r w h
 cases k with
 | zero => exact absurd h (by simp [spoolref01_Text.f])
 | succ k =>
 simp only [spoolref01_Text.f] at h
 have H : (if a0 < 10 then (if 0 ≤ a0 then (if a0 ≤ (wrap64 (a0 + 1)) then (if (wrap64 (a0 + 1)) ≤ 10 then (some ((⟨#[48, 49, 50, 51, 52, 53, 54, 55, 56, 57]⟩ : ByteArray).extract (a0 : Int).toNat ((wrap64 (a0 + 1)) : Int).toNat)) else (none)) else (none)) else (none)) else ((spoolref01_Text.f k (wrap64 (Int.tdiv a0 10))).bind fun t352 => ((spoolref01_Text.f k (Int.tmod a0 10)).bind fun t353 => (if t352.size + t353.size ≤ 9223372036854775807 then (some (t352 ++ t353)) else (none))))) = some r := h
 clear h
 by_cases c2 : a0 < 10
 ·rw [if_pos c2] at H
  have c2b0 : decide (a0 < 10) = true := decide_eq_true c2
  clear c2
  by_cases c3 : 0 ≤ a0
  ·rw [if_pos c3] at H
   have c3b0 := eq_true c3
   have c3b1 : decide (0 ≤ a0) = true := decide_eq_true c3
   clear c3
   by_cases c4 : a0 ≤ (wrap64 (a0 + 1))
   ·rw [if_pos c4] at H
    have c4b0 := eq_true c4
    have c4b1 : decide (a0 ≤ (wrap64 (a0 + 1))) = true := decide_eq_true c4
    by_cases c5 : (wrap64 (a0 + 1)) ≤ 10
    ·rw [if_pos c5] at H
     have c5b0 := eq_true c5
     have c5b1 : decide ((wrap64 (a0 + 1)) ≤ 10) = true := decide_eq_true c5
     obtain rfl := Option.some.inj H
     go_enter Tryd.func34, Tryd.ntmps34
     go_wp2
     go_ret
     exact ⟨fib_, by repeat (first | exact Drawn0.refl _ | apply Drawn0.step)⟩
    ·rw [if_neg c5] at H
     exact absurd H (by simp)
   ·rw [if_neg c4] at H
    exact absurd H (by simp)
  ·rw [if_neg c3] at H
   exact absurd H (by simp)
 ·rw [if_neg c2] at H
  have c2b0 : decide (a0 < 10) = false := decide_eq_false c2
  clear c2
  replace H := Option.bind_eq_some_iff.mp H
  obtain ⟨t352, A60, H⟩ := H
  replace H : ((spoolref01_Text.f k (Int.tmod a0 10)).bind fun t353 => (if t352.size + t353.size ≤ 9223372036854775807 then (some (t352 ++ t353)) else (none))) = some r := H
  have A6 := Aside0.mk A60
  clear A60
  replace H := Option.bind_eq_some_iff.mp H
  obtain ⟨t353, A70, H⟩ := H
  replace H : (if t352.size + t353.size ≤ 9223372036854775807 then (some (t352 ++ t353)) else (none)) = some r := H
  have A7 := Aside0.mk A70
  clear A70
  by_cases c8 : t352.size + t353.size ≤ 9223372036854775807
  ·rw [if_pos c8] at H
   have c8b0 := eq_true c8
   have c8b1 : decide (t352.size + t353.size ≤ 9223372036854775807) = true := decide_eq_true c8
   try have c8b2 : (9223372036854775807 < t352.size + t353.size) = False := eq_false (Nat.not_lt.2 c8)
   obtain rfl := Option.some.inj H
   go_enter Tryd.func34, Tryd.ntmps34
   go_wp2_with (first | ((with_reducible refine gate_callee (f := 34) rfl ?_); refine goesL_ (some 11) rfl rfl Tryd.func34 (by kernel_rfl) rfl #[.int .i64 (wrap64 (Int.tdiv a0 10))] rfl lma_ ?_; (with_reducible refine (ih k (by omega) (wrap64 (Int.tdiv a0 10)) t352 _ A6.out).mono ?_); rintro e w' ⟨rfl, ⟨nd, rfl⟩⟩; refine ⟨_, rfl, ?_⟩) | ((with_reducible refine gate_callee (f := 34) rfl ?_); refine goesL_ (some 14) rfl rfl Tryd.func34 (by kernel_rfl) rfl #[.int .i64 (Int.tmod a0 10)] rfl lma_ ?_; (with_reducible refine (ih k (by omega) (Int.tmod a0 10) t353 _ A7.out).mono ?_); rintro e w' ⟨rfl, ⟨nd, rfl⟩⟩; refine ⟨_, rfl, ?_⟩))
   go_ret
   exact ⟨fib_, by repeat (first | exact Drawn0.refl _ | apply Drawn0.step)⟩
  ·rw [if_neg c8] at H
   exact absurd H (by simp)
mutual
def spoolref14_often.j0 : Nat → Int → Int → Bool → Option (ByteArray)
 | 0, _, _, _ => none
 | k + 1, x0, x1, x10 => if x10 = true then (some (⟨#[42]⟩ : ByteArray)) else (if x1 = (-1) then (spoolref14_often.j1 k x0 x1 (x0 == 1)) else (spoolref14_often.j1 k x0 x1 false))
def spoolref14_often.j1 : Nat → Int → Int → Bool → Option (ByteArray)
 | 0, _, _, _ => none
 | k + 1, x0, x1, x16 => if x16 = true then (some (⟨#[43]⟩ : ByteArray)) else (if x0 = 0 then (spoolref14_often.j2 k x0 x1 (x1 == 1)) else (spoolref14_often.j2 k x0 x1 false))
def spoolref14_often.j2 : Nat → Int → Int → Bool → Option (ByteArray)
 | 0, _, _, _ => none
 | k + 1, x0, x1, x22 => if x22 = true then (some (⟨#[63]⟩ : ByteArray)) else (if x1 = (-1) then ((spoolref01_Text.f k x0).bind fun t354 => (if 1 + t354.size ≤ 9223372036854775807 then (if ((⟨#[123]⟩ : ByteArray) ++ t354).size + 2 ≤ 9223372036854775807 then (some (((⟨#[123]⟩ : ByteArray) ++ t354) ++ (⟨#[44, 125]⟩ : ByteArray))) else (none)) else (none))) else (if x1 = x0 then ((spoolref01_Text.f k x0).bind fun t355 => (if 1 + t355.size ≤ 9223372036854775807 then (if ((⟨#[123]⟩ : ByteArray) ++ t355).size + 1 ≤ 9223372036854775807 then (some (((⟨#[123]⟩ : ByteArray) ++ t355) ++ (⟨#[125]⟩ : ByteArray))) else (none)) else (none))) else ((spoolref01_Text.f k x0).bind fun t356 => (if 1 + t356.size ≤ 9223372036854775807 then (if ((⟨#[123]⟩ : ByteArray) ++ t356).size + 1 ≤ 9223372036854775807 then ((spoolref01_Text.f k x1).bind fun t357 => (if (((⟨#[123]⟩ : ByteArray) ++ t356) ++ (⟨#[44]⟩ : ByteArray)).size + t357.size ≤ 9223372036854775807 then (if ((((⟨#[123]⟩ : ByteArray) ++ t356) ++ (⟨#[44]⟩ : ByteArray)) ++ t357).size + 1 ≤ 9223372036854775807 then (some (((((⟨#[123]⟩ : ByteArray) ++ t356) ++ (⟨#[44]⟩ : ByteArray)) ++ t357) ++ (⟨#[125]⟩ : ByteArray))) else (none)) else (none))) else (none)) else (none)))))
end
def spoolref14_often.f (k : Nat) (a0 : Int) (a1 : Int) : Option (ByteArray) := if a1 = (-1) then (spoolref14_often.j0 k a0 a1 (a0 == 0)) else (spoolref14_often.j0 k a0 a1 false)
theorem spoolref14_often.mono_l : ∀ k, (∀ y0 y1 y2, LeO (spoolref14_often.j0 k y0 y1 y2) (spoolref14_often.j0 (k + 1) y0 y1 y2)) ∧ (∀ y0 y1 y2, LeO (spoolref14_often.j1 k y0 y1 y2) (spoolref14_often.j1 (k + 1) y0 y1 y2)) ∧ (∀ y0 y1 y2, LeO (spoolref14_often.j2 k y0 y1 y2) (spoolref14_often.j2 (k + 1) y0 y1 y2))
 | 0 => ⟨fun _ _ _ r h => by simp [spoolref14_often.j0] at h, fun _ _ _ r h => by simp [spoolref14_often.j1] at h, fun _ _ _ r h => by simp [spoolref14_often.j2] at h⟩
 | k + 1 => by
  obtain ⟨ih0, ih1, ih2⟩ := spoolref14_often.mono_l k
  refine ⟨?_, ?_, ?_⟩
  ·intro y0 y1 y2
   unfold spoolref14_often.j0
   repeat' first
   | (with_reducible exact ih0 _ _ _)
   | (with_reducible exact ih1 _ _ _)
   | (with_reducible exact ih2 _ _ _)
   | (with_reducible exact spoolref01_Text.mono _ _)
   | (with_reducible exact LeO.refl _)
   | (with_reducible exact LeO.none _)
   | (with_reducible refine LeO.ite ?_ ?_)
   | (with_reducible refine LeO.bind ?_ (fun _ => ?_))
   | exact ih0 _ _ _
   | exact ih1 _ _ _
   | exact ih2 _ _ _
   | exact spoolref01_Text.mono _ _
   | exact LeO.none _
   | refine LeO.ite ?_ ?_
   | refine LeO.bind ?_ (fun _ => ?_)
  ·intro y0 y1 y2
   unfold spoolref14_often.j1
   repeat' first
   | (with_reducible exact ih0 _ _ _)
   | (with_reducible exact ih1 _ _ _)
   | (with_reducible exact ih2 _ _ _)
   | (with_reducible exact spoolref01_Text.mono _ _)
   | (with_reducible exact LeO.refl _)
   | (with_reducible exact LeO.none _)
   | (with_reducible refine LeO.ite ?_ ?_)
   | (with_reducible refine LeO.bind ?_ (fun _ => ?_))
   | exact ih0 _ _ _
   | exact ih1 _ _ _
   | exact ih2 _ _ _
   | exact spoolref01_Text.mono _ _
   | exact LeO.none _
   | refine LeO.ite ?_ ?_
   | refine LeO.bind ?_ (fun _ => ?_)
  ·intro y0 y1 y2
   unfold spoolref14_often.j2
   repeat' first
   | (with_reducible exact ih0 _ _ _)
   | (with_reducible exact ih1 _ _ _)
   | (with_reducible exact ih2 _ _ _)
   | (with_reducible exact spoolref01_Text.mono _ _)
   | (with_reducible exact LeO.refl _)
   | (with_reducible exact LeO.none _)
   | (with_reducible refine LeO.ite ?_ ?_)
   | (with_reducible refine LeO.bind ?_ (fun _ => ?_))
   | exact ih0 _ _ _
   | exact ih1 _ _ _
   | exact ih2 _ _ _
   | exact spoolref01_Text.mono _ _
   | exact LeO.none _
   | refine LeO.ite ?_ ?_
   | refine LeO.bind ?_ (fun _ => ?_)
theorem spoolref14_often.mono : ∀ a0 a1 k, LeO (spoolref14_often.f k a0 a1) (spoolref14_often.f (k + 1) a0 a1) := by
 intro a0 a1 k
 obtain ⟨ih0, ih1, ih2⟩ := spoolref14_often.mono_l k
 unfold spoolref14_often.f
 repeat' first
   | (with_reducible exact ih0 _ _ _)
   | (with_reducible exact ih1 _ _ _)
   | (with_reducible exact ih2 _ _ _)
   | (with_reducible exact spoolref01_Text.mono _ _)
   | (with_reducible exact LeO.refl _)
   | (with_reducible exact LeO.none _)
   | (with_reducible refine LeO.ite ?_ ?_)
   | (with_reducible refine LeO.bind ?_ (fun _ => ?_))
   | exact ih0 _ _ _
   | exact ih1 _ _ _
   | exact ih2 _ _ _
   | exact spoolref01_Text.mono _ _
   | exact LeO.none _
   | refine LeO.ite ?_ ?_
   | refine LeO.bind ?_ (fun _ => ?_)
set_option maxHeartbeats 8000000 in
set_option maxRecDepth 100000 in
theorem spoolref14_often.calls (k : Nat) (a0 : Int) (a1 : Int) (r : ByteArray) (w : World) (h : spoolref14_often.f k a0 a1 = some r) :
  Calls Tryd.prog 22 #[.int .i64 a0, .int .i64 a1] w fun e w' => e = .returned (.string r) ∧ Drawn0 w w' := by
 have H : (if a1 = (-1) then (spoolref14_often.j0 k a0 a1 (a0 == 0)) else (spoolref14_often.j0 k a0 a1 false)) = some r := h
 clear h
 have HC3 := Aside0.mk H
 clear H
 go_enter Tryd.func22, Tryd.ntmps22
 go_upto_region 1 with (fail)
 go_cut [10] (fun v10 wc => ∃ (kq : Nat) (x10_2 : Bool), v10 = .bool x10_2 ∧ Aside0 (spoolref14_often.j0 kq a0 a1 x10_2 = some r) ∧ Aside0 (kq ≤ k) ∧ Drawn0 w wc)
 case first =>
  have H := HC3.out
  clear HC3
  by_cases c4 : a1 = (-1)
  ·rw [if_pos c4] at H
   have c4b0 : (a1 == (-1)) = true := beq_iff_eq.mpr c4
   have c4b1 : (a1 != (-1)) = false := bne_eq_false_iff_eq.mpr c4
   clear c4
   (first | rw [c4b0] | (simp only [i64_w, i32_w]; rw [c4b0]) | skip)
   have H' := Aside0.mk H
   clear H
   go_wp2
   go_meet
   case rel => exact ⟨_, ((a0 == 0)), fib_, H', ⟨by first | omega | exact Nat.le_refl _⟩, by repeat (first | exact Drawn0.refl _ | apply Drawn0.step)⟩
  ·rw [if_neg c4] at H
   have c4b0 : (a1 == (-1)) = false := beq_eq_false_iff_ne.mpr c4
   have c4b1 : (a1 != (-1)) = true := bne_iff_ne.mpr c4
   (first | rw [c4b0] | (simp only [i64_w, i32_w]; rw [c4b0]) | skip)
   have H' := Aside0.mk H
   clear H
   go_wp2
   go_meet
   case rel => exact ⟨_, (false), fib_, H', ⟨by first | omega | exact Nat.le_refl _⟩, by repeat (first | exact Drawn0.refl _ | apply Drawn0.step)⟩
 case rest =>
  clear HC3
  try clear c2
  try clear p2
  try clear c4
  try clear c4b0
  try clear c4b1
  obtain ⟨kq, x10_2, rfl, HA, HJ2, ⟨mc2, rfl⟩⟩ := hcut
  cases kq with
  | zero => exact absurd HA.out (by simp [spoolref14_often.j0])
  | succ kj2 =>
   have H := HA.out
   clear HA
   simp only [spoolref14_often.j0] at H
   by_cases c5 : x10_2 = true
   ·subst c5
    have H1 : (some (⟨#[42]⟩ : ByteArray)) = some r := by rw [if_pos rfl] at H; exact H
    clear H
    have H := H1
    clear H1
    obtain rfl := Option.some.inj H
    go_wp2
    go_ret
    exact ⟨fib_, by repeat (first | exact Drawn0.refl _ | apply Drawn0.step)⟩
   ·replace c5 := Bool.eq_false_iff.mpr c5
    subst c5
    have H1 : (if a1 = (-1) then (spoolref14_often.j1 kj2 a0 a1 (a0 == 1)) else (spoolref14_often.j1 kj2 a0 a1 false)) = some r := by rw [if_neg (show ¬ (false = true) by decide)] at H; exact H
    clear H
    have H := H1
    clear H1
    have HC6 := Aside0.mk H
    clear H
    go_upto_region 3 with (fail)
    go_cut [16] (fun v16 wc => ∃ (kq : Nat) (x16_5 : Bool), v16 = .bool x16_5 ∧ Aside0 (spoolref14_often.j1 kq a0 a1 x16_5 = some r) ∧ Aside0 (kq ≤ kj2) ∧ Drawn0 w wc)
    case first =>
     have H := HC6.out
     clear HC6
     by_cases c7 : a1 = (-1)
     ·rw [if_pos c7] at H
      have c7b0 : (a1 == (-1)) = true := beq_iff_eq.mpr c7
      have c7b1 : (a1 != (-1)) = false := bne_eq_false_iff_eq.mpr c7
      clear c7
      (first | rw [c7b0] | (simp only [i64_w, i32_w]; rw [c7b0]) | skip)
      have H' := Aside0.mk H
      clear H
      go_wp2
      go_meet
      case rel => exact ⟨_, ((a0 == 1)), fib_, H', ⟨by have := HJ2.out; first | omega | exact Nat.le_refl _⟩, by repeat (first | exact Drawn0.refl _ | apply Drawn0.step)⟩
     ·rw [if_neg c7] at H
      have c7b0 : (a1 == (-1)) = false := beq_eq_false_iff_ne.mpr c7
      have c7b1 : (a1 != (-1)) = true := bne_iff_ne.mpr c7
      (first | rw [c7b0] | (simp only [i64_w, i32_w]; rw [c7b0]) | skip)
      have H' := Aside0.mk H
      clear H
      go_wp2
      go_meet
      case rel => exact ⟨_, (false), fib_, H', ⟨by have := HJ2.out; first | omega | exact Nat.le_refl _⟩, by repeat (first | exact Drawn0.refl _ | apply Drawn0.step)⟩
    case rest =>
     clear HC6
     try clear c2
     try clear p2
     try clear c4
     try clear c4b0
     try clear c4b1
     try clear c5
     try clear c7
     try clear c7b0
     try clear c7b1
     try clear p2
     obtain ⟨kq, x16_5, rfl, HA, HJ5, ⟨mc5, rfl⟩⟩ := hcut
     cases kq with
     | zero => exact absurd HA.out (by simp [spoolref14_often.j1])
     | succ kj5 =>
      have H := HA.out
      clear HA
      simp only [spoolref14_often.j1] at H
      by_cases c8 : x16_5 = true
      ·subst c8
       have H1 : (some (⟨#[43]⟩ : ByteArray)) = some r := by rw [if_pos rfl] at H; exact H
       clear H
       have H := H1
       clear H1
       obtain rfl := Option.some.inj H
       go_wp2
       go_ret
       exact ⟨fib_, by repeat (first | exact Drawn0.refl _ | apply Drawn0.step)⟩
      ·replace c8 := Bool.eq_false_iff.mpr c8
       subst c8
       have H1 : (if a0 = 0 then (spoolref14_often.j2 kj5 a0 a1 (a1 == 1)) else (spoolref14_often.j2 kj5 a0 a1 false)) = some r := by rw [if_neg (show ¬ (false = true) by decide)] at H; exact H
       clear H
       have H := H1
       clear H1
       have HC9 := Aside0.mk H
       clear H
       go_upto_region 5 with (fail)
       go_cut [22] (fun v22 wc => ∃ (kq : Nat) (x22_8 : Bool), v22 = .bool x22_8 ∧ Aside0 (spoolref14_often.j2 kq a0 a1 x22_8 = some r) ∧ Aside0 (kq ≤ kj5) ∧ Drawn0 w wc)
       case first =>
        have H := HC9.out
        clear HC9
        by_cases c10 : a0 = 0
        ·rw [if_pos c10] at H
         have c10b0 : (a0 == 0) = true := beq_iff_eq.mpr c10
         have c10b1 : (a0 != 0) = false := bne_eq_false_iff_eq.mpr c10
         clear c10
         (first | rw [c10b0] | (simp only [i64_w, i32_w]; rw [c10b0]) | skip)
         have H' := Aside0.mk H
         clear H
         go_wp2
         go_meet
         case rel => exact ⟨_, ((a1 == 1)), fib_, H', ⟨by have := HJ2.out; have := HJ5.out; first | omega | exact Nat.le_refl _⟩, by repeat (first | exact Drawn0.refl _ | apply Drawn0.step)⟩
        ·rw [if_neg c10] at H
         have c10b0 : (a0 == 0) = false := beq_eq_false_iff_ne.mpr c10
         have c10b1 : (a0 != 0) = true := bne_iff_ne.mpr c10
         (first | rw [c10b0] | (simp only [i64_w, i32_w]; rw [c10b0]) | skip)
         have H' := Aside0.mk H
         clear H
         go_wp2
         go_meet
         case rel => exact ⟨_, (false), fib_, H', ⟨by have := HJ2.out; have := HJ5.out; first | omega | exact Nat.le_refl _⟩, by repeat (first | exact Drawn0.refl _ | apply Drawn0.step)⟩
       case rest =>
        clear HC9
        try clear c1
        try clear c2
        try clear p2
        try clear c4
        try clear c4b0
        try clear c4b1
        try clear c5
        try clear c7
        try clear c7b0
        try clear c7b1
        try clear c8
        try clear c10
        try clear c10b0
        try clear c10b1
        try clear p2
        obtain ⟨kq, x22_8, rfl, HA, HJ8, ⟨mc8, rfl⟩⟩ := hcut
        cases kq with
        | zero => exact absurd HA.out (by simp [spoolref14_often.j2])
        | succ kj8 =>
         have H := HA.out
         clear HA
         simp only [spoolref14_often.j2] at H
         by_cases c11 : x22_8 = true
         ·subst c11
          have H1 : (some (⟨#[63]⟩ : ByteArray)) = some r := by rw [if_pos rfl] at H; exact H
          clear H
          have H := H1
          clear H1
          obtain rfl := Option.some.inj H
          go_wp2
          go_ret
          exact ⟨fib_, by repeat (first | exact Drawn0.refl _ | apply Drawn0.step)⟩
         ·replace c11 := Bool.eq_false_iff.mpr c11
          subst c11
          have H1 : (if a1 = (-1) then ((spoolref01_Text.f kj8 a0).bind fun t354 => (if 1 + t354.size ≤ 9223372036854775807 then (if ((⟨#[123]⟩ : ByteArray) ++ t354).size + 2 ≤ 9223372036854775807 then (some (((⟨#[123]⟩ : ByteArray) ++ t354) ++ (⟨#[44, 125]⟩ : ByteArray))) else (none)) else (none))) else (if a1 = a0 then ((spoolref01_Text.f kj8 a0).bind fun t355 => (if 1 + t355.size ≤ 9223372036854775807 then (if ((⟨#[123]⟩ : ByteArray) ++ t355).size + 1 ≤ 9223372036854775807 then (some (((⟨#[123]⟩ : ByteArray) ++ t355) ++ (⟨#[125]⟩ : ByteArray))) else (none)) else (none))) else ((spoolref01_Text.f kj8 a0).bind fun t356 => (if 1 + t356.size ≤ 9223372036854775807 then (if ((⟨#[123]⟩ : ByteArray) ++ t356).size + 1 ≤ 9223372036854775807 then ((spoolref01_Text.f kj8 a1).bind fun t357 => (if (((⟨#[123]⟩ : ByteArray) ++ t356) ++ (⟨#[44]⟩ : ByteArray)).size + t357.size ≤ 9223372036854775807 then (if ((((⟨#[123]⟩ : ByteArray) ++ t356) ++ (⟨#[44]⟩ : ByteArray)) ++ t357).size + 1 ≤ 9223372036854775807 then (some (((((⟨#[123]⟩ : ByteArray) ++ t356) ++ (⟨#[44]⟩ : ByteArray)) ++ t357) ++ (⟨#[125]⟩ : ByteArray))) else (none)) else (none))) else (none)) else (none))))) = some r := by rw [if_neg (show ¬ (false = true) by decide)] at H; exact H
          clear H
          have H := H1
          clear H1
          by_cases c12 : a1 = (-1)
          ·rw [if_pos c12] at H
           have c12b0 : (a1 == (-1)) = true := beq_iff_eq.mpr c12
           have c12b1 : (a1 != (-1)) = false := bne_eq_false_iff_eq.mpr c12
           clear c12
           replace H := Option.bind_eq_some_iff.mp H
           obtain ⟨t354, A130, H⟩ := H
           replace H : (if 1 + t354.size ≤ 9223372036854775807 then (if ((⟨#[123]⟩ : ByteArray) ++ t354).size + 2 ≤ 9223372036854775807 then (some (((⟨#[123]⟩ : ByteArray) ++ t354) ++ (⟨#[44, 125]⟩ : ByteArray))) else (none)) else (none)) = some r := H
           have A13 := Aside0.mk A130
           clear A130
           by_cases c14 : 1 + t354.size ≤ 9223372036854775807
           ·rw [if_pos c14] at H
            have c14b0 := eq_true c14
            have c14b1 : decide (1 + t354.size ≤ 9223372036854775807) = true := decide_eq_true c14
            try have c14b2 : (9223372036854775807 < 1 + t354.size) = False := eq_false (Nat.not_lt.2 c14)
            by_cases c15 : ((⟨#[123]⟩ : ByteArray) ++ t354).size + 2 ≤ 9223372036854775807
            ·rw [if_pos c15] at H
             have c15b0 := eq_true c15
             have c15b1 : decide (((⟨#[123]⟩ : ByteArray) ++ t354).size + 2 ≤ 9223372036854775807) = true := decide_eq_true c15
             try have c15b1s : decide ((1 + t354.size) + 2 ≤ 9223372036854775807) = true := (by have h_ := c15b1; simp only [ByteArray.size_append] at h_; exact h_)
             try have c15b2 : (9223372036854775807 < ((⟨#[123]⟩ : ByteArray) ++ t354).size + 2) = False := eq_false (Nat.not_lt.2 c15)
             try have c15b2s : (9223372036854775807 < (1 + t354.size) + 2) = False := (by have h_ := c15b2; simp only [ByteArray.size_append] at h_; exact h_)
             obtain rfl := Option.some.inj H
             go_wp2_with (first | ((with_reducible refine gate_callee (f := 34) rfl ?_); refine goesL_ (some 26) rfl rfl Tryd.func34 (by kernel_rfl) rfl #[.int .i64 a0] rfl lma_ ?_; (with_reducible refine (spoolref01_Text.calls kj8 a0 t354 _ A13.out).mono ?_); rintro e w' ⟨rfl, ⟨nd, rfl⟩⟩; refine ⟨_, rfl, ?_⟩))
             go_ret
             exact ⟨fib_, by repeat (first | exact Drawn0.refl _ | apply Drawn0.step)⟩
            ·rw [if_neg c15] at H
             exact absurd H (by simp)
           ·rw [if_neg c14] at H
            exact absurd H (by simp)
          ·rw [if_neg c12] at H
           have c12b0 : (a1 == (-1)) = false := beq_eq_false_iff_ne.mpr c12
           have c12b1 : (a1 != (-1)) = true := bne_iff_ne.mpr c12
           by_cases c16 : a1 = a0
           ·rw [if_pos c16] at H
            have c16b0 : (a1 == a0) = true := beq_iff_eq.mpr c16
            have c16b1 : (a1 != a0) = false := bne_eq_false_iff_eq.mpr c16
            clear c16
            replace H := Option.bind_eq_some_iff.mp H
            obtain ⟨t355, A170, H⟩ := H
            replace H : (if 1 + t355.size ≤ 9223372036854775807 then (if ((⟨#[123]⟩ : ByteArray) ++ t355).size + 1 ≤ 9223372036854775807 then (some (((⟨#[123]⟩ : ByteArray) ++ t355) ++ (⟨#[125]⟩ : ByteArray))) else (none)) else (none)) = some r := H
            have A17 := Aside0.mk A170
            clear A170
            by_cases c18 : 1 + t355.size ≤ 9223372036854775807
            ·rw [if_pos c18] at H
             have c18b0 := eq_true c18
             have c18b1 : decide (1 + t355.size ≤ 9223372036854775807) = true := decide_eq_true c18
             try have c18b2 : (9223372036854775807 < 1 + t355.size) = False := eq_false (Nat.not_lt.2 c18)
             by_cases c19 : ((⟨#[123]⟩ : ByteArray) ++ t355).size + 1 ≤ 9223372036854775807
             ·rw [if_pos c19] at H
              have c19b0 := eq_true c19
              have c19b1 : decide (((⟨#[123]⟩ : ByteArray) ++ t355).size + 1 ≤ 9223372036854775807) = true := decide_eq_true c19
              try have c19b1s : decide ((1 + t355.size) + 1 ≤ 9223372036854775807) = true := (by have h_ := c19b1; simp only [ByteArray.size_append] at h_; exact h_)
              try have c19b2 : (9223372036854775807 < ((⟨#[123]⟩ : ByteArray) ++ t355).size + 1) = False := eq_false (Nat.not_lt.2 c19)
              try have c19b2s : (9223372036854775807 < (1 + t355.size) + 1) = False := (by have h_ := c19b2; simp only [ByteArray.size_append] at h_; exact h_)
              obtain rfl := Option.some.inj H
              go_wp2_with (first | ((with_reducible refine gate_callee (f := 34) rfl ?_); refine goesL_ (some 33) rfl rfl Tryd.func34 (by kernel_rfl) rfl #[.int .i64 a0] rfl lma_ ?_; (with_reducible refine (spoolref01_Text.calls kj8 a0 t355 _ A17.out).mono ?_); rintro e w' ⟨rfl, ⟨nd, rfl⟩⟩; refine ⟨_, rfl, ?_⟩))
              go_ret
              exact ⟨fib_, by repeat (first | exact Drawn0.refl _ | apply Drawn0.step)⟩
             ·rw [if_neg c19] at H
              exact absurd H (by simp)
            ·rw [if_neg c18] at H
             exact absurd H (by simp)
           ·rw [if_neg c16] at H
            have c16b0 : (a1 == a0) = false := beq_eq_false_iff_ne.mpr c16
            have c16b1 : (a1 != a0) = true := bne_iff_ne.mpr c16
            replace H := Option.bind_eq_some_iff.mp H
            obtain ⟨t356, A200, H⟩ := H
            replace H : (if 1 + t356.size ≤ 9223372036854775807 then (if ((⟨#[123]⟩ : ByteArray) ++ t356).size + 1 ≤ 9223372036854775807 then ((spoolref01_Text.f kj8 a1).bind fun t357 => (if (((⟨#[123]⟩ : ByteArray) ++ t356) ++ (⟨#[44]⟩ : ByteArray)).size + t357.size ≤ 9223372036854775807 then (if ((((⟨#[123]⟩ : ByteArray) ++ t356) ++ (⟨#[44]⟩ : ByteArray)) ++ t357).size + 1 ≤ 9223372036854775807 then (some (((((⟨#[123]⟩ : ByteArray) ++ t356) ++ (⟨#[44]⟩ : ByteArray)) ++ t357) ++ (⟨#[125]⟩ : ByteArray))) else (none)) else (none))) else (none)) else (none)) = some r := H
            have A20 := Aside0.mk A200
            clear A200
            by_cases c21 : 1 + t356.size ≤ 9223372036854775807
            ·rw [if_pos c21] at H
             have c21b0 := eq_true c21
             have c21b1 : decide (1 + t356.size ≤ 9223372036854775807) = true := decide_eq_true c21
             try have c21b2 : (9223372036854775807 < 1 + t356.size) = False := eq_false (Nat.not_lt.2 c21)
             by_cases c22 : ((⟨#[123]⟩ : ByteArray) ++ t356).size + 1 ≤ 9223372036854775807
             ·rw [if_pos c22] at H
              have c22b0 := eq_true c22
              have c22b1 : decide (((⟨#[123]⟩ : ByteArray) ++ t356).size + 1 ≤ 9223372036854775807) = true := decide_eq_true c22
              try have c22b1s : decide ((1 + t356.size) + 1 ≤ 9223372036854775807) = true := (by have h_ := c22b1; simp only [ByteArray.size_append] at h_; exact h_)
              try have c22b2 : (9223372036854775807 < ((⟨#[123]⟩ : ByteArray) ++ t356).size + 1) = False := eq_false (Nat.not_lt.2 c22)
              try have c22b2s : (9223372036854775807 < (1 + t356.size) + 1) = False := (by have h_ := c22b2; simp only [ByteArray.size_append] at h_; exact h_)
              replace H := Option.bind_eq_some_iff.mp H
              obtain ⟨t357, A230, H⟩ := H
              replace H : (if (((⟨#[123]⟩ : ByteArray) ++ t356) ++ (⟨#[44]⟩ : ByteArray)).size + t357.size ≤ 9223372036854775807 then (if ((((⟨#[123]⟩ : ByteArray) ++ t356) ++ (⟨#[44]⟩ : ByteArray)) ++ t357).size + 1 ≤ 9223372036854775807 then (some (((((⟨#[123]⟩ : ByteArray) ++ t356) ++ (⟨#[44]⟩ : ByteArray)) ++ t357) ++ (⟨#[125]⟩ : ByteArray))) else (none)) else (none)) = some r := H
              have A23 := Aside0.mk A230
              clear A230
              by_cases c24 : (((⟨#[123]⟩ : ByteArray) ++ t356) ++ (⟨#[44]⟩ : ByteArray)).size + t357.size ≤ 9223372036854775807
              ·rw [if_pos c24] at H
               have c24b0 := eq_true c24
               have c24b1 : decide ((((⟨#[123]⟩ : ByteArray) ++ t356) ++ (⟨#[44]⟩ : ByteArray)).size + t357.size ≤ 9223372036854775807) = true := decide_eq_true c24
               try have c24b1s : decide (((1 + t356.size) + 1) + t357.size ≤ 9223372036854775807) = true := (by have h_ := c24b1; simp only [ByteArray.size_append] at h_; exact h_)
               try have c24b2 : (9223372036854775807 < (((⟨#[123]⟩ : ByteArray) ++ t356) ++ (⟨#[44]⟩ : ByteArray)).size + t357.size) = False := eq_false (Nat.not_lt.2 c24)
               try have c24b2s : (9223372036854775807 < ((1 + t356.size) + 1) + t357.size) = False := (by have h_ := c24b2; simp only [ByteArray.size_append] at h_; exact h_)
               by_cases c25 : ((((⟨#[123]⟩ : ByteArray) ++ t356) ++ (⟨#[44]⟩ : ByteArray)) ++ t357).size + 1 ≤ 9223372036854775807
               ·rw [if_pos c25] at H
                have c25b0 := eq_true c25
                have c25b1 : decide (((((⟨#[123]⟩ : ByteArray) ++ t356) ++ (⟨#[44]⟩ : ByteArray)) ++ t357).size + 1 ≤ 9223372036854775807) = true := decide_eq_true c25
                try have c25b1s : decide ((((1 + t356.size) + 1) + t357.size) + 1 ≤ 9223372036854775807) = true := (by have h_ := c25b1; simp only [ByteArray.size_append] at h_; exact h_)
                try have c25b2 : (9223372036854775807 < ((((⟨#[123]⟩ : ByteArray) ++ t356) ++ (⟨#[44]⟩ : ByteArray)) ++ t357).size + 1) = False := eq_false (Nat.not_lt.2 c25)
                try have c25b2s : (9223372036854775807 < (((1 + t356.size) + 1) + t357.size) + 1) = False := (by have h_ := c25b2; simp only [ByteArray.size_append] at h_; exact h_)
                obtain rfl := Option.some.inj H
                go_wp2_with (first | ((with_reducible refine gate_callee (f := 34) rfl ?_); refine goesL_ (some 37) rfl rfl Tryd.func34 (by kernel_rfl) rfl #[.int .i64 a0] rfl lma_ ?_; (with_reducible refine (spoolref01_Text.calls kj8 a0 t356 _ A20.out).mono ?_); rintro e w' ⟨rfl, ⟨nd, rfl⟩⟩; refine ⟨_, rfl, ?_⟩) | ((with_reducible refine gate_callee (f := 34) rfl ?_); refine goesL_ (some 41) rfl rfl Tryd.func34 (by kernel_rfl) rfl #[.int .i64 a1] rfl lma_ ?_; (with_reducible refine (spoolref01_Text.calls kj8 a1 t357 _ A23.out).mono ?_); rintro e w' ⟨rfl, ⟨nd, rfl⟩⟩; refine ⟨_, rfl, ?_⟩))
                go_ret
                exact ⟨fib_, by repeat (first | exact Drawn0.refl _ | apply Drawn0.step)⟩
               ·rw [if_neg c25] at H
                exact absurd H (by simp)
              ·rw [if_neg c24] at H
               exact absurd H (by simp)
             ·rw [if_neg c22] at H
              exact absurd H (by simp)
            ·rw [if_neg c21] at H
             exact absurd H (by simp)
end Go.Proofs.YtlihkebmonfefaaDoor.PG

-- WRITTEN BY A PROGRAM OF THIS SESSION (patchprint.py over the kit's print)
import Derived.Test.YtbgoaigbkfibbaaHandGo
import Derived.Test.YtbgoaigbkfibbaaPAx0
import Derived.Test.YtbgoaigbkfibbaaPAx5
namespace Go.Proofs.Ytbgoaigbkfibbaa.PA
open Go.RowKit Go.Proofs.YtbgoaigbkfibbaaW.PrintWords Go.Proofs.YtbgoaigbkfibbaaW.PrintLast Go.Proofs.YtbgoaigbkfibbaaW.PrintMore
attribute [local go_sem] max2_int min2_int max_two min_two max_three min_three max_four min_four   -- for this text's walks alone
set_option linter.unusedVariables false
set_option linter.unusedSimpArgs false

-- AT INSTANCES: function 32 (arena_measure)

/-! ### arena_deeper: function 33 -/
def arena_deeper.l0 : Nat → Int → List Int → Int → Int → Option (Int)
 | 0, _, _, _, _ => none
 | k + 1, x3, x6, x7, x8 => if x8 < x7 then (if 0 ≤ x8 then (if x8 < (x6.length : Int) then (arena_deeper.l0 k (mx x3 (rd x6 x8)) x6 x7 (wrap64 (x8 + 1))) else (none)) else (none)) else (some (wrap64 (x3 + 1)))
def arena_deeper.f (k : Nat) (l0 : List Int) : Option (Int) := arena_deeper.l0 k 0 l0 (l0.length : Int) 0
set_option maxHeartbeats 8000000 in
set_option maxRecDepth 100000 in
theorem arena_deeper.calls (k : Nat) (A0 : Option Addr) (c0 : Nat) (l0 : List Int) (r : Int) (w : World) (hr0 : Kd.C (Kd.int .i64) w A0 l0.length l0) (hc0 : l0.length ≤ c0) (h : arena_deeper.f k l0 = some r) :
  Calls Try.prog 33 #[.slice A0 l0.length c0] w fun e w' => e = .returned (.int .i64 r) ∧ Below w.heap.size w w' := by
 have HR0 := Aside0.mk hr0
 have HC0 := Aside0.mk hc0
 clear hr0 hc0
 have HB := Aside0.mk (Below.refl w.heap.size w)
 have H : (arena_deeper.l0 k 0 l0 (l0.length : Int) 0) = some r := h
 clear h
 have H' := Aside0.mk H
 clear H
 go_enter Try.func33, Try.ntmps33
 go_wp2
 go_loopg [3, 8] k (fun kq v3 v8 w' => ∃ (x3_1 : Int) (x8_1 : Int), v3 = .int .i64 x3_1 ∧ v8 = .int .i64 x8_1 ∧ Aside0 (arena_deeper.l0 kq x3_1 l0 (l0.length : Int) x8_1 = some r) ∧ Aside0 (kq ≤ k) ∧ Aside0 (Below w.heap.size w w'))
 case atStart => exact ⟨(0), (0), fib_, fib_, H', ⟨Nat.le_refl _⟩, ⟨blw_ HB.out⟩⟩
 case round =>
  clear H'
  obtain ⟨x3_1, x8_1, rfl, rfl, HA, HK1, HB⟩ := hrel
  cases gk with
  | zero => exact absurd HA.out (by simp [arena_deeper.l0])
  | succ k1 =>
   have H := HA.out
   clear HA
   simp only [arena_deeper.l0] at H
   by_cases c2 : x8_1 < (l0.length : Int)
   ·rw [if_pos c2] at H
    have c2b0 : decide (x8_1 < (l0.length : Int)) = true := decide_eq_true c2
    clear c2
    by_cases c3 : 0 ≤ x8_1
    ·rw [if_pos c3] at H
     have c3b0 : decide (0 ≤ x8_1) = true := decide_eq_true c3
     clear c3
     by_cases c4 : x8_1 < (l0.length : Int)
     ·rw [if_pos c4] at H
      have c4b0 : decide (x8_1 < (l0.length : Int)) = true := decide_eq_true c4
      clear c4
      obtain ⟨ji5, hji5⟩ : ∃ j_ : Int, (mx x3_1 (rd l0 x8_1)) = j_ := ⟨_, rfl⟩
      replace H : (arena_deeper.l0 k1 ji5 l0 (l0.length : Int) (wrap64 (x8_1 + 1))) = some r := by first | (rw [hji5] at H; exact H) | (simp only [hji5] at H ⊢; exact H)
      have hji5_ : (if x3_1 < (rd l0 x8_1) then (rd l0 x8_1) else x3_1) = ji5 := hji5
      have H' := Aside0.mk H
      clear H
      have p127 : 0 ≤ (x8_1 : Int) := of_decide_eq_true asa_
      have q127 : x8_1 < (l0.length : Int) := of_decide_eq_true asa_
      obtain ⟨ad127, e127, hx127_0⟩ := Kd.at_int HR0.out x8_1 p127 q127
      cases e127
      replace hx127_0 := (HB.out.cell (World.block_lt_of_cell? w _ hx127_0)).trans hx127_0
      replace p127 := eq_true p127
      replace q127 := eq_true q127
      go_wp2
      go_roundg k1
      case measure => have := HK1.out; omega
      case rel => exact ⟨(ji5), (wrap64 (x8_1 + 1)), (by first | rfl | (simp; done) | (simp only [← hji5] <;> (first | rfl | simp)) | (simp [*]; done)), fib_, H', ⟨by have := HK1.out; omega⟩, ⟨blw_ HB.out⟩⟩
     ·rw [if_neg c4] at H
      exact absurd H (by simp)
    ·rw [if_neg c3] at H
     exact absurd H (by simp)
   ·rw [if_neg c2] at H
    have c2b0 : decide (x8_1 < (l0.length : Int)) = false := decide_eq_false c2
    clear c2
    obtain rfl := Option.some.inj H
    go_wp2
    go_ret
    exact ⟨fia_, blw_ HB.out⟩

/-! ### arena_measure_arena_deeper: function 32 -/
mutual
def arena_measure_arena_deeper.l0 : Nat → List Int → List (S41) → Int → Int → List (S41) → List (List (S55)) → Int → Option (Int)
 | 0, _, _, _, _, _, _, _ => none
 | k + 1, x5, x16, x17, x18, x129000, x129001, x129002 => if x18 < x17 then (if 0 ≤ x18 then (if x18 < (x16.length : Int) then (if ((rd_T41 x16 x18).f0) = 3 then (arena_measure_arena_deeper.j1 k x5 x18 x16 x17 x18 ((rd_T41 x16 x18).f0) (((rd_T41 x16 x18).f0) == 3) x129000 x129001 x129002 ((rd_T41 x16 x18).f0) ((rd_T41 x16 x18).f1) ((rd_T41 x16 x18).f2) ((rd_T41 x16 x18).f3) ((rd_T41 x16 x18).f4) ((rd_T41 x16 x18).f5)) else (arena_measure_arena_deeper.j1 k x5 x18 x16 x17 x18 ((rd_T41 x16 x18).f0) (((rd_T41 x16 x18).f0) == 4) x129000 x129001 x129002 ((rd_T41 x16 x18).f0) ((rd_T41 x16 x18).f1) ((rd_T41 x16 x18).f2) ((rd_T41 x16 x18).f3) ((rd_T41 x16 x18).f4) ((rd_T41 x16 x18).f5))) else (none)) else (none)) else (if 0 ≤ x129002 then (if x129002 < (x5.length : Int) then (some (rd x5 x129002)) else (none)) else (none))
def arena_measure_arena_deeper.j1 : Nat → List Int → Int → List (S41) → Int → Int → Int → Bool → List (S41) → List (List (S55)) → Int → Int → Int → Int → Int → Int → Int → Option (Int)
 | 0, _, _, _, _, _, _, _, _, _, _, _, _, _, _, _, _ => none
 | k + 1, x5, x6, x16, x17, x18, x24, x30, x129000, x129001, x129002, x136000, x136001, x136002, x136003, x136004, x136005 => if x30 = true then (if 0 ≤ x136001 then (if x136001 < (x5.length : Int) then (if 0 ≤ x136002 then (if x136002 < (x5.length : Int) then ((arena_deeper.f k (([rd x5 x136001, rd x5 x136002] : List Int))).bind fun t141 => (if 0 ≤ x6 then (if x6 < (x5.length : Int) then (arena_measure_arena_deeper.l0 k (x5.set (x6 : Int).toNat t141) x16 x17 (wrap64 (x18 + 1)) x129000 x129001 x129002) else (none)) else (none))) else (none)) else (none)) else (none)) else (none)) else (if x24 = 5 then (if 0 ≤ x136001 then (if x136001 < (x5.length : Int) then ((arena_deeper.f k (([rd x5 x136001] : List Int))).bind fun t147 => (if 0 ≤ x6 then (if x6 < (x5.length : Int) then (arena_measure_arena_deeper.l0 k (x5.set (x6 : Int).toNat t147) x16 x17 (wrap64 (x18 + 1)) x129000 x129001 x129002) else (none)) else (none))) else (none)) else (none)) else ((arena_deeper.f k ([] : List Int)).bind fun t149 => (if 0 ≤ x6 then (if x6 < (x5.length : Int) then (arena_measure_arena_deeper.l0 k (x5.set (x6 : Int).toNat t149) x16 x17 (wrap64 (x18 + 1)) x129000 x129001 x129002) else (none)) else (none))))
end
def arena_measure_arena_deeper.f (k : Nat) (l0_0 : List (S41)) (l0_1 : List (List (S55))) (a0_2 : Int)  : Option (Int) := (arena_Check.f k l0_0 l0_1 a0_2).bind fun t129 => (if t129 = 0 then (if 0 ≤ (l0_0.length : Int) then (if ((l0_0.length : Int) : Int).toNat ≤ 35184372088832 then (arena_measure_arena_deeper.l0 k (List.replicate ((l0_0.length : Int) : Int).toNat 0) l0_0 (l0_0.length : Int) 0 l0_0 l0_1 a0_2) else (none)) else (none)) else (some 0))
def arena_measure_arena_deeper.T11 : Bool × List (List Nat × List Nat) := (true, [([], []), ([], []), ([], []), ([], []), ([], []), ([4], [4]), ([3, 5], [3, 5]), ([6], [6]), ([], []), ([], []), ([9], [9]), ([8, 10], [8, 10]), ([11], [11]), ([7, 12], [7, 12]), ([2, 13], [2, 13]), ([0, 1, 0, 1, 2, 3, 4, 5, 6, 7, 8, 9, 10, 11, 12, 13, 14], [0, 1]), ([15, 14, 14, 0, 1, 2, 3, 4, 5, 6, 7, 8, 9, 10, 11, 12, 13, 14], [14, 15])])
def arena_measure_arena_deeper.B11 : List Nat := [0, 0, 0, 0, 0, 16, 56, 120, 0, 0, 512, 1792, 3840, 8184, 16380, 32767, 65535]
theorem arena_measure_arena_deeper.tab11 : rtab .any (opsOf Try.f32 11) = arena_measure_arena_deeper.T11 := by kernel_rfl
theorem arena_measure_arena_deeper.bits11 : waitsOk arena_measure_arena_deeper.T11.2 arena_measure_arena_deeper.B11 = true := by kernel_rfl
set_option maxHeartbeats 8000000 in
set_option maxRecDepth 100000 in
theorem arena_measure_arena_deeper.calls (k : Nat) (A0_0 : Option Addr) (c0_0 : Nat) (l0_0 : List (S41)) (A0_1 : Option Addr) (c0_1 : Nat) (l0_1 : List (List (S55))) (a0_2 : Int)  (r : Int) (w : World) (hr0_0 : Kd.C k41 w A0_0 l0_0.length l0_0) (hc0_0 : l0_0.length ≤ c0_0) (hr0_1 : Kd.C (Kd.slice 55 k55) w A0_1 l0_1.length l0_1) (hc0_1 : l0_1.length ≤ c0_1) (h : arena_measure_arena_deeper.f k l0_0 l0_1 a0_2 = some r) :
  Calls Try.prog 32 #[.agg #[.slice A0_0 l0_0.length c0_0, .slice A0_1 l0_1.length c0_1, .int .i64 a0_2], .func (.func 33) #[] #[]] w fun e w' => e = .returned (.int .i64 r) ∧ Below w.heap.size w w' := by
 have hu25 := Try.underlying25
 have hu41 := Try.underlying41
 have HR0_0 := Aside0.mk hr0_0
 have HC0_0 := Aside0.mk hc0_0
 clear hr0_0 hc0_0
 have HR0_1 := Aside0.mk hr0_1
 have HC0_1 := Aside0.mk hc0_1
 clear hr0_1 hc0_1
 have HB := Aside0.mk (Below.refl w.heap.size w)
 have H : ((arena_Check.f k l0_0 l0_1 a0_2).bind fun t129 => (if t129 = 0 then (if 0 ≤ (l0_0.length : Int) then (if ((l0_0.length : Int) : Int).toNat ≤ 35184372088832 then (arena_measure_arena_deeper.l0 k (List.replicate ((l0_0.length : Int) : Int).toNat 0) l0_0 (l0_0.length : Int) 0 l0_0 l0_1 a0_2) else (none)) else (none)) else (some 0))) = some r := h
 clear h
 replace H := Option.bind_eq_some_iff.mp H
 obtain ⟨t129, A30, H⟩ := H
 replace H : (if t129 = 0 then (if 0 ≤ (l0_0.length : Int) then (if ((l0_0.length : Int) : Int).toNat ≤ 35184372088832 then (arena_measure_arena_deeper.l0 k (List.replicate ((l0_0.length : Int) : Int).toNat 0) l0_0 (l0_0.length : Int) 0 l0_0 l0_1 a0_2) else (none)) else (none)) else (some 0)) = some r := H
 have A3 := Aside0.mk A30
 clear A30
 by_cases c4 : t129 = 0
 ·rw [if_pos c4] at H
  have c4b0 : (t129 == 0) = true := beq_iff_eq.mpr c4
  have c4b1 : (t129 != 0) = false := bne_eq_false_iff_eq.mpr c4
  clear c4
  by_cases c5 : 0 ≤ (l0_0.length : Int)
  ·rw [if_pos c5] at H
   have c5b0 := eq_true c5
   have c5b1 : decide (0 ≤ (l0_0.length : Int)) = true := decide_eq_true c5
   clear c5
   by_cases c6 : ((l0_0.length : Int) : Int).toNat ≤ 35184372088832
   ·rw [if_pos c6] at H
    have c6b0 := eq_true c6
    have c6b1 : decide (((l0_0.length : Int) : Int).toNat ≤ 35184372088832) = true := decide_eq_true c6
    clear c6
    obtain ⟨y130, hy130⟩ : ∃ y_ : List Int, y_ = (List.replicate ((l0_0.length : Int) : Int).toNat 0) := ⟨_, rfl⟩
    replace H : (arena_measure_arena_deeper.l0 k y130 l0_0 (l0_0.length : Int) 0 l0_0 l0_1 a0_2) = some r := by first | (rw [hy130]; with_reducible exact H) | (have H2_ := (Option.bind_some _ _).symm.trans H; rw [hy130]; with_reducible exact H2_) | (have H2_ := (Option.bind_some _ _).symm.trans H; with_reducible exact H2_) | with_reducible exact H | (rw [hy130]; exact H) | exact H
    have Ny130 := Aside0.mk hy130
    clear hy130
    have H' := Aside0.mk H
    clear H
    go_enter Try.func32, Try.ntmps32
    go_wp2_with (first | ((with_reducible refine gate_dst (N := 2) rfl ?_); refine box_event ?hg (N := 2) ?hd (cs := #[.slice A0_0 l0_0.length c0_0, .slice A0_1 l0_1.length c0_1, .int .i64 a0_2]) (t := 25) ?hr ?_; (case hd => rfl); (case hg => rfl); (case hr => first | (go_simp; done) | (go_simp; rfl)); intro gb128 hg w7 hbox hb; have n0_ := Aside0.mk (below_step (blw_ HB.out) hb); have n1_ := Aside0.mk (hbox); have n2_ := Aside0.mk ((by rw [hg]; exact (below_size (blw_ HB.out)) : w.heap.size ≤ gb128)); have n3_ := Aside0.mk ((by rw [hg]; exact (below_size (blw_ HB.out)) : w.heap.size ≤ gb128)); clear HB; have HB := n0_; have BK128 := n1_; have GW128 := n2_; have GE128 := n3_; clear n0_ n1_ n2_ n3_; clear hb hbox hg; have hcz8_0 : w7.cell? ⟨gb128, 0, none⟩ = some (.slice A0_0 l0_0.length c0_0) := (blk_cell BK128.out 0).trans rfl; have hcz8_1 : w7.cell? ⟨gb128, 1, none⟩ = some (.slice A0_1 l0_1.length c0_1) := (blk_cell BK128.out 1).trans rfl; have hcz8_2 : w7.cell? ⟨gb128, 2, none⟩ = some (.int .i64 a0_2) := (blk_cell BK128.out 2).trans rfl; have hfz8_0 := blk_frozen BK128.out 0; have hfz8_1 := blk_frozen BK128.out 1; have hfz8_2 := blk_frozen BK128.out 2) | ((with_reducible refine gate_callee (f := 9) rfl ?_); refine goesL_ (some 9) rfl rfl Try.func9 (by kernel_rfl) rfl #[.agg #[.slice A0_0 l0_0.length c0_0, .slice A0_1 l0_1.length c0_1, .int .i64 a0_2]] rfl lma_ ?_; (with_reducible refine (arena_Check.calls k _ _ l0_0 _ _ l0_1 a0_2 t129 _ ?side1 ?side2 ?side3 ?side4 A3.out).mono ?_); (case side1 => repeat (first | exact (Kd.C_below HR0_0.out HB.out) | (with_reducible refine Kd.C_alloc ?_ _) | (with_reducible refine Kd.C_drewN ?_ _) | (with_reducible refine Kd.C_drew ?_))); (case side2 => exact HC0_0.out); (case side3 => repeat (first | exact (Kd.C_below HR0_1.out HB.out) | (with_reducible refine Kd.C_alloc ?_ _) | (with_reducible refine Kd.C_drewN ?_ _) | (with_reducible refine Kd.C_drew ?_))); (case side4 => exact HC0_1.out); rintro e w9 ⟨rfl, hb⟩; refine ⟨_, rfl, ?_⟩; have n0_ := Aside0.mk (blk_below (g := gb128) (o := .cells #[.slice A0_0 l0_0.length c0_0, .slice A0_1 l0_1.length c0_1, .int .i64 a0_2] 25 (0, 0)) (by exact bkw_ BK128.out) hb); have n1_ := Aside0.mk (below_step (blg_ HB.out GE128.out) hb); clear BK128; clear HB; have BK128 := n0_; have HB := n1_; clear n0_ n1_; (try clear hb); (try clear hb2); (try clear hk); (try clear hi); have hcz10_0 : w9.cell? ⟨gb128, 0, none⟩ = some (.slice A0_0 l0_0.length c0_0) := (blk_cell BK128.out 0).trans rfl; have hcz10_1 : w9.cell? ⟨gb128, 1, none⟩ = some (.slice A0_1 l0_1.length c0_1) := (blk_cell BK128.out 1).trans rfl; have hcz10_2 : w9.cell? ⟨gb128, 2, none⟩ = some (.int .i64 a0_2) := (blk_cell BK128.out 2).trans rfl; have hfz10_0 := blk_frozen BK128.out 0; have hfz10_1 := blk_frozen BK128.out 1; have hfz10_2 := blk_frozen BK128.out 2) | ((with_reducible refine gate_dst (N := 14) rfl ?_); refine Kd.R_make (Kd.int .i64) _ 3 rfl (N := 14) rfl 53 _ _ rfl (l0_0.length : Int) rfl rfl Try.underlying53 (.int .i64 0) 8 info3 rfl (by decide) (by omega) 0 (ok := fun _ => True) (okp := fun _ => True) rfl (fun _ hk => hk) trivial (of_decide_eq_true asa_) (Nat.le_trans (Nat.mul_le_mul_right _ (of_decide_eq_true asa_ : (l0_0.length : Int).toNat ≤ 35184372088832)) (by omega)) (Below.refl _ _) (Nat.le_refl _) ?_; intro v131 w11 ho12 hb hg_ hnew_; clear hg_ hnew_; (first | rw [← Ny130.out] at ho12 | (simp only [Int.reduceToNat] at ho12; rw [← Ny130.out] at ho12)); have n0_ := Aside0.mk (Kd.R_lower ho12 (below_size (blg_ HB.out GE128.out))); have n1_ := Aside0.mk (blk_below (g := gb128) (o := .cells #[.slice A0_0 l0_0.length c0_0, .slice A0_1 l0_1.length c0_1, .int .i64 a0_2] 25 (0, 0)) (by exact bkw_ BK128.out) hb); have n2_ := Aside0.mk (below_step (blg_ HB.out GE128.out) hb); clear BK128; clear HB; have HO132 := n0_; have BK128 := n1_; have HB := n2_; clear n0_ n1_ n2_; clear hb ho12; have hcz13_0 : w11.cell? ⟨gb128, 0, none⟩ = some (.slice A0_0 l0_0.length c0_0) := (blk_cell BK128.out 0).trans rfl; have hcz13_1 : w11.cell? ⟨gb128, 1, none⟩ = some (.slice A0_1 l0_1.length c0_1) := (blk_cell BK128.out 1).trans rfl; have hcz13_2 : w11.cell? ⟨gb128, 2, none⟩ = some (.int .i64 a0_2) := (blk_cell BK128.out 2).trans rfl; have hfz13_0 := blk_frozen BK128.out 0; have hfz13_1 := blk_frozen BK128.out 1; have hfz13_2 := blk_frozen BK128.out 2))
    go_loopg [18] k (fun kq v18 w' => ∃ (x5_1 : List Int) (x18_1 : Int), v18 = .int .i64 x18_1 ∧ Aside0 (arena_measure_arena_deeper.l0 kq x5_1 l0_0 (l0_0.length : Int) x18_1 l0_0 l0_1 a0_2 = some r) ∧ Aside0 (kq ≤ k) ∧ Aside0 (Kd.R (Kd.int .i64) 3 w' w.heap.size (fun _ => True) v131 x5_1) ∧ Aside0 (w'.heap[gb128]? = some (.cells #[(.slice A0_0 l0_0.length c0_0), (.slice A0_1 l0_1.length c0_1), .int .i64 a0_2] 25 (0, 0))) ∧ Aside0 (Below w.heap.size w w'))
    case atStart => exact ⟨(y130), (0), fib_, H', ⟨Nat.le_refl _⟩, ⟨by (with_reducible repeat (first | apply Kd.R_alloc | apply Kd.R_drewN | apply Kd.R_drew)); exact HO132.out⟩, ⟨by exact bkw_ BK128.out⟩, ⟨blg_ HB.out GE128.out⟩⟩
    case round =>
     clear H'
     try clear p2
     try clear c4
     try clear c4b0
     try clear c4b1
     try clear c5
     try clear c5b0
     try clear c5b1
     try clear c6
     try clear c6b0
     try clear c6b1
     try clear c9
     try clear hcz10_0
     try clear hcz10_1
     try clear hcz10_2
     try clear hcz13_0
     try clear hcz13_1
     try clear hcz13_2
     try clear hcz8_0
     try clear hcz8_1
     try clear hcz8_2
     try clear hfz10_0
     try clear hfz10_1
     try clear hfz10_2
     try clear hfz13_0
     try clear hfz13_1
     try clear hfz13_2
     try clear hfz8_0
     try clear hfz8_1
     try clear hfz8_2
     obtain ⟨x5_1, x18_1, rfl, HA, HK1, HO_5, BK128, HB⟩ := hrel
     cases gk with
     | zero => exact absurd HA.out (by simp [arena_measure_arena_deeper.l0])
     | succ k1 =>
      have H := HA.out
      clear HA
      simp only [arena_measure_arena_deeper.l0] at H
      by_cases c14 : x18_1 < (l0_0.length : Int)
      ·rw [if_pos c14] at H
       have c14b0 : decide (x18_1 < (l0_0.length : Int)) = true := decide_eq_true c14
       clear c14
       by_cases c15 : 0 ≤ x18_1
       ·rw [if_pos c15] at H
        have c15b0 : decide (0 ≤ x18_1) = true := decide_eq_true c15
        clear c15
        by_cases c16 : x18_1 < (l0_0.length : Int)
        ·rw [if_pos c16] at H
         have c16b0 : decide (x18_1 < (l0_0.length : Int)) = true := decide_eq_true c16
         clear c16
         have HC17 := Aside0.mk H
         clear H
         have p134 : 0 ≤ (x18_1 : Int) := of_decide_eq_true asa_
         have q134 : x18_1 < (l0_0.length : Int) := of_decide_eq_true asa_
         obtain ⟨ad134, e134, hx134_0, hx134_1, hx134_2, hx134_3, hx134_4, hx134_5⟩ := at_T41 HR0_0.out x18_1 p134 q134
         cases e134
         replace hx134_0 := (HB.out.cell (World.block_lt_of_cell? w _ hx134_0)).trans hx134_0
         replace hx134_1 := (HB.out.cell (World.block_lt_of_cell? w _ hx134_1)).trans hx134_1
         replace hx134_2 := (HB.out.cell (World.block_lt_of_cell? w _ hx134_2)).trans hx134_2
         replace hx134_3 := (HB.out.cell (World.block_lt_of_cell? w _ hx134_3)).trans hx134_3
         replace hx134_4 := (HB.out.cell (World.block_lt_of_cell? w _ hx134_4)).trans hx134_4
         replace hx134_5 := (HB.out.cell (World.block_lt_of_cell? w _ hx134_5)).trans hx134_5
         replace p134 := eq_true p134
         replace q134 := eq_true q134
         go_upto_if 30 with (first | ((with_reducible refine gate_dst (N := 7) rfl ?_); refine box_event ?hg (N := 7) ?hd (cs := #[.int .i64 0, .int .i64 0, .int .i64 0, .int .i64 0, .int .i64 0, .int .i64 0]) (t := 41) ?hr ?_; (case hd => rfl); (case hg => rfl); (case hr => first | (go_simp; done) | (go_simp; rfl)); intro gb135 hg w18 hbox hb; have n0_ := Aside0.mk (Kd.R_below (by (with_reducible repeat (first | apply Kd.R_alloc | apply Kd.R_drewN | apply Kd.R_drew)); exact HO_5.out) hb); have n1_ := Aside0.mk (blk_below (g := gb128) (o := .cells #[.slice (some ad134) l0_0.length c0_0, .slice A0_1 l0_1.length c0_1, .int .i64 a0_2] 25 (0, 0)) (by exact bkw_ BK128.out) hb); have n2_ := Aside0.mk (below_step (blg_ HB.out GE128.out) hb); have n3_ := Aside0.mk (hbox); have n4_ := Aside0.mk ((by rw [hg]; exact (below_size (blg_ HB.out GE128.out)) : w.heap.size ≤ gb135)); have n5_ := Aside0.mk ((by rw [hg]; exact (below_size (blg_ HB.out GE128.out)) : w.heap.size ≤ gb135)); have n6_ := Aside0.mk ((by rw [hg]; exact Nat.ne_of_lt (blk_lt (g := gb128) (o := .cells #[.slice (some ad134) l0_0.length c0_0, .slice A0_1 l0_1.length c0_1, .int .i64 a0_2] 25 (0, 0)) (by exact bkw_ BK128.out)) : gb128 ≠ gb135)); have n7_ := Aside0.mk ((by rw [hg]; exact Nat.ne_of_gt (blk_lt (g := gb128) (o := .cells #[.slice (some ad134) l0_0.length c0_0, .slice A0_1 l0_1.length c0_1, .int .i64 a0_2] 25 (0, 0)) (by exact bkw_ BK128.out)) : gb135 ≠ gb128)); clear HO_5; clear BK128; clear HB; have HO_5 := n0_; have BK128 := n1_; have HB := n2_; have BK135 := n3_; have GW135 := n4_; have GE135 := n5_; have NB128_135 := n6_; have NB135_128 := n7_; clear n0_ n1_ n2_ n3_ n4_ n5_ n6_ n7_; clear hb hbox hg; have hnb19 := NB135_128.out; have hnc19 := NB128_135.out; have hcz20_0 : w18.cell? ⟨gb135, 0, none⟩ = some (.int .i64 0) := (blk_cell BK135.out 0).trans rfl; have hcz20_1 : w18.cell? ⟨gb135, 1, none⟩ = some (.int .i64 0) := (blk_cell BK135.out 1).trans rfl; have hcz20_2 : w18.cell? ⟨gb135, 2, none⟩ = some (.int .i64 0) := (blk_cell BK135.out 2).trans rfl; have hcz20_3 : w18.cell? ⟨gb135, 3, none⟩ = some (.int .i64 0) := (blk_cell BK135.out 3).trans rfl; have hcz20_4 : w18.cell? ⟨gb135, 4, none⟩ = some (.int .i64 0) := (blk_cell BK135.out 4).trans rfl; have hcz20_5 : w18.cell? ⟨gb135, 5, none⟩ = some (.int .i64 0) := (blk_cell BK135.out 5).trans rfl; have hfz20_0 := blk_frozen BK135.out 0; have hfz20_1 := blk_frozen BK135.out 1; have hfz20_2 := blk_frozen BK135.out 2; have hfz20_3 := blk_frozen BK135.out 3; have hfz20_4 := blk_frozen BK135.out 4; have hfz20_5 := blk_frozen BK135.out 5))
         (try simp only [Act.put, List.setIfInBounds_toArray, List.set_cons_zero, List.set_cons_succ])
         go_cut [30] (fun v30 wc => ∃ (kq : Nat) (x30_16 : Bool), v30 = .bool x30_16 ∧ Aside0 (arena_measure_arena_deeper.j1 kq x5_1 x18_1 l0_0 (l0_0.length : Int) x18_1 ((rd_T41 l0_0 x18_1).f0) x30_16 l0_0 l0_1 a0_2 ((rd_T41 l0_0 x18_1).f0) ((rd_T41 l0_0 x18_1).f1) ((rd_T41 l0_0 x18_1).f2) ((rd_T41 l0_0 x18_1).f3) ((rd_T41 l0_0 x18_1).f4) ((rd_T41 l0_0 x18_1).f5) = some r) ∧ Aside0 (kq ≤ k1) ∧ Aside0 (Kd.R (Kd.int .i64) 3 wc w.heap.size (fun _ => True) v131 x5_1) ∧ Aside0 (wc.heap[gb128]? = some (.cells #[(.slice (some ad134) l0_0.length c0_0), (.slice A0_1 l0_1.length c0_1), .int .i64 a0_2] 25 (0, 0))) ∧ Aside0 (wc.heap[gb135]? = some (.cells #[.int .i64 ((rd_T41 l0_0 x18_1).f0), .int .i64 ((rd_T41 l0_0 x18_1).f1), .int .i64 ((rd_T41 l0_0 x18_1).f2), .int .i64 ((rd_T41 l0_0 x18_1).f3), .int .i64 ((rd_T41 l0_0 x18_1).f4), .int .i64 ((rd_T41 l0_0 x18_1).f5)] 41 (0, 0))) ∧ Aside0 (Below w.heap.size w wc))
         case first =>
          have H := HC17.out
          clear HC17
          by_cases c21 : ((rd_T41 l0_0 x18_1).f0) = 3
          ·rw [if_pos c21] at H
           have c21b0 : (((rd_T41 l0_0 x18_1).f0) == 3) = true := beq_iff_eq.mpr c21
           have c21b1 : (((rd_T41 l0_0 x18_1).f0) != 3) = false := bne_eq_false_iff_eq.mpr c21
           clear c21
           (first | rw [c21b0] | (simp only [i64_w, i32_w]; rw [c21b0]) | skip)
           have H' := Aside0.mk H
           clear H
           go_wp2
           go_meet
           case rel => exact ⟨_, ((((rd_T41 l0_0 x18_1).f0) == 3)), fib_, H', ⟨by have := HK1.out; first | omega | exact Nat.le_refl _⟩, ⟨by (with_reducible repeat (first | apply Kd.R_alloc | apply Kd.R_drewN | apply Kd.R_drew)); exact Kd.R_mono (Kd.R_far (p := ⟨gb135, 5, none⟩) (Kd.R_far (p := ⟨gb135, 4, none⟩) (Kd.R_far (p := ⟨gb135, 3, none⟩) (Kd.R_far (p := ⟨gb135, 2, none⟩) (Kd.R_far (p := ⟨gb135, 1, none⟩) (Kd.R_far (p := ⟨gb135, 0, none⟩) (Kd.R_types HO_5.out BK135.out (by decide)) (fun _ hk => hk.2) (.int .i64 ((rd_T41 l0_0 x18_1).f0))) (fun _ hk => hk.2) (.int .i64 ((rd_T41 l0_0 x18_1).f1))) (fun _ hk => hk.2) (.int .i64 ((rd_T41 l0_0 x18_1).f2))) (fun _ hk => hk.2) (.int .i64 ((rd_T41 l0_0 x18_1).f3))) (fun _ hk => hk.2) (.int .i64 ((rd_T41 l0_0 x18_1).f4))) (fun _ hk => hk.2) (.int .i64 ((rd_T41 l0_0 x18_1).f5))) (fun _ hk => trivial)⟩, ⟨by (with_reducible repeat (first | refine blk_drewN ?_ _ | refine blk_drew ?_ | refine blk_alloc ?_ _)); refine blk_far ?_ NB128_135.out _; (with_reducible repeat (first | refine blk_drewN ?_ _ | refine blk_drew ?_ | refine blk_alloc ?_ _)); refine blk_far ?_ NB128_135.out _; (with_reducible repeat (first | refine blk_drewN ?_ _ | refine blk_drew ?_ | refine blk_alloc ?_ _)); refine blk_far ?_ NB128_135.out _; (with_reducible repeat (first | refine blk_drewN ?_ _ | refine blk_drew ?_ | refine blk_alloc ?_ _)); refine blk_far ?_ NB128_135.out _; (with_reducible repeat (first | refine blk_drewN ?_ _ | refine blk_drew ?_ | refine blk_alloc ?_ _)); refine blk_far ?_ NB128_135.out _; (with_reducible repeat (first | refine blk_drewN ?_ _ | refine blk_drew ?_ | refine blk_alloc ?_ _)); refine blk_far ?_ NB128_135.out _; exact bkw_ BK128.out⟩, ⟨by (with_reducible repeat (first | refine blk_drewN ?_ _ | refine blk_drew ?_ | refine blk_alloc ?_ _)); refine blk_put (cs := #[.int .i64 ((rd_T41 l0_0 x18_1).f0), .int .i64 ((rd_T41 l0_0 x18_1).f1), .int .i64 ((rd_T41 l0_0 x18_1).f2), .int .i64 ((rd_T41 l0_0 x18_1).f3), .int .i64 ((rd_T41 l0_0 x18_1).f4), .int .i64 0]) ?_ 5 _ rfl; (with_reducible repeat (first | refine blk_drewN ?_ _ | refine blk_drew ?_ | refine blk_alloc ?_ _)); refine blk_put (cs := #[.int .i64 ((rd_T41 l0_0 x18_1).f0), .int .i64 ((rd_T41 l0_0 x18_1).f1), .int .i64 ((rd_T41 l0_0 x18_1).f2), .int .i64 ((rd_T41 l0_0 x18_1).f3), .int .i64 0, .int .i64 0]) ?_ 4 _ rfl; (with_reducible repeat (first | refine blk_drewN ?_ _ | refine blk_drew ?_ | refine blk_alloc ?_ _)); refine blk_put (cs := #[.int .i64 ((rd_T41 l0_0 x18_1).f0), .int .i64 ((rd_T41 l0_0 x18_1).f1), .int .i64 ((rd_T41 l0_0 x18_1).f2), .int .i64 0, .int .i64 0, .int .i64 0]) ?_ 3 _ rfl; (with_reducible repeat (first | refine blk_drewN ?_ _ | refine blk_drew ?_ | refine blk_alloc ?_ _)); refine blk_put (cs := #[.int .i64 ((rd_T41 l0_0 x18_1).f0), .int .i64 ((rd_T41 l0_0 x18_1).f1), .int .i64 0, .int .i64 0, .int .i64 0, .int .i64 0]) ?_ 2 _ rfl; (with_reducible repeat (first | refine blk_drewN ?_ _ | refine blk_drew ?_ | refine blk_alloc ?_ _)); refine blk_put (cs := #[.int .i64 ((rd_T41 l0_0 x18_1).f0), .int .i64 0, .int .i64 0, .int .i64 0, .int .i64 0, .int .i64 0]) ?_ 1 _ rfl; (with_reducible repeat (first | refine blk_drewN ?_ _ | refine blk_drew ?_ | refine blk_alloc ?_ _)); refine blk_put (cs := #[.int .i64 0, .int .i64 0, .int .i64 0, .int .i64 0, .int .i64 0, .int .i64 0]) ?_ 0 _ rfl; exact bkw_ BK135.out⟩, ⟨bla_ HB.out⟩⟩
          ·rw [if_neg c21] at H
           have c21b0 : (((rd_T41 l0_0 x18_1).f0) == 3) = false := beq_eq_false_iff_ne.mpr c21
           have c21b1 : (((rd_T41 l0_0 x18_1).f0) != 3) = true := bne_iff_ne.mpr c21
           (first | rw [c21b0] | (simp only [i64_w, i32_w]; rw [c21b0]) | skip)
           have H' := Aside0.mk H
           clear H
           go_wp2
           go_meet
           case rel => exact ⟨_, ((((rd_T41 l0_0 x18_1).f0) == 4)), fib_, H', ⟨by have := HK1.out; first | omega | exact Nat.le_refl _⟩, ⟨by (with_reducible repeat (first | apply Kd.R_alloc | apply Kd.R_drewN | apply Kd.R_drew)); exact Kd.R_mono (Kd.R_far (p := ⟨gb135, 5, none⟩) (Kd.R_far (p := ⟨gb135, 4, none⟩) (Kd.R_far (p := ⟨gb135, 3, none⟩) (Kd.R_far (p := ⟨gb135, 2, none⟩) (Kd.R_far (p := ⟨gb135, 1, none⟩) (Kd.R_far (p := ⟨gb135, 0, none⟩) (Kd.R_types HO_5.out BK135.out (by decide)) (fun _ hk => hk.2) (.int .i64 ((rd_T41 l0_0 x18_1).f0))) (fun _ hk => hk.2) (.int .i64 ((rd_T41 l0_0 x18_1).f1))) (fun _ hk => hk.2) (.int .i64 ((rd_T41 l0_0 x18_1).f2))) (fun _ hk => hk.2) (.int .i64 ((rd_T41 l0_0 x18_1).f3))) (fun _ hk => hk.2) (.int .i64 ((rd_T41 l0_0 x18_1).f4))) (fun _ hk => hk.2) (.int .i64 ((rd_T41 l0_0 x18_1).f5))) (fun _ hk => trivial)⟩, ⟨by (with_reducible repeat (first | refine blk_drewN ?_ _ | refine blk_drew ?_ | refine blk_alloc ?_ _)); refine blk_far ?_ NB128_135.out _; (with_reducible repeat (first | refine blk_drewN ?_ _ | refine blk_drew ?_ | refine blk_alloc ?_ _)); refine blk_far ?_ NB128_135.out _; (with_reducible repeat (first | refine blk_drewN ?_ _ | refine blk_drew ?_ | refine blk_alloc ?_ _)); refine blk_far ?_ NB128_135.out _; (with_reducible repeat (first | refine blk_drewN ?_ _ | refine blk_drew ?_ | refine blk_alloc ?_ _)); refine blk_far ?_ NB128_135.out _; (with_reducible repeat (first | refine blk_drewN ?_ _ | refine blk_drew ?_ | refine blk_alloc ?_ _)); refine blk_far ?_ NB128_135.out _; (with_reducible repeat (first | refine blk_drewN ?_ _ | refine blk_drew ?_ | refine blk_alloc ?_ _)); refine blk_far ?_ NB128_135.out _; exact bkw_ BK128.out⟩, ⟨by (with_reducible repeat (first | refine blk_drewN ?_ _ | refine blk_drew ?_ | refine blk_alloc ?_ _)); refine blk_put (cs := #[.int .i64 ((rd_T41 l0_0 x18_1).f0), .int .i64 ((rd_T41 l0_0 x18_1).f1), .int .i64 ((rd_T41 l0_0 x18_1).f2), .int .i64 ((rd_T41 l0_0 x18_1).f3), .int .i64 ((rd_T41 l0_0 x18_1).f4), .int .i64 0]) ?_ 5 _ rfl; (with_reducible repeat (first | refine blk_drewN ?_ _ | refine blk_drew ?_ | refine blk_alloc ?_ _)); refine blk_put (cs := #[.int .i64 ((rd_T41 l0_0 x18_1).f0), .int .i64 ((rd_T41 l0_0 x18_1).f1), .int .i64 ((rd_T41 l0_0 x18_1).f2), .int .i64 ((rd_T41 l0_0 x18_1).f3), .int .i64 0, .int .i64 0]) ?_ 4 _ rfl; (with_reducible repeat (first | refine blk_drewN ?_ _ | refine blk_drew ?_ | refine blk_alloc ?_ _)); refine blk_put (cs := #[.int .i64 ((rd_T41 l0_0 x18_1).f0), .int .i64 ((rd_T41 l0_0 x18_1).f1), .int .i64 ((rd_T41 l0_0 x18_1).f2), .int .i64 0, .int .i64 0, .int .i64 0]) ?_ 3 _ rfl; (with_reducible repeat (first | refine blk_drewN ?_ _ | refine blk_drew ?_ | refine blk_alloc ?_ _)); refine blk_put (cs := #[.int .i64 ((rd_T41 l0_0 x18_1).f0), .int .i64 ((rd_T41 l0_0 x18_1).f1), .int .i64 0, .int .i64 0, .int .i64 0, .int .i64 0]) ?_ 2 _ rfl; (with_reducible repeat (first | refine blk_drewN ?_ _ | refine blk_drew ?_ | refine blk_alloc ?_ _)); refine blk_put (cs := #[.int .i64 ((rd_T41 l0_0 x18_1).f0), .int .i64 0, .int .i64 0, .int .i64 0, .int .i64 0, .int .i64 0]) ?_ 1 _ rfl; (with_reducible repeat (first | refine blk_drewN ?_ _ | refine blk_drew ?_ | refine blk_alloc ?_ _)); refine blk_put (cs := #[.int .i64 0, .int .i64 0, .int .i64 0, .int .i64 0, .int .i64 0, .int .i64 0]) ?_ 0 _ rfl; exact bkw_ BK135.out⟩, ⟨bla_ HB.out⟩⟩
         case rest =>
          clear HC17
          try clear c1
          try clear p1
          try clear q1
          try clear hx1
          try clear c2
          try clear p2
          try clear c4
          try clear c4b0
          try clear c4b1
          try clear c5
          try clear c5b0
          try clear c5b1
          try clear c6
          try clear c6b0
          try clear c6b1
          try clear c9
          try clear p13
          try clear q13
          try clear hx13
          try clear c14
          try clear c14b0
          try clear c15
          try clear c15b0
          try clear c16
          try clear c16b0
          try clear c19
          try clear c21
          try clear c21b0
          try clear c21b1
          try clear hcz10_0
          try clear hcz10_1
          try clear hcz10_2
          try clear hcz13_0
          try clear hcz13_1
          try clear hcz13_2
          try clear hcz20_0
          try clear hcz20_1
          try clear hcz20_2
          try clear hcz20_3
          try clear hcz20_4
          try clear hcz20_5
          try clear hcz8_0
          try clear hcz8_1
          try clear hcz8_2
          try clear hfz10_0
          try clear hfz10_1
          try clear hfz10_2
          try clear hfz13_0
          try clear hfz13_1
          try clear hfz13_2
          try clear hfz20_0
          try clear hfz20_1
          try clear hfz20_2
          try clear hfz20_3
          try clear hfz20_4
          try clear hfz20_5
          try clear hfz8_0
          try clear hfz8_1
          try clear hfz8_2
          try clear hx134_0
          try clear hx134_1
          try clear hx134_2
          try clear hx134_3
          try clear hx134_4
          try clear hx134_5
          try clear p134
          try clear p2
          try clear q134
          obtain ⟨kq, x30_16, rfl, HA, HJ16, HO_5, BK128, BK135, HB⟩ := hcut
          cases kq with
          | zero => exact absurd HA.out (by simp [arena_measure_arena_deeper.j1])
          | succ kj16 =>
           have H := HA.out
           clear HA
           simp only [arena_measure_arena_deeper.j1] at H
           by_cases c22 : x30_16 = true
           ·subst c22
            have H1 : (if 0 ≤ ((rd_T41 l0_0 x18_1).f1) then (if ((rd_T41 l0_0 x18_1).f1) < (x5_1.length : Int) then (if 0 ≤ ((rd_T41 l0_0 x18_1).f2) then (if ((rd_T41 l0_0 x18_1).f2) < (x5_1.length : Int) then ((arena_deeper.f kj16 (([rd x5_1 ((rd_T41 l0_0 x18_1).f1), rd x5_1 ((rd_T41 l0_0 x18_1).f2)] : List Int))).bind fun t141 => (if 0 ≤ x18_1 then (if x18_1 < (x5_1.length : Int) then (arena_measure_arena_deeper.l0 kj16 (x5_1.set (x18_1 : Int).toNat t141) l0_0 (l0_0.length : Int) (wrap64 (x18_1 + 1)) l0_0 l0_1 a0_2) else (none)) else (none))) else (none)) else (none)) else (none)) else (none)) = some r := by rw [if_pos rfl] at H; exact H
            clear H
            have H := H1
            clear H1
            by_cases c23 : 0 ≤ ((rd_T41 l0_0 x18_1).f1)
            ·rw [if_pos c23] at H
             have c23b0 : decide (0 ≤ ((rd_T41 l0_0 x18_1).f1)) = true := decide_eq_true c23
             clear c23
             by_cases c24 : ((rd_T41 l0_0 x18_1).f1) < (x5_1.length : Int)
             ·rw [if_pos c24] at H
              have c24b0 : decide (((rd_T41 l0_0 x18_1).f1) < (x5_1.length : Int)) = true := decide_eq_true c24
              clear c24
              by_cases c25 : 0 ≤ ((rd_T41 l0_0 x18_1).f2)
              ·rw [if_pos c25] at H
               have c25b0 : decide (0 ≤ ((rd_T41 l0_0 x18_1).f2)) = true := decide_eq_true c25
               clear c25
               by_cases c26 : ((rd_T41 l0_0 x18_1).f2) < (x5_1.length : Int)
               ·rw [if_pos c26] at H
                have c26b0 : decide (((rd_T41 l0_0 x18_1).f2) < (x5_1.length : Int)) = true := decide_eq_true c26
                clear c26
                obtain ⟨y138, hy138⟩ : ∃ y_ : List Int, y_ = (([rd x5_1 ((rd_T41 l0_0 x18_1).f1), rd x5_1 ((rd_T41 l0_0 x18_1).f2)] : List Int)) := ⟨_, rfl⟩
                replace H : ((arena_deeper.f kj16 y138).bind fun t141 => (if 0 ≤ x18_1 then (if x18_1 < (x5_1.length : Int) then (arena_measure_arena_deeper.l0 kj16 (x5_1.set (x18_1 : Int).toNat t141) l0_0 (l0_0.length : Int) (wrap64 (x18_1 + 1)) l0_0 l0_1 a0_2) else (none)) else (none))) = some r := by first | (rw [hy138]; with_reducible exact H) | (have H2_ := (Option.bind_some _ _).symm.trans H; rw [hy138]; with_reducible exact H2_) | (have H2_ := (Option.bind_some _ _).symm.trans H; with_reducible exact H2_) | with_reducible exact H | (rw [hy138]; exact H) | exact H
                have Ny138 := Aside0.mk hy138
                clear hy138
                replace H := Option.bind_eq_some_iff.mp H
                obtain ⟨t141, A270, H⟩ := H
                replace H : (if 0 ≤ x18_1 then (if x18_1 < (x5_1.length : Int) then (arena_measure_arena_deeper.l0 kj16 (x5_1.set (x18_1 : Int).toNat t141) l0_0 (l0_0.length : Int) (wrap64 (x18_1 + 1)) l0_0 l0_1 a0_2) else (none)) else (none)) = some r := H
                have A27 := Aside0.mk A270
                clear A270
                by_cases c28 : 0 ≤ x18_1
                ·rw [if_pos c28] at H
                 have c28b0 : decide (0 ≤ x18_1) = true := decide_eq_true c28
                 clear c28
                 by_cases c29 : x18_1 < (x5_1.length : Int)
                 ·rw [if_pos c29] at H
                  have c29b0 : decide (x18_1 < (x5_1.length : Int)) = true := decide_eq_true c29
                  clear c29
                  obtain ⟨y142, hy142⟩ : ∃ y_ : List Int, y_ = (x5_1.set (x18_1 : Int).toNat t141) := ⟨_, rfl⟩
                  replace H : (arena_measure_arena_deeper.l0 kj16 y142 l0_0 (l0_0.length : Int) (wrap64 (x18_1 + 1)) l0_0 l0_1 a0_2) = some r := by first | (rw [hy142]; with_reducible exact H) | (have H2_ := (Option.bind_some _ _).symm.trans H; rw [hy142]; with_reducible exact H2_) | (have H2_ := (Option.bind_some _ _).symm.trans H; with_reducible exact H2_) | with_reducible exact H | (rw [hy142]; exact H) | exact H
                  have Ny142 := Aside0.mk hy142
                  clear hy142
                  have H' := Aside0.mk H
                  clear H
                  try go_wp2
                  have n0_ := Aside0.mk (Kd.R_drew HO_5.out)
                  have n1_ := Aside0.mk (blk_drew BK128.out)
                  have n2_ := Aside0.mk (blk_drew BK135.out)
                  have n3_ := Aside0.mk (below_drew1 HB.out)
                  clear HO_5
                  clear BK128
                  clear BK135
                  clear HB
                  have HO_5 := n0_
                  have BK128 := n1_
                  have BK135 := n2_
                  have HB := n3_
                  clear n0_ n1_ n2_ n3_
                  obtain ⟨Ao32, co32, eo32⟩ := Kd.R_slice HO_5.out
                  (first | subst eo32 | (injection eo32 with f1_ f2_ f3_; have f4_ := f1_.symm; have f5_ := f3_.symm; clear f1_ f2_ f3_; subst f4_; subst f5_))
                  have p136 : 0 ≤ (((rd_T41 l0_0 x18_1).f1) : Int) := of_decide_eq_true asa_
                  have q136 : ((rd_T41 l0_0 x18_1).f1) < (x5_1.length : Int) := of_decide_eq_true asa_
                  obtain ⟨ad136, e136, hx136_0⟩ := Kd.at_int (Kd.R_reads' HO_5.out).2.2 ((rd_T41 l0_0 x18_1).f1) p136 q136
                  cases e136
                  replace p136 := eq_true p136
                  replace q136 := eq_true q136
                  have p137 : 0 ≤ (((rd_T41 l0_0 x18_1).f2) : Int) := of_decide_eq_true asa_
                  have q137 : ((rd_T41 l0_0 x18_1).f2) < (x5_1.length : Int) := of_decide_eq_true asa_
                  obtain ⟨ad137, e137, hx137_0⟩ := Kd.at_int (Kd.R_reads' HO_5.out).2.2 ((rd_T41 l0_0 x18_1).f2) p137 q137
                  obtain rfl : ad136 = ad137 := (by injection e137)
                  replace p137 := eq_true p137
                  replace q137 := eq_true q137
                  refine start_ (n := 17) (S := fun w' => w'.cell? ⟨gb135, 0, none⟩ = some (.int .i64 ((rd_T41 l0_0 x18_1).f0)) ∧ w'.cell? ⟨gb135, 1, none⟩ = some (.int .i64 ((rd_T41 l0_0 x18_1).f1)) ∧ w'.cell? ⟨gb135, 2, none⟩ = some (.int .i64 ((rd_T41 l0_0 x18_1).f2)) ∧ w'.cell? ⟨gb135, 3, none⟩ = some (.int .i64 ((rd_T41 l0_0 x18_1).f3)) ∧ w'.cell? ⟨gb135, 4, none⟩ = some (.int .i64 ((rd_T41 l0_0 x18_1).f4)) ∧ w'.cell? ⟨gb135, 5, none⟩ = some (.int .i64 ((rd_T41 l0_0 x18_1).f5)) ∧ w'.cell? (ad136.add (((rd_T41 l0_0 x18_1).f1)).toNat) = some (.int .i64 (rd x5_1 ((rd_T41 l0_0 x18_1).f1))) ∧ w'.cell? (ad136.add (((rd_T41 l0_0 x18_1).f2)).toNat) = some (.int .i64 (rd x5_1 ((rd_T41 l0_0 x18_1).f2)))) (ds := [16]) #[false, false, false, false, false, false, false, false, false, false, false, false, false, false, false, false, false] (by kernel_rfl) rfl rfl ⟨(blk_cell BK135.out 0).trans rfl, (blk_cell BK135.out 1).trans rfl, (blk_cell BK135.out 2).trans rfl, (blk_cell BK135.out 3).trans rfl, (blk_cell BK135.out 4).trans rfl, (blk_cell BK135.out 5).trans rfl, hx136_0, hx137_0⟩ (fun hHeld => ?_); refine with_tabW arena_measure_arena_deeper.tab11 arena_measure_arena_deeper.bits11 (fun HT_ HW_ => ?_)
                  generalize wc.drew = w31 at HO_5 BK128 BK135 HB hx136_0 hx137_0 hHeld ⊢
                  refine pq_ (i := 0) (n := 33) (bA 17 1) (any_of HT_.out (by kernel_rfl)) ?_
                  refine pq_ (i := 1) (n := 34) (bA 17 3) (any_of HT_.out (by kernel_rfl)) ?_
                  refine pq_ (i := 2) (n := 35) (bA 17 7) (any_of HT_.out (by kernel_rfl)) ?_
                  refine pq_ (i := 3) (n := 36) (bA 17 15) (any_of HT_.out (by kernel_rfl)) ?_
                  refine pq_ (i := 4) (n := 37) (bA 17 31) (any_of HT_.out (by kernel_rfl)) ?_
                  refine pq_ (i := 8) (n := 41) (bA 17 287) (any_of HT_.out (by kernel_rfl)) ?_
                  refine pq_ (i := 9) (n := 42) (bA 17 799) (any_of HT_.out (by kernel_rfl)) ?_
                  refine take_ (i := 5) (N := some 38) (v := ?_) (a' := ?_) (bA 17 831) rfl rfl (take_ofW HT_.out HW_.out (by kernel_rfl)) (fun _ _ _ h => h) (Or.inl ⟨by rfl, ?_⟩) hHeld ?_ ?_
                  rotate_left
                  ·rintro w' ⟨s0, s1, s2, s3, s4, s5, s6, s7⟩
                   go_simp
                   with_reducible rfl
                  rotate_left
                  ·exact nrm_
                  refine pq_ (i := 6) (n := 39) (bA 17 895) (any_of HT_.out (by kernel_rfl)) ?_
                  refine take_ (i := 7) (N := some 40) (v := ?_) (a' := ?_) (bA 17 1023) rfl rfl (take_ofW HT_.out HW_.out (by kernel_rfl)) (fun _ _ _ h => h) (Or.inl ⟨by rfl, ?_⟩) hHeld ?_ ?_
                  rotate_left
                  ·rintro w' ⟨s0, s1, s2, s3, s4, s5, s6, s7⟩
                   go_simp
                   with_reducible rfl
                  rotate_left
                  ·exact nrm_
                  refine take_ (i := 10) (N := some 43) (v := ?_) (a' := ?_) (bA 17 2047) rfl rfl (take_ofW HT_.out HW_.out (by kernel_rfl)) (fun _ _ _ h => h) (Or.inl ⟨by rfl, ?_⟩) hHeld ?_ ?_
                  rotate_left
                  ·rintro w' ⟨s0, s1, s2, s3, s4, s5, s6, s7⟩
                   go_simp
                   with_reducible rfl
                  rotate_left
                  ·exact nrm_
                  refine pq_ (i := 11) (n := 44) (bA 17 4095) (any_of HT_.out (by kernel_rfl)) ?_
                  refine take_ (i := 12) (N := some 45) (v := ?_) (a' := ?_) (bA 17 8191) rfl rfl (take_ofW HT_.out HW_.out (by kernel_rfl)) (fun _ _ _ h => h) (Or.inl ⟨by rfl, ?_⟩) hHeld ?_ ?_
                  rotate_left
                  ·rintro w' ⟨s0, s1, s2, s3, s4, s5, s6, s7⟩
                   go_simp
                   with_reducible rfl
                  rotate_left
                  ·exact nrm_
                  refine one_ (i := 13) (N := some 46) (bA 17 16383) rfl rfl (one_of HT_.out (by kernel_rfl)) (by decide) (fun K hK => ?_)
                  refine Kd.R_lit_step (Kd.int .i64) _ 3 ?hg (N := 46) ?hd (xs := ([rd x5_1 ((rd_T41 l0_0 x18_1).f1), rd x5_1 ((rd_T41 l0_0 x18_1).f2)] : List Int)) (inner := [.int .i64 (rd x5_1 ((rd_T41 l0_0 x18_1).f1)), .int .i64 (rd x5_1 ((rd_T41 l0_0 x18_1).f2))]) (ok := fun _ => True) (okp := fun _ => True) ?hr ?hp (fun _ hk => hk) trivial (Below.refl _ _) (Nat.le_refl _) (by simp) ?_; (case hd => rfl); (case hg => rfl); (case hr => first | (go_simp; done) | (go_simp; rfl)); (case hp => exact (Reps.one (show Kd.M (Kd.int .i64) _ _ _ (rd x5_1 ((rd_T41 l0_0 x18_1).f1)) [.int .i64 (rd x5_1 ((rd_T41 l0_0 x18_1).f1))] from rfl) (Reps.one (show Kd.M (Kd.int .i64) _ _ _ (rd x5_1 ((rd_T41 l0_0 x18_1).f2)) [.int .i64 (rd x5_1 ((rd_T41 l0_0 x18_1).f2))] from rfl) (Reps.none _ _))))
                  intro v139 w33 ho34 hb hg_ hnew_
                  have HS6_ := (hb.cell (World.block_lt_of_cell? _ _ (hHeld.2.2.2.2.2.2.1))).trans (hHeld.2.2.2.2.2.2.1)
                  have HS7_ := (hb.cell (World.block_lt_of_cell? _ _ (hHeld.2.2.2.2.2.2.2))).trans (hHeld.2.2.2.2.2.2.2)
                  clear hg_ hnew_
                  (first | rw [← Ny138.out] at ho34 | (simp only [Int.reduceToNat] at ho34; rw [← Ny138.out] at ho34))
                  have n0_ := Aside0.mk (Kd.R_elder' (by (with_reducible repeat (first | apply Kd.R_alloc | apply Kd.R_drewN | apply Kd.R_drew)); exact HO_5.out) (Kd.R_base ho34) hb)
                  have n1_ := Aside0.mk (Kd.R_lower (Kd.R_new' ho34 (Kd.R_lt (by (with_reducible repeat (first | apply Kd.R_alloc | apply Kd.R_drewN | apply Kd.R_drew)); exact HO_5.out))) (below_size (bla_ HB.out)))
                  have n2_ := Aside0.mk (blk_below (g := gb128) (o := .cells #[.slice (some ad134) l0_0.length c0_0, .slice A0_1 l0_1.length c0_1, .int .i64 a0_2] 25 (0, 0)) (by exact bkw_ BK128.out) hb)
                  have n3_ := Aside0.mk (blk_below (g := gb135) (o := .cells #[.int .i64 ((rd_T41 l0_0 x18_1).f0), .int .i64 ((rd_T41 l0_0 x18_1).f1), .int .i64 ((rd_T41 l0_0 x18_1).f2), .int .i64 ((rd_T41 l0_0 x18_1).f3), .int .i64 ((rd_T41 l0_0 x18_1).f4), .int .i64 ((rd_T41 l0_0 x18_1).f5)] 41 (0, 0)) (by exact bkw_ BK135.out) hb)
                  have n4_ := Aside0.mk (below_step (bla_ HB.out) hb)
                  clear HO_5
                  clear BK128
                  clear BK135
                  clear HB
                  have HO_5 := n0_
                  have HO140 := n1_
                  have BK128 := n2_
                  have BK135 := n3_
                  have HB := n4_
                  clear n0_ n1_ n2_ n3_ n4_
                  clear hb ho34
                  obtain ⟨Ao35, co35, eo35⟩ := Kd.R_slice HO140.out
                  (first | subst eo35 | (injection eo35 with f1_ f2_ f3_; have f4_ := f1_.symm; have f5_ := f3_.symm; clear f1_ f2_ f3_; subst f4_; subst f5_))
                  refine hK.out _ _ ⟨(blk_cell BK135.out 0).trans rfl, (blk_cell BK135.out 1).trans rfl, (blk_cell BK135.out 2).trans rfl, (blk_cell BK135.out 3).trans rfl, (blk_cell BK135.out 4).trans rfl, (blk_cell BK135.out 5).trans rfl, HS6_, HS7_⟩ (fun hHeld => ?_)
                  clear hK K
                  refine norm_ (a' := ?_) ?_ ?_
                  rotate_left
                  ·show Act.put _ (some 46) _ = _
                   exact nrm_
                  refine one_ (i := 14) (N := some 47) (bA 17 32767) rfl rfl (one_of HT_.out (by kernel_rfl)) (by decide) (fun K hK => ?_)
                  refine Go.Proofs.Ytbgoaigbkfibbaa.HandGo.goesV_ Try.func33 (by kernel_rfl) rfl #[.slice Ao35 y138.length co35] (by rfl) rfl rfl (by rfl) lma_ ?_
                  with_reducible refine (arena_deeper.calls kj16 _ _ y138 t141 _ ?side1 ?side2 A27.out).mono ?_
                  (case side1 => repeat (first | exact (Kd.R_reads' HO140.out).2.2 | (with_reducible refine Kd.C_alloc ?_ _) | (with_reducible refine Kd.C_drewN ?_ _) | (with_reducible refine Kd.C_drew ?_)))
                  (case side2 => exact (Kd.R_reads' HO140.out).2.1)
                  rintro e w36 ⟨rfl, hb⟩
                  have HS6_ := (hb.cell (World.block_lt_of_cell? _ _ (hHeld.2.2.2.2.2.2.1))).trans (hHeld.2.2.2.2.2.2.1)
                  have HS7_ := (hb.cell (World.block_lt_of_cell? _ _ (hHeld.2.2.2.2.2.2.2))).trans (hHeld.2.2.2.2.2.2.2)
                  refine ⟨_, rfl, ?_⟩
                  have n0_ := Aside0.mk (Kd.R_below (by (with_reducible repeat (first | apply Kd.R_alloc | apply Kd.R_drewN | apply Kd.R_drew)); exact HO_5.out) hb)
                  have n1_ := Aside0.mk (Kd.R_below (by (with_reducible repeat (first | apply Kd.R_alloc | apply Kd.R_drewN | apply Kd.R_drew)); exact HO140.out) hb)
                  have n2_ := Aside0.mk (blk_below (g := gb128) (o := .cells #[.slice (some ad134) l0_0.length c0_0, .slice A0_1 l0_1.length c0_1, .int .i64 a0_2] 25 (0, 0)) (by exact bkw_ BK128.out) hb)
                  have n3_ := Aside0.mk (blk_below (g := gb135) (o := .cells #[.int .i64 ((rd_T41 l0_0 x18_1).f0), .int .i64 ((rd_T41 l0_0 x18_1).f1), .int .i64 ((rd_T41 l0_0 x18_1).f2), .int .i64 ((rd_T41 l0_0 x18_1).f3), .int .i64 ((rd_T41 l0_0 x18_1).f4), .int .i64 ((rd_T41 l0_0 x18_1).f5)] 41 (0, 0)) (by exact bkw_ BK135.out) hb)
                  have n4_ := Aside0.mk (below_step (bla_ HB.out) hb)
                  clear HO_5
                  clear HO140
                  clear BK128
                  clear BK135
                  clear HB
                  have HO_5 := n0_
                  have HO140 := n1_
                  have BK128 := n2_
                  have BK135 := n3_
                  have HB := n4_
                  clear n0_ n1_ n2_ n3_ n4_
                  (try clear hb)
                  (try clear hb2)
                  (try clear hk)
                  (try clear hi)
                  have p30 : 0 ≤ (x18_1 : Int) := of_decide_eq_true asa_
                  have q30 : (x18_1 : Int) < ((x5_1.length : Int) : Int) := of_decide_eq_true asa_
                  obtain ⟨go30, co30, eo30, gb30, gl30, cl30, HG30⟩ := Kd.R_form HO_5.out (by omega)
                  (first | cases eo30 | (injection eo30 with ea_ en_ ec_; (first | subst ea_ | (injection ea_ with ea_; subst ea_)); subst ec_; clear en_))
                  have GB30 := Aside0.mk gb30
                  have GG30 := Aside0.mk HG30
                  clear gb30 gl30 HG30
                  (first | simp only [add_plain] at hx136_0 | skip)
                  (first | simp only [add_plain] at hx137_0 | skip)
                  obtain ⟨hx30_0, hf30_0⟩ := Kd.R_celln 0 HO_5.out (x18_1 : Int) p30 q30
                  replace p30 := eq_true p30
                  replace q30 := eq_true q30
                  have HP37 := Kd.R_putn HO_5.out (x18_1 : Int) t141
                  rw [← Ny142.out] at HP37
                  have HQ37 := Aside0.mk HP37
                  clear HP37
                  refine hK.out _ _ ⟨(blk_cell BK135.out 0).trans rfl, (blk_cell BK135.out 1).trans rfl, (blk_cell BK135.out 2).trans rfl, (blk_cell BK135.out 3).trans rfl, (blk_cell BK135.out 4).trans rfl, (blk_cell BK135.out 5).trans rfl, HS6_, HS7_⟩ (fun hHeld => ?_)
                  clear hK K
                  refine norm_ (a' := ?_) ?_ ?_
                  rotate_left
                  ·show Act.put _ (some 47) _ = _
                   exact nrm_
                  refine pq_ (i := 15) (n := 48) (bA 17 65535) (any_of HT_.out (by kernel_rfl)) ?_
                  refine last_ (i := 16) (N := none) #[true, true, true, true, true, true, true, true, true, true, true, true, true, true, true, true, true] rfl rfl (one_of HT_.out (by kernel_rfl)) (by decide) (fun K hK => ?_)
                  refine skip_ (w1 := ?_) (by rfl) rfl ?_ ?_
                  rotate_left
                  ·go_simp
                   rfl
                  refine hK.out _ _ ?_
                  clear hK K
                  refine done_ (done_of HT_.out (by kernel_rfl)) ?_
                  try go_wp2
                  go_roundg kj16
                  case measure => have := HK1.out; have := HJ16.out; omega
                  case rel => exact ⟨(y142), (wrap64 (x18_1 + 1)), fib_, H', ⟨by have := HK1.out; have := HJ16.out; omega⟩, ⟨by (with_reducible repeat (first | apply Kd.R_alloc | apply Kd.R_drewN | apply Kd.R_drew)); exact Kd.R_mono HQ37.out (fun _ hk => trivial)⟩, ⟨by (with_reducible repeat (first | refine blk_drewN ?_ _ | refine blk_drew ?_ | refine blk_alloc ?_ _)); refine blk_far ?_ (by have h_ := Kd.R_ne HO_5.out BK128.out (by decide); intro e_; exact h_ (by rw [e_]; rfl)) _; exact bkw_ BK128.out⟩, ⟨bla_ HB.out⟩⟩
                 ·rw [if_neg c29] at H
                  exact absurd H (by simp)
                ·rw [if_neg c28] at H
                 exact absurd H (by simp)
               ·rw [if_neg c26] at H
                exact absurd H (by simp)
              ·rw [if_neg c25] at H
               exact absurd H (by simp)
             ·rw [if_neg c24] at H
              exact absurd H (by simp)
            ·rw [if_neg c23] at H
             exact absurd H (by simp)
           ·replace c22 := Bool.eq_false_iff.mpr c22
            subst c22
            have H1 : (if ((rd_T41 l0_0 x18_1).f0) = 5 then (if 0 ≤ ((rd_T41 l0_0 x18_1).f1) then (if ((rd_T41 l0_0 x18_1).f1) < (x5_1.length : Int) then ((arena_deeper.f kj16 (([rd x5_1 ((rd_T41 l0_0 x18_1).f1)] : List Int))).bind fun t147 => (if 0 ≤ x18_1 then (if x18_1 < (x5_1.length : Int) then (arena_measure_arena_deeper.l0 kj16 (x5_1.set (x18_1 : Int).toNat t147) l0_0 (l0_0.length : Int) (wrap64 (x18_1 + 1)) l0_0 l0_1 a0_2) else (none)) else (none))) else (none)) else (none)) else ((arena_deeper.f kj16 ([] : List Int)).bind fun t149 => (if 0 ≤ x18_1 then (if x18_1 < (x5_1.length : Int) then (arena_measure_arena_deeper.l0 kj16 (x5_1.set (x18_1 : Int).toNat t149) l0_0 (l0_0.length : Int) (wrap64 (x18_1 + 1)) l0_0 l0_1 a0_2) else (none)) else (none)))) = some r := by rw [if_neg (show ¬ (false = true) by decide)] at H; exact H
            clear H
            have H := H1
            clear H1
            by_cases c38 : ((rd_T41 l0_0 x18_1).f0) = 5
            ·rw [if_pos c38] at H
             have c38b0 : (((rd_T41 l0_0 x18_1).f0) == 5) = true := beq_iff_eq.mpr c38
             have c38b1 : (((rd_T41 l0_0 x18_1).f0) != 5) = false := bne_eq_false_iff_eq.mpr c38
             clear c38
             by_cases c39 : 0 ≤ ((rd_T41 l0_0 x18_1).f1)
             ·rw [if_pos c39] at H
              have c39b0 : decide (0 ≤ ((rd_T41 l0_0 x18_1).f1)) = true := decide_eq_true c39
              clear c39
              by_cases c40 : ((rd_T41 l0_0 x18_1).f1) < (x5_1.length : Int)
              ·rw [if_pos c40] at H
               have c40b0 : decide (((rd_T41 l0_0 x18_1).f1) < (x5_1.length : Int)) = true := decide_eq_true c40
               clear c40
               obtain ⟨y144, hy144⟩ : ∃ y_ : List Int, y_ = (([rd x5_1 ((rd_T41 l0_0 x18_1).f1)] : List Int)) := ⟨_, rfl⟩
               replace H : ((arena_deeper.f kj16 y144).bind fun t147 => (if 0 ≤ x18_1 then (if x18_1 < (x5_1.length : Int) then (arena_measure_arena_deeper.l0 kj16 (x5_1.set (x18_1 : Int).toNat t147) l0_0 (l0_0.length : Int) (wrap64 (x18_1 + 1)) l0_0 l0_1 a0_2) else (none)) else (none))) = some r := by first | (rw [hy144]; with_reducible exact H) | (have H2_ := (Option.bind_some _ _).symm.trans H; rw [hy144]; with_reducible exact H2_) | (have H2_ := (Option.bind_some _ _).symm.trans H; with_reducible exact H2_) | with_reducible exact H | (rw [hy144]; exact H) | exact H
               have Ny144 := Aside0.mk hy144
               clear hy144
               replace H := Option.bind_eq_some_iff.mp H
               obtain ⟨t147, A410, H⟩ := H
               replace H : (if 0 ≤ x18_1 then (if x18_1 < (x5_1.length : Int) then (arena_measure_arena_deeper.l0 kj16 (x5_1.set (x18_1 : Int).toNat t147) l0_0 (l0_0.length : Int) (wrap64 (x18_1 + 1)) l0_0 l0_1 a0_2) else (none)) else (none)) = some r := H
               have A41 := Aside0.mk A410
               clear A410
               by_cases c42 : 0 ≤ x18_1
               ·rw [if_pos c42] at H
                have c42b0 : decide (0 ≤ x18_1) = true := decide_eq_true c42
                clear c42
                by_cases c43 : x18_1 < (x5_1.length : Int)
                ·rw [if_pos c43] at H
                 have c43b0 : decide (x18_1 < (x5_1.length : Int)) = true := decide_eq_true c43
                 clear c43
                 obtain ⟨y148, hy148⟩ : ∃ y_ : List Int, y_ = (x5_1.set (x18_1 : Int).toNat t147) := ⟨_, rfl⟩
                 replace H : (arena_measure_arena_deeper.l0 kj16 y148 l0_0 (l0_0.length : Int) (wrap64 (x18_1 + 1)) l0_0 l0_1 a0_2) = some r := by first | (rw [hy148]; with_reducible exact H) | (have H2_ := (Option.bind_some _ _).symm.trans H; rw [hy148]; with_reducible exact H2_) | (have H2_ := (Option.bind_some _ _).symm.trans H; with_reducible exact H2_) | with_reducible exact H | (rw [hy148]; exact H) | exact H
                 have Ny148 := Aside0.mk hy148
                 clear hy148
                 have H' := Aside0.mk H
                 clear H
                 have hnb45 := NB135_128.out
                 have hnc45 := NB128_135.out
                 have hcz46_0 : wc.cell? ⟨gb135, 0, none⟩ = some (.int .i64 ((rd_T41 l0_0 x18_1).f0)) := (blk_cell BK135.out 0).trans rfl
                 have hcz46_1 : wc.cell? ⟨gb135, 1, none⟩ = some (.int .i64 ((rd_T41 l0_0 x18_1).f1)) := (blk_cell BK135.out 1).trans rfl
                 have hcz46_2 : wc.cell? ⟨gb135, 2, none⟩ = some (.int .i64 ((rd_T41 l0_0 x18_1).f2)) := (blk_cell BK135.out 2).trans rfl
                 have hcz46_3 : wc.cell? ⟨gb135, 3, none⟩ = some (.int .i64 ((rd_T41 l0_0 x18_1).f3)) := (blk_cell BK135.out 3).trans rfl
                 have hcz46_4 : wc.cell? ⟨gb135, 4, none⟩ = some (.int .i64 ((rd_T41 l0_0 x18_1).f4)) := (blk_cell BK135.out 4).trans rfl
                 have hcz46_5 : wc.cell? ⟨gb135, 5, none⟩ = some (.int .i64 ((rd_T41 l0_0 x18_1).f5)) := (blk_cell BK135.out 5).trans rfl
                 have hfz46_0 := blk_frozen BK135.out 0
                 have hfz46_1 := blk_frozen BK135.out 1
                 have hfz46_2 := blk_frozen BK135.out 2
                 have hfz46_3 := blk_frozen BK135.out 3
                 have hfz46_4 := blk_frozen BK135.out 4
                 have hfz46_5 := blk_frozen BK135.out 5
                 obtain ⟨Ao47, co47, eo47⟩ := Kd.R_slice HO_5.out
                 subst eo47
                 have p143 : 0 ≤ (((rd_T41 l0_0 x18_1).f1) : Int) := of_decide_eq_true asa_
                 have q143 : ((rd_T41 l0_0 x18_1).f1) < (x5_1.length : Int) := of_decide_eq_true asa_
                 obtain ⟨ad143, e143, hx143_0⟩ := Kd.at_int (Kd.R_reads' HO_5.out).2.2 ((rd_T41 l0_0 x18_1).f1) p143 q143
                 cases e143
                 replace p143 := eq_true p143
                 replace q143 := eq_true q143
                 go_wp2_with (first | ((with_reducible refine gate_dst (N := 59) rfl ?_); refine Kd.R_lit (Kd.int .i64) _ 3 ?hg (N := 59) ?hd (xs := ([rd x5_1 ((rd_T41 l0_0 x18_1).f1)] : List Int)) (inner := [.int .i64 (rd x5_1 ((rd_T41 l0_0 x18_1).f1))]) (ok := fun _ => True) (okp := fun _ => True) ?hr ?hp (fun _ hk => hk) trivial (Below.refl _ _) (Nat.le_refl _) (by simp) ?_; (case hd => rfl); (case hg => rfl); (case hr => first | (go_simp; done) | (go_simp; rfl)); (case hp => exact (Reps.one (show Kd.M (Kd.int .i64) _ _ _ (rd x5_1 ((rd_T41 l0_0 x18_1).f1)) [.int .i64 (rd x5_1 ((rd_T41 l0_0 x18_1).f1))] from rfl) (Reps.none _ _))); intro v145 w48 ho49 hb hg_ hnew_; clear hg_ hnew_; (first | rw [← Ny144.out] at ho49 | (simp only [Int.reduceToNat] at ho49; rw [← Ny144.out] at ho49)); have n0_ := Aside0.mk (Kd.R_elder' (by (with_reducible repeat (first | apply Kd.R_alloc | apply Kd.R_drewN | apply Kd.R_drew)); exact HO_5.out) (Kd.R_base ho49) hb); have n1_ := Aside0.mk (Kd.R_lower (Kd.R_new' ho49 (Kd.R_lt (by (with_reducible repeat (first | apply Kd.R_alloc | apply Kd.R_drewN | apply Kd.R_drew)); exact HO_5.out))) (below_size (bla_ HB.out))); have n2_ := Aside0.mk (blk_below (g := gb128) (o := .cells #[.slice (some ad134) l0_0.length c0_0, .slice A0_1 l0_1.length c0_1, .int .i64 a0_2] 25 (0, 0)) (by exact bkw_ BK128.out) hb); have n3_ := Aside0.mk (blk_below (g := gb135) (o := .cells #[.int .i64 ((rd_T41 l0_0 x18_1).f0), .int .i64 ((rd_T41 l0_0 x18_1).f1), .int .i64 ((rd_T41 l0_0 x18_1).f2), .int .i64 ((rd_T41 l0_0 x18_1).f3), .int .i64 ((rd_T41 l0_0 x18_1).f4), .int .i64 ((rd_T41 l0_0 x18_1).f5)] 41 (0, 0)) (by exact bkw_ BK135.out) hb); have n4_ := Aside0.mk (below_step (bla_ HB.out) hb); clear HO_5; clear BK128; clear BK135; clear HB; have HO_5 := n0_; have HO146 := n1_; have BK128 := n2_; have BK135 := n3_; have HB := n4_; clear n0_ n1_ n2_ n3_ n4_; clear hb ho49; obtain ⟨Ao50, co50, eo50⟩ := Kd.R_slice HO146.out; subst eo50) | (go_at_call 33; (with_reducible refine (arena_deeper.calls kj16 _ _ y144 t147 _ ?side1 ?side2 A41.out).mono ?_); (case side1 => repeat (first | exact (Kd.R_reads' HO146.out).2.2 | (with_reducible refine Kd.C_alloc ?_ _) | (with_reducible refine Kd.C_drewN ?_ _) | (with_reducible refine Kd.C_drew ?_))); (case side2 => exact (Kd.R_reads' HO146.out).2.1); rintro e w51 ⟨rfl, hb⟩; have n0_ := Aside0.mk (Kd.R_below (by (with_reducible repeat (first | apply Kd.R_alloc | apply Kd.R_drewN | apply Kd.R_drew)); exact HO_5.out) hb); have n1_ := Aside0.mk (Kd.R_below (by (with_reducible repeat (first | apply Kd.R_alloc | apply Kd.R_drewN | apply Kd.R_drew)); exact HO146.out) hb); have n2_ := Aside0.mk (blk_below (g := gb128) (o := .cells #[.slice (some ad134) l0_0.length c0_0, .slice A0_1 l0_1.length c0_1, .int .i64 a0_2] 25 (0, 0)) (by exact bkw_ BK128.out) hb); have n3_ := Aside0.mk (blk_below (g := gb135) (o := .cells #[.int .i64 ((rd_T41 l0_0 x18_1).f0), .int .i64 ((rd_T41 l0_0 x18_1).f1), .int .i64 ((rd_T41 l0_0 x18_1).f2), .int .i64 ((rd_T41 l0_0 x18_1).f3), .int .i64 ((rd_T41 l0_0 x18_1).f4), .int .i64 ((rd_T41 l0_0 x18_1).f5)] 41 (0, 0)) (by exact bkw_ BK135.out) hb); have n4_ := Aside0.mk (below_step (bla_ HB.out) hb); clear HO_5; clear HO146; clear BK128; clear BK135; clear HB; have HO_5 := n0_; have HO146 := n1_; have BK128 := n2_; have BK135 := n3_; have HB := n4_; clear n0_ n1_ n2_ n3_ n4_; (try clear hb); (try clear hb2); (try clear hk); (try clear hi); have p44 : 0 ≤ (x18_1 : Int) := of_decide_eq_true asa_; have q44 : (x18_1 : Int) < ((x5_1.length : Int) : Int) := of_decide_eq_true asa_; obtain ⟨go44, co44, eo44, gb44, gl44, cl44, HG44⟩ := Kd.R_form HO_5.out (by omega); (first | cases eo44 | (injection eo44 with ea_ en_ ec_; (first | subst ea_ | (injection ea_ with ea_; subst ea_)); subst ec_; clear en_)); have GB44 := Aside0.mk gb44; have GG44 := Aside0.mk HG44; clear gb44 gl44 HG44; (first | simp only [add_plain] at hx143_0 | skip); obtain ⟨hx44_0, hf44_0⟩ := Kd.R_celln 0 HO_5.out (x18_1 : Int) p44 q44; replace p44 := eq_true p44; replace q44 := eq_true q44; have n_ := Aside0.mk (Kd.R_mono (ok' := (fun k_ => some k_ ≠ (.slice Ao50 y144.length co50 : Value).ownBlock)) HO_5.out (fun k_ hk => hk.2)); clear HO_5; have HO_5 := n_; clear n_; obtain ⟨hy52_, hz52_⟩ := Kd.R_celln 0 HO_5.out (x18_1 : Int) (of_decide_eq_true asa_) (of_decide_eq_true asa_); have HP52 := Kd.R_putg HO_5.out (x18_1 : Int) t147) | ((with_reducible refine gate_store (t := 3) (p := 61) rfl ?_); refine store_event (t := 3) (p := 61) (v := ?vo_w53) (w1 := (w51.setCell ⟨go44, (x18_1 : Int).toNat, none⟩ (.int .i64 t147))) ?hg ?ho ?hn ?hr ?_; (case ho => rfl); (case hg => rfl); (case hn => rfl); (case hr => first | (go_simp; done) | (go_simp; rfl)); intro w53 hw; have hg : w51.grownBy w53 (some go44) := (by rw [hw]; exact HP52.2); have hp_ : Kd.R (Kd.int .i64) 3 w53 w.heap.size (fun k_ => some k_ ≠ (.slice Ao50 y144.length co50 : Value).ownBlock) (.slice (some ⟨go44, 0, none⟩) x5_1.length co47) y148 := (by rw [hw, Ny148.out]; exact HP52.1); clear HP52; have n0_ := Aside0.mk (hp_); have n1_ := Aside0.mk (blk_grown (g := gb128) (o := .cells #[.slice (some ad134) l0_0.length c0_0, .slice A0_1 l0_1.length c0_1, .int .i64 a0_2] 25 (0, 0)) (by exact bkw_ BK128.out) hg (Kd.R_ne HO_5.out BK128.out (by decide))); have n2_ := Aside0.mk (blk_grown (g := gb135) (o := .cells #[.int .i64 ((rd_T41 l0_0 x18_1).f0), .int .i64 ((rd_T41 l0_0 x18_1).f1), .int .i64 ((rd_T41 l0_0 x18_1).f2), .int .i64 ((rd_T41 l0_0 x18_1).f3), .int .i64 ((rd_T41 l0_0 x18_1).f4), .int .i64 ((rd_T41 l0_0 x18_1).f5)] 41 (0, 0)) (by exact bkw_ BK135.out) hg (Kd.R_ne HO_5.out BK135.out (by decide))); have n3_ := Aside0.mk (Kd.R_after (v := (.slice (some ⟨go44, 0, none⟩) x5_1.length co47)) (v1 := (.slice (some ⟨go44, 0, none⟩) x5_1.length co47)) (ok := (fun _ => True)) (by (with_reducible repeat (first | apply Kd.R_alloc | apply Kd.R_drewN | apply Kd.R_drew)); exact HO146.out) hg (.inl rfl)); have n4_ := Aside0.mk ((by rw [hw]; exact below_set (HB.out) GB44.out : Below w.heap.size w w53)); clear HO_5; clear BK128; clear BK135; clear HO146; clear HB; have HO_5 := n0_; have BK128 := n1_; have BK135 := n2_; have HO146 := n3_; have HB := n4_; clear n0_ n1_ n2_ n3_ n4_; clear hg hw hp_))
                 go_roundg kj16
                 case measure => have := HK1.out; have := HJ16.out; omega
                 case rel => exact ⟨(y148), (wrap64 (x18_1 + 1)), fib_, H', ⟨by have := HK1.out; have := HJ16.out; omega⟩, ⟨by (with_reducible repeat (first | apply Kd.R_alloc | apply Kd.R_drewN | apply Kd.R_drew)); exact Kd.R_mono HO_5.out (fun _ hk => trivial)⟩, ⟨by exact bkw_ BK128.out⟩, ⟨bla_ HB.out⟩⟩
                ·rw [if_neg c43] at H
                 exact absurd H (by simp)
               ·rw [if_neg c42] at H
                exact absurd H (by simp)
              ·rw [if_neg c40] at H
               exact absurd H (by simp)
             ·rw [if_neg c39] at H
              exact absurd H (by simp)
            ·rw [if_neg c38] at H
             have c38b0 : (((rd_T41 l0_0 x18_1).f0) == 5) = false := beq_eq_false_iff_ne.mpr c38
             have c38b1 : (((rd_T41 l0_0 x18_1).f0) != 5) = true := bne_iff_ne.mpr c38
             replace H := Option.bind_eq_some_iff.mp H
             obtain ⟨t149, A540, H⟩ := H
             replace H : (if 0 ≤ x18_1 then (if x18_1 < (x5_1.length : Int) then (arena_measure_arena_deeper.l0 kj16 (x5_1.set (x18_1 : Int).toNat t149) l0_0 (l0_0.length : Int) (wrap64 (x18_1 + 1)) l0_0 l0_1 a0_2) else (none)) else (none)) = some r := H
             have A54 := Aside0.mk A540
             clear A540
             by_cases c55 : 0 ≤ x18_1
             ·rw [if_pos c55] at H
              have c55b0 : decide (0 ≤ x18_1) = true := decide_eq_true c55
              clear c55
              by_cases c56 : x18_1 < (x5_1.length : Int)
              ·rw [if_pos c56] at H
               have c56b0 : decide (x18_1 < (x5_1.length : Int)) = true := decide_eq_true c56
               clear c56
               obtain ⟨y150, hy150⟩ : ∃ y_ : List Int, y_ = (x5_1.set (x18_1 : Int).toNat t149) := ⟨_, rfl⟩
               replace H : (arena_measure_arena_deeper.l0 kj16 y150 l0_0 (l0_0.length : Int) (wrap64 (x18_1 + 1)) l0_0 l0_1 a0_2) = some r := by first | (rw [hy150]; with_reducible exact H) | (have H2_ := (Option.bind_some _ _).symm.trans H; rw [hy150]; with_reducible exact H2_) | (have H2_ := (Option.bind_some _ _).symm.trans H; with_reducible exact H2_) | with_reducible exact H | (rw [hy150]; exact H) | exact H
               have Ny150 := Aside0.mk hy150
               clear hy150
               have H' := Aside0.mk H
               clear H
               go_wp2_with (first | (go_at_call 33; (refine (arena_deeper.calls kj16 _ _ ([] : List Int) t149 _ ?side1 ?side2 A54.out).mono ?_); (case side1 => exact Kd.C_nil _ _); (case side2 => exact Nat.le_refl _); rintro e w58 ⟨rfl, hb⟩; have n0_ := Aside0.mk (Kd.R_below (by (with_reducible repeat (first | apply Kd.R_alloc | apply Kd.R_drewN | apply Kd.R_drew)); exact HO_5.out) hb); have n1_ := Aside0.mk (blk_below (g := gb128) (o := .cells #[.slice (some ad134) l0_0.length c0_0, .slice A0_1 l0_1.length c0_1, .int .i64 a0_2] 25 (0, 0)) (by exact bkw_ BK128.out) hb); have n2_ := Aside0.mk (blk_below (g := gb135) (o := .cells #[.int .i64 ((rd_T41 l0_0 x18_1).f0), .int .i64 ((rd_T41 l0_0 x18_1).f1), .int .i64 ((rd_T41 l0_0 x18_1).f2), .int .i64 ((rd_T41 l0_0 x18_1).f3), .int .i64 ((rd_T41 l0_0 x18_1).f4), .int .i64 ((rd_T41 l0_0 x18_1).f5)] 41 (0, 0)) (by exact bkw_ BK135.out) hb); have n3_ := Aside0.mk (below_step (bla_ HB.out) hb); clear HO_5; clear BK128; clear BK135; clear HB; have HO_5 := n0_; have BK128 := n1_; have BK135 := n2_; have HB := n3_; clear n0_ n1_ n2_ n3_; (try clear hb); (try clear hb2); (try clear hk); (try clear hi); have p57 : 0 ≤ (x18_1 : Int) := of_decide_eq_true asa_; have q57 : (x18_1 : Int) < ((x5_1.length : Int) : Int) := of_decide_eq_true asa_; obtain ⟨go57, co57, eo57, gb57, gl57, cl57, HG57⟩ := Kd.R_form HO_5.out (by omega); (first | cases eo57 | (injection eo57 with ea_ en_ ec_; (first | subst ea_ | (injection ea_ with ea_; subst ea_)); subst ec_; clear en_)); have GB57 := Aside0.mk gb57; have GG57 := Aside0.mk HG57; clear gb57 gl57 HG57; obtain ⟨hx57_0, hf57_0⟩ := Kd.R_celln 0 HO_5.out (x18_1 : Int) p57 q57; replace p57 := eq_true p57; replace q57 := eq_true q57; obtain ⟨hy59_, hz59_⟩ := Kd.R_celln 0 HO_5.out (x18_1 : Int) (of_decide_eq_true asa_) (of_decide_eq_true asa_); have HP59 := Kd.R_putg HO_5.out (x18_1 : Int) t149) | ((with_reducible refine gate_store (t := 3) (p := 29) rfl ?_); refine store_event (t := 3) (p := 29) (v := ?vo_w60) (w1 := (w58.setCell ⟨go57, (x18_1 : Int).toNat, none⟩ (.int .i64 t149))) ?hg ?ho ?hn ?hr ?_; (case ho => rfl); (case hg => rfl); (case hn => rfl); (case hr => first | (go_simp; done) | (go_simp; rfl)); intro w60 hw; have hg : w58.grownBy w60 (some go57) := (by rw [hw]; exact HP59.2); have hp_ : Kd.R (Kd.int .i64) 3 w60 w.heap.size (fun _ => True) (.slice (some ⟨go57, 0, none⟩) x5_1.length co57) y150 := (by rw [hw, Ny150.out]; exact HP59.1); clear HP59; have n0_ := Aside0.mk (hp_); have n1_ := Aside0.mk (blk_grown (g := gb128) (o := .cells #[.slice (some ad134) l0_0.length c0_0, .slice A0_1 l0_1.length c0_1, .int .i64 a0_2] 25 (0, 0)) (by exact bkw_ BK128.out) hg (Kd.R_ne HO_5.out BK128.out (by decide))); have n2_ := Aside0.mk (blk_grown (g := gb135) (o := .cells #[.int .i64 ((rd_T41 l0_0 x18_1).f0), .int .i64 ((rd_T41 l0_0 x18_1).f1), .int .i64 ((rd_T41 l0_0 x18_1).f2), .int .i64 ((rd_T41 l0_0 x18_1).f3), .int .i64 ((rd_T41 l0_0 x18_1).f4), .int .i64 ((rd_T41 l0_0 x18_1).f5)] 41 (0, 0)) (by exact bkw_ BK135.out) hg (Kd.R_ne HO_5.out BK135.out (by decide))); have n3_ := Aside0.mk ((by rw [hw]; exact below_set (HB.out) GB57.out : Below w.heap.size w w60)); clear HO_5; clear BK128; clear BK135; clear HB; have HO_5 := n0_; have BK128 := n1_; have BK135 := n2_; have HB := n3_; clear n0_ n1_ n2_ n3_; clear hg hw hp_))
               go_roundg kj16
               case measure => have := HK1.out; have := HJ16.out; omega
               case rel => exact ⟨(y150), (wrap64 (x18_1 + 1)), fib_, H', ⟨by have := HK1.out; have := HJ16.out; omega⟩, ⟨by (with_reducible repeat (first | apply Kd.R_alloc | apply Kd.R_drewN | apply Kd.R_drew)); exact HO_5.out⟩, ⟨by exact bkw_ BK128.out⟩, ⟨bla_ HB.out⟩⟩
              ·rw [if_neg c56] at H
               exact absurd H (by simp)
             ·rw [if_neg c55] at H
              exact absurd H (by simp)
        ·rw [if_neg c16] at H
         exact absurd H (by simp)
       ·rw [if_neg c15] at H
        exact absurd H (by simp)
      ·rw [if_neg c14] at H
       have c14b0 : decide (x18_1 < (l0_0.length : Int)) = false := decide_eq_false c14
       clear c14
       by_cases c61 : 0 ≤ a0_2
       ·rw [if_pos c61] at H
        have c61b0 : decide (0 ≤ a0_2) = true := decide_eq_true c61
        clear c61
        by_cases c62 : a0_2 < (x5_1.length : Int)
        ·rw [if_pos c62] at H
         have c62b0 : decide (a0_2 < (x5_1.length : Int)) = true := decide_eq_true c62
         clear c62
         obtain rfl := Option.some.inj H
         have hcz63_0 : wr.cell? ⟨gb128, 0, none⟩ = some (.slice A0_0 l0_0.length c0_0) := (blk_cell BK128.out 0).trans rfl
         have hcz63_1 : wr.cell? ⟨gb128, 1, none⟩ = some (.slice A0_1 l0_1.length c0_1) := (blk_cell BK128.out 1).trans rfl
         have hcz63_2 : wr.cell? ⟨gb128, 2, none⟩ = some (.int .i64 a0_2) := (blk_cell BK128.out 2).trans rfl
         have hfz63_0 := blk_frozen BK128.out 0
         have hfz63_1 := blk_frozen BK128.out 1
         have hfz63_2 := blk_frozen BK128.out 2
         obtain ⟨Ao64, co64, eo64⟩ := Kd.R_slice HO_5.out
         subst eo64
         have p133 : 0 ≤ (a0_2 : Int) := of_decide_eq_true asa_
         have q133 : a0_2 < (x5_1.length : Int) := of_decide_eq_true asa_
         obtain ⟨ad133, e133, hx133_0⟩ := Kd.at_int (Kd.R_reads' HO_5.out).2.2 a0_2 p133 q133
         cases e133
         replace p133 := eq_true p133
         replace q133 := eq_true q133
         go_wp2
         go_ret
         exact ⟨fia_, blg_ HB.out GE128.out⟩
        ·rw [if_neg c62] at H
         exact absurd H (by simp)
       ·rw [if_neg c61] at H
        exact absurd H (by simp)
   ·rw [if_neg c6] at H
    exact absurd H (by simp)
  ·rw [if_neg c5] at H
   exact absurd H (by simp)
 ·rw [if_neg c4] at H
  have c4b0 : (t129 == 0) = false := beq_eq_false_iff_ne.mpr c4
  have c4b1 : (t129 != 0) = true := bne_iff_ne.mpr c4
  obtain rfl := Option.some.inj H
  go_enter Try.func32, Try.ntmps32
  go_wp2_with (first | ((with_reducible refine gate_dst (N := 2) rfl ?_); refine box_event ?hg (N := 2) ?hd (cs := #[.slice A0_0 l0_0.length c0_0, .slice A0_1 l0_1.length c0_1, .int .i64 a0_2]) (t := 25) ?hr ?_; (case hd => rfl); (case hg => rfl); (case hr => first | (go_simp; done) | (go_simp; rfl)); intro gb128 hg w65 hbox hb; have n0_ := Aside0.mk (below_step (blw_ HB.out) hb); have n1_ := Aside0.mk (hbox); have n2_ := Aside0.mk ((by rw [hg]; exact (below_size (blw_ HB.out)) : w.heap.size ≤ gb128)); have n3_ := Aside0.mk ((by rw [hg]; exact (below_size (blw_ HB.out)) : w.heap.size ≤ gb128)); clear HB; have HB := n0_; have BK128 := n1_; have GW128 := n2_; have GE128 := n3_; clear n0_ n1_ n2_ n3_; clear hb hbox hg; have hcz66_0 : w65.cell? ⟨gb128, 0, none⟩ = some (.slice A0_0 l0_0.length c0_0) := (blk_cell BK128.out 0).trans rfl; have hcz66_1 : w65.cell? ⟨gb128, 1, none⟩ = some (.slice A0_1 l0_1.length c0_1) := (blk_cell BK128.out 1).trans rfl; have hcz66_2 : w65.cell? ⟨gb128, 2, none⟩ = some (.int .i64 a0_2) := (blk_cell BK128.out 2).trans rfl; have hfz66_0 := blk_frozen BK128.out 0; have hfz66_1 := blk_frozen BK128.out 1; have hfz66_2 := blk_frozen BK128.out 2) | ((with_reducible refine gate_callee (f := 9) rfl ?_); refine goesL_ (some 9) rfl rfl Try.func9 (by kernel_rfl) rfl #[.agg #[.slice A0_0 l0_0.length c0_0, .slice A0_1 l0_1.length c0_1, .int .i64 a0_2]] rfl lma_ ?_; (with_reducible refine (arena_Check.calls k _ _ l0_0 _ _ l0_1 a0_2 t129 _ ?side1 ?side2 ?side3 ?side4 A3.out).mono ?_); (case side1 => repeat (first | exact (Kd.C_below HR0_0.out HB.out) | (with_reducible refine Kd.C_alloc ?_ _) | (with_reducible refine Kd.C_drewN ?_ _) | (with_reducible refine Kd.C_drew ?_))); (case side2 => exact HC0_0.out); (case side3 => repeat (first | exact (Kd.C_below HR0_1.out HB.out) | (with_reducible refine Kd.C_alloc ?_ _) | (with_reducible refine Kd.C_drewN ?_ _) | (with_reducible refine Kd.C_drew ?_))); (case side4 => exact HC0_1.out); rintro e w67 ⟨rfl, hb⟩; refine ⟨_, rfl, ?_⟩; have n0_ := Aside0.mk (blk_below (g := gb128) (o := .cells #[.slice A0_0 l0_0.length c0_0, .slice A0_1 l0_1.length c0_1, .int .i64 a0_2] 25 (0, 0)) (by exact bkw_ BK128.out) hb); have n1_ := Aside0.mk (below_step (blg_ HB.out GE128.out) hb); clear BK128; clear HB; have BK128 := n0_; have HB := n1_; clear n0_ n1_; (try clear hb); (try clear hb2); (try clear hk); (try clear hi)))
  go_ret
  exact ⟨fia_, blg_ HB.out GE128.out⟩

/-! ### arena_Depth: function 10 -/
def arena_Depth.f (k : Nat) (l0_0 : List (S41)) (l0_1 : List (List (S55))) (a0_2 : Int) : Option (Int) := (arena_measure_arena_deeper.f k l0_0 l0_1 a0_2).bind fun t152 => (some t152)
set_option maxHeartbeats 8000000 in
set_option maxRecDepth 100000 in
theorem arena_Depth.calls (k : Nat) (A0_0 : Option Addr) (c0_0 : Nat) (l0_0 : List (S41)) (A0_1 : Option Addr) (c0_1 : Nat) (l0_1 : List (List (S55))) (a0_2 : Int) (r : Int) (w : World) (hr0_0 : Kd.C k41 w A0_0 l0_0.length l0_0) (hc0_0 : l0_0.length ≤ c0_0) (hr0_1 : Kd.C (Kd.slice 55 k55) w A0_1 l0_1.length l0_1) (hc0_1 : l0_1.length ≤ c0_1) (h : arena_Depth.f k l0_0 l0_1 a0_2 = some r) :
  Calls Try.prog 10 #[.agg #[.slice A0_0 l0_0.length c0_0, .slice A0_1 l0_1.length c0_1, .int .i64 a0_2]] w fun e w' => e = .returned (.int .i64 r) ∧ Below w.heap.size w w' := by
 have hu25 := Try.underlying25
 have HR0_0 := Aside0.mk hr0_0
 have HC0_0 := Aside0.mk hc0_0
 clear hr0_0 hc0_0
 have HR0_1 := Aside0.mk hr0_1
 have HC0_1 := Aside0.mk hc0_1
 clear hr0_1 hc0_1
 have HB := Aside0.mk (Below.refl w.heap.size w)
 have H : ((arena_measure_arena_deeper.f k l0_0 l0_1 a0_2).bind fun t152 => (some t152)) = some r := h
 clear h
 replace H := Option.bind_eq_some_iff.mp H
 obtain ⟨t152, A20, H⟩ := H
 replace H : (some t152) = some r := H
 have A2 := Aside0.mk A20
 clear A20
 obtain rfl := Option.some.inj H
 go_enter Try.func10, Try.ntmps10
 go_wp2_with (first | ((with_reducible refine gate_dst (N := 1) rfl ?_); refine box_event ?hg (N := 1) ?hd (cs := #[.slice A0_0 l0_0.length c0_0, .slice A0_1 l0_1.length c0_1, .int .i64 a0_2]) (t := 25) ?hr ?_; (case hd => rfl); (case hg => rfl); (case hr => first | (go_simp; done) | (go_simp; rfl)); intro gb151 hg w3 hbox hb; have n0_ := Aside0.mk (below_step (blw_ HB.out) hb); have n1_ := Aside0.mk (hbox); have n2_ := Aside0.mk ((by rw [hg]; exact (below_size (blw_ HB.out)) : w.heap.size ≤ gb151)); have n3_ := Aside0.mk ((by rw [hg]; exact (below_size (blw_ HB.out)) : w.heap.size ≤ gb151)); clear HB; have HB := n0_; have BK151 := n1_; have GW151 := n2_; have GE151 := n3_; clear n0_ n1_ n2_ n3_; clear hb hbox hg; have hcz4_0 : w3.cell? ⟨gb151, 0, none⟩ = some (.slice A0_0 l0_0.length c0_0) := (blk_cell BK151.out 0).trans rfl; have hcz4_1 : w3.cell? ⟨gb151, 1, none⟩ = some (.slice A0_1 l0_1.length c0_1) := (blk_cell BK151.out 1).trans rfl; have hcz4_2 : w3.cell? ⟨gb151, 2, none⟩ = some (.int .i64 a0_2) := (blk_cell BK151.out 2).trans rfl; have hfz4_0 := blk_frozen BK151.out 0; have hfz4_1 := blk_frozen BK151.out 1; have hfz4_2 := blk_frozen BK151.out 2) | ((with_reducible refine gate_callee (f := 32) rfl ?_); refine goesL_ (some 4) rfl rfl Try.func32 (by kernel_rfl) rfl #[.agg #[.slice A0_0 l0_0.length c0_0, .slice A0_1 l0_1.length c0_1, .int .i64 a0_2], .func (.func 33) #[] #[]] rfl lma_ ?_; (with_reducible refine (arena_measure_arena_deeper.calls k _ _ l0_0 _ _ l0_1 a0_2  t152 _ ?side1 ?side2 ?side3 ?side4 A2.out).mono ?_); (case side1 => repeat (first | exact (Kd.C_below HR0_0.out HB.out) | (with_reducible refine Kd.C_alloc ?_ _) | (with_reducible refine Kd.C_drewN ?_ _) | (with_reducible refine Kd.C_drew ?_))); (case side2 => exact HC0_0.out); (case side3 => repeat (first | exact (Kd.C_below HR0_1.out HB.out) | (with_reducible refine Kd.C_alloc ?_ _) | (with_reducible refine Kd.C_drewN ?_ _) | (with_reducible refine Kd.C_drew ?_))); (case side4 => exact HC0_1.out); rintro e w5 ⟨rfl, hb⟩; refine ⟨_, rfl, ?_⟩; have n0_ := Aside0.mk (blk_below (g := gb151) (o := .cells #[.slice A0_0 l0_0.length c0_0, .slice A0_1 l0_1.length c0_1, .int .i64 a0_2] 25 (0, 0)) (by exact bkw_ BK151.out) hb); have n1_ := Aside0.mk (below_step (blg_ HB.out GE151.out) hb); clear BK151; clear HB; have BK151 := n0_; have HB := n1_; clear n0_ n1_; (try clear hb); (try clear hb2); (try clear hk); (try clear hi)))
 go_ret
 exact ⟨fia_, blg_ HB.out GE151.out⟩

end Go.Proofs.Ytbgoaigbkfibbaa.PA

-- slim

-- WRITTEN BY A PROGRAM OF THIS SESSION (patchprint.py over the kit's print)
import Derived.Test.YtbgoaigbkfibbaaPAx0
namespace Go.Proofs.Ytbgoaigbkfibbaa.PA
open Go.RowKit Go.Proofs.YtbgoaigbkfibbaaW.PrintWords Go.Proofs.YtbgoaigbkfibbaaW.PrintLast Go.Proofs.YtbgoaigbkfibbaaW.PrintMore
attribute [local go_sem] max2_int min2_int max_two min_two max_three min_three max_four min_four   -- for this text's walks alone
set_option linter.unusedVariables false
set_option linter.unusedSimpArgs false

/-! ### spoolref10_Size: function 15 -/
mutual
def spoolref10_Size.j0 : Nat → Int → Bool → List (S41) → List (List (S55)) → Int → Int → Int → Int → Int → Int → Int → Option (Int)
 | 0, _, _, _, _, _, _, _, _, _, _, _ => none
 | k + 1, x12, x13, x316000, x316001, x316002, x318000, x318001, x318002, x318003, x318004, x318005 => if x13 = true then ((spoolref10_Size.f k x316000 x316001 x316002 x318001).bind fun t318 => ((spoolref10_Size.f k x316000 x316001 x316002 x318002).bind fun t319 => (some (wrap64 ((wrap64 (1 + t318)) + t319))))) else (if x12 = 5 then ((spoolref10_Size.f k x316000 x316001 x316002 x318001).bind fun t320 => (some (wrap64 (1 + t320)))) else (some 1))
def spoolref10_Size.f : Nat → List (S41) → List (List (S55)) → Int → Int → Option (Int)
 | 0, _, _, _, _ => none
 | k + 1, l0_0, l0_1, a0_2, a1 => if 0 ≤ a1 then (if a1 < (l0_0.length : Int) then (if ((rd_T41 l0_0 a1).f0) = 3 then (spoolref10_Size.j0 k ((rd_T41 l0_0 a1).f0) (((rd_T41 l0_0 a1).f0) == 3) l0_0 l0_1 a0_2 ((rd_T41 l0_0 a1).f0) ((rd_T41 l0_0 a1).f1) ((rd_T41 l0_0 a1).f2) ((rd_T41 l0_0 a1).f3) ((rd_T41 l0_0 a1).f4) ((rd_T41 l0_0 a1).f5)) else (spoolref10_Size.j0 k ((rd_T41 l0_0 a1).f0) (((rd_T41 l0_0 a1).f0) == 4) l0_0 l0_1 a0_2 ((rd_T41 l0_0 a1).f0) ((rd_T41 l0_0 a1).f1) ((rd_T41 l0_0 a1).f2) ((rd_T41 l0_0 a1).f3) ((rd_T41 l0_0 a1).f4) ((rd_T41 l0_0 a1).f5))) else (none)) else (none)
end
def spoolref10_Size.T5 : Bool × List (List Nat × List Nat) := (true, [([], []), ([], []), ([1], [1]), ([0, 2], [0, 2]), ([3], [3]), ([], []), ([], []), ([6], [6]), ([5, 7, 3], [5, 7]), ([4, 8], [4, 8]), ([9, 8, 0, 1, 2, 3, 4, 5, 6, 7, 8, 9], [9])])
def spoolref10_Size.B5 : List Nat := [0, 0, 2, 7, 15, 0, 0, 64, 239, 511, 1023]
theorem spoolref10_Size.tab5 : rtab .any (opsOf Try.f15 5) = spoolref10_Size.T5 := by kernel_rfl
theorem spoolref10_Size.bits5 : waitsOk spoolref10_Size.T5.2 spoolref10_Size.B5 = true := by kernel_rfl
set_option maxHeartbeats 8000000 in
set_option maxRecDepth 100000 in
theorem spoolref10_Size.calls (k : Nat) : ∀ (A0_0 : Option Addr) (c0_0 : Nat) (l0_0 : List (S41)) (A0_1 : Option Addr) (c0_1 : Nat) (l0_1 : List (List (S55))) (a0_2 : Int) (a1 : Int) (r : Int) (w : World) (hr0_0 : Kd.C k41 w A0_0 l0_0.length l0_0) (hc0_0 : l0_0.length ≤ c0_0) (hr0_1 : Kd.C (Kd.slice 55 k55) w A0_1 l0_1.length l0_1) (hc0_1 : l0_1.length ≤ c0_1) (h : spoolref10_Size.f k l0_0 l0_1 a0_2 a1 = some r),
  Calls Try.prog 15 #[.agg #[.slice A0_0 l0_0.length c0_0, .slice A0_1 l0_1.length c0_1, .int .i64 a0_2], .int .i64 a1] w fun e w' => e = .returned (.int .i64 r) ∧ Below w.heap.size w w' := by
 induction k using Nat.strongRecOn with
 | _ k ih =>
 intro A0_0 c0_0 l0_0 A0_1 c0_1 l0_1 a0_2 a1 r w hr0_0 hc0_0 hr0_1 hc0_1 h
 cases k with
 | zero => exact absurd h (by simp [spoolref10_Size.f])
 | succ k =>
 simp only [spoolref10_Size.f] at h
 have hu25 := Try.underlying25
 have hu41 := Try.underlying41
 have HR0_0 := Aside0.mk hr0_0
 have HC0_0 := Aside0.mk hc0_0
 clear hr0_0 hc0_0
 have HR0_1 := Aside0.mk hr0_1
 have HC0_1 := Aside0.mk hc0_1
 clear hr0_1 hc0_1
 have HB := Aside0.mk (Below.refl w.heap.size w)
 have H : (if 0 ≤ a1 then (if a1 < (l0_0.length : Int) then (if ((rd_T41 l0_0 a1).f0) = 3 then (spoolref10_Size.j0 k ((rd_T41 l0_0 a1).f0) (((rd_T41 l0_0 a1).f0) == 3) l0_0 l0_1 a0_2 ((rd_T41 l0_0 a1).f0) ((rd_T41 l0_0 a1).f1) ((rd_T41 l0_0 a1).f2) ((rd_T41 l0_0 a1).f3) ((rd_T41 l0_0 a1).f4) ((rd_T41 l0_0 a1).f5)) else (spoolref10_Size.j0 k ((rd_T41 l0_0 a1).f0) (((rd_T41 l0_0 a1).f0) == 4) l0_0 l0_1 a0_2 ((rd_T41 l0_0 a1).f0) ((rd_T41 l0_0 a1).f1) ((rd_T41 l0_0 a1).f2) ((rd_T41 l0_0 a1).f3) ((rd_T41 l0_0 a1).f4) ((rd_T41 l0_0 a1).f5))) else (none)) else (none)) = some r := h
 clear h
 by_cases c3 : 0 ≤ a1
 ·rw [if_pos c3] at H
  have c3b0 : decide (0 ≤ a1) = true := decide_eq_true c3
  clear c3
  by_cases c4 : a1 < (l0_0.length : Int)
  ·rw [if_pos c4] at H
   have c4b0 : decide (a1 < (l0_0.length : Int)) = true := decide_eq_true c4
   clear c4
   have HC5 := Aside0.mk H
   clear H
   go_enter Try.func15, Try.ntmps15
   go_upto_if 13 with (first | ((with_reducible refine gate_dst (N := 2) rfl ?_); refine box_event ?hg (N := 2) ?hd (cs := #[.slice A0_0 l0_0.length c0_0, .slice A0_1 l0_1.length c0_1, .int .i64 a0_2]) (t := 25) ?hr ?_; (case hd => rfl); (case hg => rfl); (case hr => first | (go_simp; done) | (go_simp; rfl)); intro gb315 hg w6 hbox hb; have n0_ := Aside0.mk (below_step (blw_ HB.out) hb); have n1_ := Aside0.mk (hbox); have n2_ := Aside0.mk ((by rw [hg]; exact (below_size (blw_ HB.out)) : w.heap.size ≤ gb315)); have n3_ := Aside0.mk ((by rw [hg]; exact (below_size (blw_ HB.out)) : w.heap.size ≤ gb315)); clear HB; have HB := n0_; have BK315 := n1_; have GW315 := n2_; have GE315 := n3_; clear n0_ n1_ n2_ n3_; clear hb hbox hg; have hcz7_0 : w6.cell? ⟨gb315, 0, none⟩ = some (.slice A0_0 l0_0.length c0_0) := (blk_cell BK315.out 0).trans rfl; have hcz7_1 : w6.cell? ⟨gb315, 1, none⟩ = some (.slice A0_1 l0_1.length c0_1) := (blk_cell BK315.out 1).trans rfl; have hcz7_2 : w6.cell? ⟨gb315, 2, none⟩ = some (.int .i64 a0_2) := (blk_cell BK315.out 2).trans rfl; have hfz7_0 := blk_frozen BK315.out 0; have hfz7_1 := blk_frozen BK315.out 1; have hfz7_2 := blk_frozen BK315.out 2; have p316 : 0 ≤ (a1 : Int) := of_decide_eq_true asa_; have q316 : a1 < (l0_0.length : Int) := of_decide_eq_true asa_; obtain ⟨ad316, e316, hx316_0, hx316_1, hx316_2, hx316_3, hx316_4, hx316_5⟩ := at_T41 HR0_0.out a1 p316 q316; cases e316; replace hx316_0 := (HB.out.cell (World.block_lt_of_cell? w _ hx316_0)).trans hx316_0; replace hx316_1 := (HB.out.cell (World.block_lt_of_cell? w _ hx316_1)).trans hx316_1; replace hx316_2 := (HB.out.cell (World.block_lt_of_cell? w _ hx316_2)).trans hx316_2; replace hx316_3 := (HB.out.cell (World.block_lt_of_cell? w _ hx316_3)).trans hx316_3; replace hx316_4 := (HB.out.cell (World.block_lt_of_cell? w _ hx316_4)).trans hx316_4; replace hx316_5 := (HB.out.cell (World.block_lt_of_cell? w _ hx316_5)).trans hx316_5; replace p316 := eq_true p316; replace q316 := eq_true q316) | ((with_reducible refine gate_dst (N := 5) rfl ?_); refine box_event ?hg (N := 5) ?hd (cs := #[.int .i64 0, .int .i64 0, .int .i64 0, .int .i64 0, .int .i64 0, .int .i64 0]) (t := 41) ?hr ?_; (case hd => rfl); (case hg => rfl); (case hr => first | (go_simp; done) | (go_simp; rfl)); intro gb317 hg w8 hbox hb; have n0_ := Aside0.mk (blk_below (g := gb315) (o := .cells #[.slice (some ad316) l0_0.length c0_0, .slice A0_1 l0_1.length c0_1, .int .i64 a0_2] 25 (0, 0)) (by exact bkw_ BK315.out) hb); have n1_ := Aside0.mk (below_step (blg_ HB.out GE315.out) hb); have n2_ := Aside0.mk (hbox); have n3_ := Aside0.mk ((by rw [hg]; exact (below_size (blg_ HB.out GE315.out)) : w.heap.size ≤ gb317)); have n4_ := Aside0.mk ((by rw [hg]; exact (below_size (blg_ HB.out GE315.out)) : w.heap.size ≤ gb317)); have n5_ := Aside0.mk ((by rw [hg]; exact Nat.ne_of_lt (blk_lt (g := gb315) (o := .cells #[.slice (some ad316) l0_0.length c0_0, .slice A0_1 l0_1.length c0_1, .int .i64 a0_2] 25 (0, 0)) (by exact bkw_ BK315.out)) : gb315 ≠ gb317)); have n6_ := Aside0.mk ((by rw [hg]; exact Nat.ne_of_gt (blk_lt (g := gb315) (o := .cells #[.slice (some ad316) l0_0.length c0_0, .slice A0_1 l0_1.length c0_1, .int .i64 a0_2] 25 (0, 0)) (by exact bkw_ BK315.out)) : gb317 ≠ gb315)); clear BK315; clear HB; have BK315 := n0_; have HB := n1_; have BK317 := n2_; have GW317 := n3_; have GE317 := n4_; have NB315_317 := n5_; have NB317_315 := n6_; clear n0_ n1_ n2_ n3_ n4_ n5_ n6_; clear hb hbox hg; have hnb9 := NB317_315.out; have hnc9 := NB315_317.out; have hcz10_0 : w8.cell? ⟨gb317, 0, none⟩ = some (.int .i64 0) := (blk_cell BK317.out 0).trans rfl; have hcz10_1 : w8.cell? ⟨gb317, 1, none⟩ = some (.int .i64 0) := (blk_cell BK317.out 1).trans rfl; have hcz10_2 : w8.cell? ⟨gb317, 2, none⟩ = some (.int .i64 0) := (blk_cell BK317.out 2).trans rfl; have hcz10_3 : w8.cell? ⟨gb317, 3, none⟩ = some (.int .i64 0) := (blk_cell BK317.out 3).trans rfl; have hcz10_4 : w8.cell? ⟨gb317, 4, none⟩ = some (.int .i64 0) := (blk_cell BK317.out 4).trans rfl; have hcz10_5 : w8.cell? ⟨gb317, 5, none⟩ = some (.int .i64 0) := (blk_cell BK317.out 5).trans rfl; have hfz10_0 := blk_frozen BK317.out 0; have hfz10_1 := blk_frozen BK317.out 1; have hfz10_2 := blk_frozen BK317.out 2; have hfz10_3 := blk_frozen BK317.out 3; have hfz10_4 := blk_frozen BK317.out 4; have hfz10_5 := blk_frozen BK317.out 5))
   (try simp only [Act.put, List.setIfInBounds_toArray, List.set_cons_zero, List.set_cons_succ])
   go_cut [13] (fun v13 wc => ∃ (kq : Nat) (x13_4 : Bool), v13 = .bool x13_4 ∧ Aside0 (spoolref10_Size.j0 kq ((rd_T41 l0_0 a1).f0) x13_4 l0_0 l0_1 a0_2 ((rd_T41 l0_0 a1).f0) ((rd_T41 l0_0 a1).f1) ((rd_T41 l0_0 a1).f2) ((rd_T41 l0_0 a1).f3) ((rd_T41 l0_0 a1).f4) ((rd_T41 l0_0 a1).f5) = some r) ∧ Aside0 (kq ≤ k) ∧ Aside0 (wc.heap[gb315]? = some (.cells #[(.slice (some ad316) l0_0.length c0_0), (.slice A0_1 l0_1.length c0_1), .int .i64 a0_2] 25 (0, 0))) ∧ Aside0 (wc.heap[gb317]? = some (.cells #[.int .i64 ((rd_T41 l0_0 a1).f0), .int .i64 ((rd_T41 l0_0 a1).f1), .int .i64 ((rd_T41 l0_0 a1).f2), .int .i64 ((rd_T41 l0_0 a1).f3), .int .i64 ((rd_T41 l0_0 a1).f4), .int .i64 ((rd_T41 l0_0 a1).f5)] 41 (0, 0))) ∧ Aside0 (Below w.heap.size w wc))
   case first =>
    have H := HC5.out
    clear HC5
    by_cases c11 : ((rd_T41 l0_0 a1).f0) = 3
    ·rw [if_pos c11] at H
     have c11b0 : (((rd_T41 l0_0 a1).f0) == 3) = true := beq_iff_eq.mpr c11
     have c11b1 : (((rd_T41 l0_0 a1).f0) != 3) = false := bne_eq_false_iff_eq.mpr c11
     clear c11
     (first | rw [c11b0] | (simp only [i64_w, i32_w]; rw [c11b0]) | skip)
     have H' := Aside0.mk H
     clear H
     go_wp2
     go_meet
     case rel => exact ⟨_, ((((rd_T41 l0_0 a1).f0) == 3)), fib_, H', ⟨by first | omega | exact Nat.le_refl _⟩, ⟨by (with_reducible repeat (first | refine blk_drewN ?_ _ | refine blk_drew ?_ | refine blk_alloc ?_ _)); refine blk_far ?_ NB315_317.out _; (with_reducible repeat (first | refine blk_drewN ?_ _ | refine blk_drew ?_ | refine blk_alloc ?_ _)); refine blk_far ?_ NB315_317.out _; (with_reducible repeat (first | refine blk_drewN ?_ _ | refine blk_drew ?_ | refine blk_alloc ?_ _)); refine blk_far ?_ NB315_317.out _; (with_reducible repeat (first | refine blk_drewN ?_ _ | refine blk_drew ?_ | refine blk_alloc ?_ _)); refine blk_far ?_ NB315_317.out _; (with_reducible repeat (first | refine blk_drewN ?_ _ | refine blk_drew ?_ | refine blk_alloc ?_ _)); refine blk_far ?_ NB315_317.out _; (with_reducible repeat (first | refine blk_drewN ?_ _ | refine blk_drew ?_ | refine blk_alloc ?_ _)); refine blk_far ?_ NB315_317.out _; exact bkw_ BK315.out⟩, ⟨by (with_reducible repeat (first | refine blk_drewN ?_ _ | refine blk_drew ?_ | refine blk_alloc ?_ _)); refine blk_put (cs := #[.int .i64 ((rd_T41 l0_0 a1).f0), .int .i64 ((rd_T41 l0_0 a1).f1), .int .i64 ((rd_T41 l0_0 a1).f2), .int .i64 ((rd_T41 l0_0 a1).f3), .int .i64 ((rd_T41 l0_0 a1).f4), .int .i64 0]) ?_ 5 _ rfl; (with_reducible repeat (first | refine blk_drewN ?_ _ | refine blk_drew ?_ | refine blk_alloc ?_ _)); refine blk_put (cs := #[.int .i64 ((rd_T41 l0_0 a1).f0), .int .i64 ((rd_T41 l0_0 a1).f1), .int .i64 ((rd_T41 l0_0 a1).f2), .int .i64 ((rd_T41 l0_0 a1).f3), .int .i64 0, .int .i64 0]) ?_ 4 _ rfl; (with_reducible repeat (first | refine blk_drewN ?_ _ | refine blk_drew ?_ | refine blk_alloc ?_ _)); refine blk_put (cs := #[.int .i64 ((rd_T41 l0_0 a1).f0), .int .i64 ((rd_T41 l0_0 a1).f1), .int .i64 ((rd_T41 l0_0 a1).f2), .int .i64 0, .int .i64 0, .int .i64 0]) ?_ 3 _ rfl; (with_reducible repeat (first | refine blk_drewN ?_ _ | refine blk_drew ?_ | refine blk_alloc ?_ _)); refine blk_put (cs := #[.int .i64 ((rd_T41 l0_0 a1).f0), .int .i64 ((rd_T41 l0_0 a1).f1), .int .i64 0, .int .i64 0, .int .i64 0, .int .i64 0]) ?_ 2 _ rfl; (with_reducible repeat (first | refine blk_drewN ?_ _ | refine blk_drew ?_ | refine blk_alloc ?_ _)); refine blk_put (cs := #[.int .i64 ((rd_T41 l0_0 a1).f0), .int .i64 0, .int .i64 0, .int .i64 0, .int .i64 0, .int .i64 0]) ?_ 1 _ rfl; (with_reducible repeat (first | refine blk_drewN ?_ _ | refine blk_drew ?_ | refine blk_alloc ?_ _)); refine blk_put (cs := #[.int .i64 0, .int .i64 0, .int .i64 0, .int .i64 0, .int .i64 0, .int .i64 0]) ?_ 0 _ rfl; exact bkw_ BK317.out⟩, ⟨bla_ HB.out⟩⟩
    ·rw [if_neg c11] at H
     have c11b0 : (((rd_T41 l0_0 a1).f0) == 3) = false := beq_eq_false_iff_ne.mpr c11
     have c11b1 : (((rd_T41 l0_0 a1).f0) != 3) = true := bne_iff_ne.mpr c11
     (first | rw [c11b0] | (simp only [i64_w, i32_w]; rw [c11b0]) | skip)
     have H' := Aside0.mk H
     clear H
     go_wp2
     go_meet
     case rel => exact ⟨_, ((((rd_T41 l0_0 a1).f0) == 4)), fib_, H', ⟨by first | omega | exact Nat.le_refl _⟩, ⟨by (with_reducible repeat (first | refine blk_drewN ?_ _ | refine blk_drew ?_ | refine blk_alloc ?_ _)); refine blk_far ?_ NB315_317.out _; (with_reducible repeat (first | refine blk_drewN ?_ _ | refine blk_drew ?_ | refine blk_alloc ?_ _)); refine blk_far ?_ NB315_317.out _; (with_reducible repeat (first | refine blk_drewN ?_ _ | refine blk_drew ?_ | refine blk_alloc ?_ _)); refine blk_far ?_ NB315_317.out _; (with_reducible repeat (first | refine blk_drewN ?_ _ | refine blk_drew ?_ | refine blk_alloc ?_ _)); refine blk_far ?_ NB315_317.out _; (with_reducible repeat (first | refine blk_drewN ?_ _ | refine blk_drew ?_ | refine blk_alloc ?_ _)); refine blk_far ?_ NB315_317.out _; (with_reducible repeat (first | refine blk_drewN ?_ _ | refine blk_drew ?_ | refine blk_alloc ?_ _)); refine blk_far ?_ NB315_317.out _; exact bkw_ BK315.out⟩, ⟨by (with_reducible repeat (first | refine blk_drewN ?_ _ | refine blk_drew ?_ | refine blk_alloc ?_ _)); refine blk_put (cs := #[.int .i64 ((rd_T41 l0_0 a1).f0), .int .i64 ((rd_T41 l0_0 a1).f1), .int .i64 ((rd_T41 l0_0 a1).f2), .int .i64 ((rd_T41 l0_0 a1).f3), .int .i64 ((rd_T41 l0_0 a1).f4), .int .i64 0]) ?_ 5 _ rfl; (with_reducible repeat (first | refine blk_drewN ?_ _ | refine blk_drew ?_ | refine blk_alloc ?_ _)); refine blk_put (cs := #[.int .i64 ((rd_T41 l0_0 a1).f0), .int .i64 ((rd_T41 l0_0 a1).f1), .int .i64 ((rd_T41 l0_0 a1).f2), .int .i64 ((rd_T41 l0_0 a1).f3), .int .i64 0, .int .i64 0]) ?_ 4 _ rfl; (with_reducible repeat (first | refine blk_drewN ?_ _ | refine blk_drew ?_ | refine blk_alloc ?_ _)); refine blk_put (cs := #[.int .i64 ((rd_T41 l0_0 a1).f0), .int .i64 ((rd_T41 l0_0 a1).f1), .int .i64 ((rd_T41 l0_0 a1).f2), .int .i64 0, .int .i64 0, .int .i64 0]) ?_ 3 _ rfl; (with_reducible repeat (first | refine blk_drewN ?_ _ | refine blk_drew ?_ | refine blk_alloc ?_ _)); refine blk_put (cs := #[.int .i64 ((rd_T41 l0_0 a1).f0), .int .i64 ((rd_T41 l0_0 a1).f1), .int .i64 0, .int .i64 0, .int .i64 0, .int .i64 0]) ?_ 2 _ rfl; (with_reducible repeat (first | refine blk_drewN ?_ _ | refine blk_drew ?_ | refine blk_alloc ?_ _)); refine blk_put (cs := #[.int .i64 ((rd_T41 l0_0 a1).f0), .int .i64 0, .int .i64 0, .int .i64 0, .int .i64 0, .int .i64 0]) ?_ 1 _ rfl; (with_reducible repeat (first | refine blk_drewN ?_ _ | refine blk_drew ?_ | refine blk_alloc ?_ _)); refine blk_put (cs := #[.int .i64 0, .int .i64 0, .int .i64 0, .int .i64 0, .int .i64 0, .int .i64 0]) ?_ 0 _ rfl; exact bkw_ BK317.out⟩, ⟨bla_ HB.out⟩⟩
   case rest =>
    clear HC5
    try clear c1
    try clear p2
    try clear c3
    try clear c3b0
    try clear p3
    try clear q3
    try clear hx3
    try clear c4
    try clear c4b0
    try clear c9
    try clear c11
    try clear c11b0
    try clear c11b1
    try clear hcz10_0
    try clear hcz10_1
    try clear hcz10_2
    try clear hcz10_3
    try clear hcz10_4
    try clear hcz10_5
    try clear hcz7_0
    try clear hcz7_1
    try clear hcz7_2
    try clear hfz10_0
    try clear hfz10_1
    try clear hfz10_2
    try clear hfz10_3
    try clear hfz10_4
    try clear hfz10_5
    try clear hfz7_0
    try clear hfz7_1
    try clear hfz7_2
    try clear hx316_0
    try clear hx316_1
    try clear hx316_2
    try clear hx316_3
    try clear hx316_4
    try clear hx316_5
    try clear p316
    try clear q316
    obtain ⟨kq, x13_4, rfl, HA, HJ4, BK315, BK317, HB⟩ := hcut
    cases kq with
    | zero => exact absurd HA.out (by simp [spoolref10_Size.j0])
    | succ kj4 =>
     have H := HA.out
     clear HA
     simp only [spoolref10_Size.j0] at H
     by_cases c12 : x13_4 = true
     ·subst c12
      have H1 : ((spoolref10_Size.f kj4 l0_0 l0_1 a0_2 ((rd_T41 l0_0 a1).f1)).bind fun t318 => ((spoolref10_Size.f kj4 l0_0 l0_1 a0_2 ((rd_T41 l0_0 a1).f2)).bind fun t319 => (some (wrap64 ((wrap64 (1 + t318)) + t319))))) = some r := by rw [if_pos rfl] at H; exact H
      clear H
      have H := H1
      clear H1
      replace H := Option.bind_eq_some_iff.mp H
      obtain ⟨t318, A130, H⟩ := H
      replace H : ((spoolref10_Size.f kj4 l0_0 l0_1 a0_2 ((rd_T41 l0_0 a1).f2)).bind fun t319 => (some (wrap64 ((wrap64 (1 + t318)) + t319)))) = some r := H
      have A13 := Aside0.mk A130
      clear A130
      replace H := Option.bind_eq_some_iff.mp H
      obtain ⟨t319, A140, H⟩ := H
      replace H : (some (wrap64 ((wrap64 (1 + t318)) + t319))) = some r := H
      have A14 := Aside0.mk A140
      clear A140
      obtain rfl := Option.some.inj H
      try go_wp2
      have n0_ := Aside0.mk (blk_drew BK315.out)
      have n1_ := Aside0.mk (blk_drew BK317.out)
      have n2_ := Aside0.mk (below_drew1 HB.out)
      clear BK315
      clear BK317
      clear HB
      have BK315 := n0_
      have BK317 := n1_
      have HB := n2_
      clear n0_ n1_ n2_
      refine start_ (n := 11) (S := fun w' => w'.cell? ⟨gb315, 0, none⟩ = some (.slice (some ad316) l0_0.length c0_0) ∧ w'.cell? ⟨gb315, 1, none⟩ = some (.slice A0_1 l0_1.length c0_1) ∧ w'.cell? ⟨gb315, 2, none⟩ = some (.int .i64 a0_2) ∧ w'.cell? ⟨gb317, 0, none⟩ = some (.int .i64 ((rd_T41 l0_0 a1).f0)) ∧ w'.cell? ⟨gb317, 1, none⟩ = some (.int .i64 ((rd_T41 l0_0 a1).f1)) ∧ w'.cell? ⟨gb317, 2, none⟩ = some (.int .i64 ((rd_T41 l0_0 a1).f2)) ∧ w'.cell? ⟨gb317, 3, none⟩ = some (.int .i64 ((rd_T41 l0_0 a1).f3)) ∧ w'.cell? ⟨gb317, 4, none⟩ = some (.int .i64 ((rd_T41 l0_0 a1).f4)) ∧ w'.cell? ⟨gb317, 5, none⟩ = some (.int .i64 ((rd_T41 l0_0 a1).f5))) (ds := []) #[false, false, false, false, false, false, false, false, false, false, false] (by kernel_rfl) rfl rfl ⟨(blk_cell BK315.out 0).trans rfl, (blk_cell BK315.out 1).trans rfl, (blk_cell BK315.out 2).trans rfl, (blk_cell BK317.out 0).trans rfl, (blk_cell BK317.out 1).trans rfl, (blk_cell BK317.out 2).trans rfl, (blk_cell BK317.out 3).trans rfl, (blk_cell BK317.out 4).trans rfl, (blk_cell BK317.out 5).trans rfl⟩ (fun hHeld => ?_); refine with_tabW spoolref10_Size.tab5 spoolref10_Size.bits5 (fun HT_ HW_ => ?_)
      generalize wc.drew = w15 at BK315 BK317 HB hHeld ⊢
      refine pure_ (i := 1) (N := some 17) (v := ?_) (a' := ?_) #[false, true, false, false, false, false, false, false, false, false, false] rfl rfl (any_of HT_.out (by kernel_rfl)) (fun _ _ _ h => h) (Or.inl ⟨by rfl, ?_⟩) ?_ ?_
      rotate_left
      ·intro w'
       go_simp
       with_reducible rfl
      rotate_left
      ·exact nrm_
      refine pure_ (i := 6) (N := some 22) (v := ?_) (a' := ?_) #[false, true, false, false, false, false, true, false, false, false, false] rfl rfl (any_of HT_.out (by kernel_rfl)) (fun _ _ _ h => h) (Or.inl ⟨by rfl, ?_⟩) ?_ ?_
      rotate_left
      ·intro w'
       go_simp
       with_reducible rfl
      rotate_left
      ·exact nrm_
      refine take_ (i := 0) (N := some 16) (v := ?_) (a' := ?_) #[true, true, false, false, false, false, true, false, false, false, false] rfl rfl (take_ofW HT_.out HW_.out (by kernel_rfl)) (fun _ _ _ h => h) (Or.inl ⟨by rfl, ?_⟩) hHeld ?_ ?_
      rotate_left
      ·rintro w' ⟨s0, s1, s2, s3, s4, s5, s6, s7, s8⟩
       go_simp
       with_reducible rfl
      rotate_left
      ·exact nrm_
      refine take_ (i := 2) (N := some 18) (v := ?_) (a' := ?_) #[true, true, true, false, false, false, true, false, false, false, false] rfl rfl (take_ofW HT_.out HW_.out (by kernel_rfl)) (fun _ _ _ h => h) (Or.inl ⟨by rfl, ?_⟩) hHeld ?_ ?_
      rotate_left
      ·rintro w' ⟨s0, s1, s2, s3, s4, s5, s6, s7, s8⟩
       go_simp
       with_reducible rfl
      rotate_left
      ·exact nrm_
      refine take_ (i := 5) (N := some 21) (v := ?_) (a' := ?_) #[true, true, true, false, false, true, true, false, false, false, false] rfl rfl (take_ofW HT_.out HW_.out (by kernel_rfl)) (fun _ _ _ h => h) (Or.inl ⟨by rfl, ?_⟩) hHeld ?_ ?_
      rotate_left
      ·rintro w' ⟨s0, s1, s2, s3, s4, s5, s6, s7, s8⟩
       go_simp
       with_reducible rfl
      rotate_left
      ·exact nrm_
      refine take_ (i := 7) (N := some 23) (v := ?_) (a' := ?_) #[true, true, true, false, false, true, true, true, false, false, false] rfl rfl (take_ofW HT_.out HW_.out (by kernel_rfl)) (fun _ _ _ h => h) (Or.inl ⟨by rfl, ?_⟩) hHeld ?_ ?_
      rotate_left
      ·rintro w' ⟨s0, s1, s2, s3, s4, s5, s6, s7, s8⟩
       go_simp
       with_reducible rfl
      rotate_left
      ·exact nrm_
      refine one_ (i := 3) (N := some 19) #[true, true, true, true, false, true, true, true, false, false, false] rfl rfl (one_of HT_.out (by kernel_rfl)) (by decide) (fun K hK => ?_)
      refine goes_ Try.func15 (by kernel_rfl) rfl #[.agg #[.slice (some ad316) l0_0.length c0_0, .slice A0_1 l0_1.length c0_1, .int .i64 a0_2], .int .i64 ((rd_T41 l0_0 a1).f1)] (by rfl) rfl rfl lma_ ?_
      with_reducible refine (ih kj4 (by have := HJ4.out; omega) _ _ l0_0 _ _ l0_1 a0_2 ((rd_T41 l0_0 a1).f1) t318 _ ?side1 ?side2 ?side3 ?side4 A13.out).mono ?_
      (case side1 => repeat (first | exact (Kd.C_below HR0_0.out HB.out) | (with_reducible refine Kd.C_alloc ?_ _) | (with_reducible refine Kd.C_drewN ?_ _) | (with_reducible refine Kd.C_drew ?_)))
      (case side2 => exact HC0_0.out)
      (case side3 => repeat (first | exact (Kd.C_below HR0_1.out HB.out) | (with_reducible refine Kd.C_alloc ?_ _) | (with_reducible refine Kd.C_drewN ?_ _) | (with_reducible refine Kd.C_drew ?_)))
      (case side4 => exact HC0_1.out)
      rintro e w16 ⟨rfl, hb⟩
      refine ⟨_, rfl, ?_⟩
      have n0_ := Aside0.mk (blk_below (g := gb315) (o := .cells #[.slice (some ad316) l0_0.length c0_0, .slice A0_1 l0_1.length c0_1, .int .i64 a0_2] 25 (0, 0)) (by exact bkw_ BK315.out) hb)
      have n1_ := Aside0.mk (blk_below (g := gb317) (o := .cells #[.int .i64 ((rd_T41 l0_0 a1).f0), .int .i64 ((rd_T41 l0_0 a1).f1), .int .i64 ((rd_T41 l0_0 a1).f2), .int .i64 ((rd_T41 l0_0 a1).f3), .int .i64 ((rd_T41 l0_0 a1).f4), .int .i64 ((rd_T41 l0_0 a1).f5)] 41 (0, 0)) (by exact bkw_ BK317.out) hb)
      have n2_ := Aside0.mk (below_step (bla_ HB.out) hb)
      clear BK315
      clear BK317
      clear HB
      have BK315 := n0_
      have BK317 := n1_
      have HB := n2_
      clear n0_ n1_ n2_
      (try clear hb)
      (try clear hb2)
      (try clear hk)
      (try clear hi)
      refine hK.out _ _ ⟨(blk_cell BK315.out 0).trans rfl, (blk_cell BK315.out 1).trans rfl, (blk_cell BK315.out 2).trans rfl, (blk_cell BK317.out 0).trans rfl, (blk_cell BK317.out 1).trans rfl, (blk_cell BK317.out 2).trans rfl, (blk_cell BK317.out 3).trans rfl, (blk_cell BK317.out 4).trans rfl, (blk_cell BK317.out 5).trans rfl⟩ (fun hHeld => ?_)
      clear hK K
      refine norm_ (a' := ?_) ?_ ?_
      rotate_left
      ·show Act.put _ (some 19) _ = _
       exact nrm_
      refine pure_ (i := 4) (N := some 20) (v := ?_) (a' := ?_) #[true, true, true, true, true, true, true, true, false, false, false] rfl rfl (any_of HT_.out (by kernel_rfl)) (fun _ _ _ h => h) (Or.inl ⟨by rfl, ?_⟩) ?_ ?_
      rotate_left
      ·intro w'
       go_simp
       with_reducible rfl
      rotate_left
      ·exact nrm_
      refine one_ (i := 8) (N := some 24) #[true, true, true, true, true, true, true, true, true, false, false] rfl rfl (one_of HT_.out (by kernel_rfl)) (by decide) (fun K hK => ?_)
      refine goes_ Try.func15 (by kernel_rfl) rfl #[.agg #[.slice (some ad316) l0_0.length c0_0, .slice A0_1 l0_1.length c0_1, .int .i64 a0_2], .int .i64 ((rd_T41 l0_0 a1).f2)] (by rfl) rfl rfl lma_ ?_
      with_reducible refine (ih kj4 (by have := HJ4.out; omega) _ _ l0_0 _ _ l0_1 a0_2 ((rd_T41 l0_0 a1).f2) t319 _ ?side1 ?side2 ?side3 ?side4 A14.out).mono ?_
      (case side1 => repeat (first | exact (Kd.C_below HR0_0.out HB.out) | (with_reducible refine Kd.C_alloc ?_ _) | (with_reducible refine Kd.C_drewN ?_ _) | (with_reducible refine Kd.C_drew ?_)))
      (case side2 => exact HC0_0.out)
      (case side3 => repeat (first | exact (Kd.C_below HR0_1.out HB.out) | (with_reducible refine Kd.C_alloc ?_ _) | (with_reducible refine Kd.C_drewN ?_ _) | (with_reducible refine Kd.C_drew ?_)))
      (case side4 => exact HC0_1.out)
      rintro e w17 ⟨rfl, hb⟩
      refine ⟨_, rfl, ?_⟩
      have n0_ := Aside0.mk (blk_below (g := gb315) (o := .cells #[.slice (some ad316) l0_0.length c0_0, .slice A0_1 l0_1.length c0_1, .int .i64 a0_2] 25 (0, 0)) (by exact bkw_ BK315.out) hb)
      have n1_ := Aside0.mk (blk_below (g := gb317) (o := .cells #[.int .i64 ((rd_T41 l0_0 a1).f0), .int .i64 ((rd_T41 l0_0 a1).f1), .int .i64 ((rd_T41 l0_0 a1).f2), .int .i64 ((rd_T41 l0_0 a1).f3), .int .i64 ((rd_T41 l0_0 a1).f4), .int .i64 ((rd_T41 l0_0 a1).f5)] 41 (0, 0)) (by exact bkw_ BK317.out) hb)
      have n2_ := Aside0.mk (below_step (bla_ HB.out) hb)
      clear BK315
      clear BK317
      clear HB
      have BK315 := n0_
      have BK317 := n1_
      have HB := n2_
      clear n0_ n1_ n2_
      (try clear hb)
      (try clear hb2)
      (try clear hk)
      (try clear hi)
      refine hK.out _ _ ⟨(blk_cell BK315.out 0).trans rfl, (blk_cell BK315.out 1).trans rfl, (blk_cell BK315.out 2).trans rfl, (blk_cell BK317.out 0).trans rfl, (blk_cell BK317.out 1).trans rfl, (blk_cell BK317.out 2).trans rfl, (blk_cell BK317.out 3).trans rfl, (blk_cell BK317.out 4).trans rfl, (blk_cell BK317.out 5).trans rfl⟩ (fun hHeld => ?_)
      clear hK K
      refine norm_ (a' := ?_) ?_ ?_
      rotate_left
      ·show Act.put _ (some 24) _ = _
       exact nrm_
      refine pure_ (i := 9) (N := some 25) (v := ?_) (a' := ?_) #[true, true, true, true, true, true, true, true, true, true, false] rfl rfl (any_of HT_.out (by kernel_rfl)) (fun _ _ _ h => h) (Or.inl ⟨by rfl, ?_⟩) ?_ ?_
      rotate_left
      ·intro w'
       go_simp
       with_reducible rfl
      rotate_left
      ·exact nrm_
      refine pure_ (i := 10) (N := some 4) (v := ?_) (a' := ?_) #[true, true, true, true, true, true, true, true, true, true, true] rfl rfl (any_of HT_.out (by kernel_rfl)) (fun _ _ _ h => h) (Or.inl ⟨by rfl, ?_⟩) ?_ ?_
      rotate_left
      ·intro w'
       go_simp
       with_reducible rfl
      rotate_left
      ·exact nrm_
      refine done_ (done_of HT_.out (by kernel_rfl)) ?_
      try go_wp2
      go_ret
      exact ⟨fia_, bla_ HB.out⟩
     ·replace c12 := Bool.eq_false_iff.mpr c12
      subst c12
      have H1 : (if ((rd_T41 l0_0 a1).f0) = 5 then ((spoolref10_Size.f kj4 l0_0 l0_1 a0_2 ((rd_T41 l0_0 a1).f1)).bind fun t320 => (some (wrap64 (1 + t320)))) else (some 1)) = some r := by rw [if_neg (show ¬ (false = true) by decide)] at H; exact H
      clear H
      have H := H1
      clear H1
      by_cases c18 : ((rd_T41 l0_0 a1).f0) = 5
      ·rw [if_pos c18] at H
       have c18b0 : (((rd_T41 l0_0 a1).f0) == 5) = true := beq_iff_eq.mpr c18
       have c18b1 : (((rd_T41 l0_0 a1).f0) != 5) = false := bne_eq_false_iff_eq.mpr c18
       clear c18
       replace H := Option.bind_eq_some_iff.mp H
       obtain ⟨t320, A190, H⟩ := H
       replace H : (some (wrap64 (1 + t320))) = some r := H
       have A19 := Aside0.mk A190
       clear A190
       obtain rfl := Option.some.inj H
       have hnb20 := NB315_317.out
       have hnc20 := NB317_315.out
       have hcz21_0 : wc.cell? ⟨gb315, 0, none⟩ = some (.slice (some ad316) l0_0.length c0_0) := (blk_cell BK315.out 0).trans rfl
       have hcz21_1 : wc.cell? ⟨gb315, 1, none⟩ = some (.slice A0_1 l0_1.length c0_1) := (blk_cell BK315.out 1).trans rfl
       have hcz21_2 : wc.cell? ⟨gb315, 2, none⟩ = some (.int .i64 a0_2) := (blk_cell BK315.out 2).trans rfl
       have hfz21_0 := blk_frozen BK315.out 0
       have hfz21_1 := blk_frozen BK315.out 1
       have hfz21_2 := blk_frozen BK315.out 2
       have hcz22_0 : wc.cell? ⟨gb317, 0, none⟩ = some (.int .i64 ((rd_T41 l0_0 a1).f0)) := (blk_cell BK317.out 0).trans rfl
       have hcz22_1 : wc.cell? ⟨gb317, 1, none⟩ = some (.int .i64 ((rd_T41 l0_0 a1).f1)) := (blk_cell BK317.out 1).trans rfl
       have hcz22_2 : wc.cell? ⟨gb317, 2, none⟩ = some (.int .i64 ((rd_T41 l0_0 a1).f2)) := (blk_cell BK317.out 2).trans rfl
       have hcz22_3 : wc.cell? ⟨gb317, 3, none⟩ = some (.int .i64 ((rd_T41 l0_0 a1).f3)) := (blk_cell BK317.out 3).trans rfl
       have hcz22_4 : wc.cell? ⟨gb317, 4, none⟩ = some (.int .i64 ((rd_T41 l0_0 a1).f4)) := (blk_cell BK317.out 4).trans rfl
       have hcz22_5 : wc.cell? ⟨gb317, 5, none⟩ = some (.int .i64 ((rd_T41 l0_0 a1).f5)) := (blk_cell BK317.out 5).trans rfl
       have hfz22_0 := blk_frozen BK317.out 0
       have hfz22_1 := blk_frozen BK317.out 1
       have hfz22_2 := blk_frozen BK317.out 2
       have hfz22_3 := blk_frozen BK317.out 3
       have hfz22_4 := blk_frozen BK317.out 4
       have hfz22_5 := blk_frozen BK317.out 5
       go_wp2_with (first | ((with_reducible refine gate_callee (f := 15) rfl ?_); refine goesL_ (some 31) rfl rfl Try.func15 (by kernel_rfl) rfl #[.agg #[.slice (some ad316) l0_0.length c0_0, .slice A0_1 l0_1.length c0_1, .int .i64 a0_2], .int .i64 ((rd_T41 l0_0 a1).f1)] rfl lma_ ?_; (with_reducible refine (ih kj4 (by have := HJ4.out; omega) _ _ l0_0 _ _ l0_1 a0_2 ((rd_T41 l0_0 a1).f1) t320 _ ?side1 ?side2 ?side3 ?side4 A19.out).mono ?_); (case side1 => repeat (first | exact (Kd.C_below HR0_0.out HB.out) | (with_reducible refine Kd.C_alloc ?_ _) | (with_reducible refine Kd.C_drewN ?_ _) | (with_reducible refine Kd.C_drew ?_))); (case side2 => exact HC0_0.out); (case side3 => repeat (first | exact (Kd.C_below HR0_1.out HB.out) | (with_reducible refine Kd.C_alloc ?_ _) | (with_reducible refine Kd.C_drewN ?_ _) | (with_reducible refine Kd.C_drew ?_))); (case side4 => exact HC0_1.out); rintro e w23 ⟨rfl, hb⟩; refine ⟨_, rfl, ?_⟩; have n0_ := Aside0.mk (blk_below (g := gb315) (o := .cells #[.slice (some ad316) l0_0.length c0_0, .slice A0_1 l0_1.length c0_1, .int .i64 a0_2] 25 (0, 0)) (by exact bkw_ BK315.out) hb); have n1_ := Aside0.mk (blk_below (g := gb317) (o := .cells #[.int .i64 ((rd_T41 l0_0 a1).f0), .int .i64 ((rd_T41 l0_0 a1).f1), .int .i64 ((rd_T41 l0_0 a1).f2), .int .i64 ((rd_T41 l0_0 a1).f3), .int .i64 ((rd_T41 l0_0 a1).f4), .int .i64 ((rd_T41 l0_0 a1).f5)] 41 (0, 0)) (by exact bkw_ BK317.out) hb); have n2_ := Aside0.mk (below_step (bla_ HB.out) hb); clear BK315; clear BK317; clear HB; have BK315 := n0_; have BK317 := n1_; have HB := n2_; clear n0_ n1_ n2_; (try clear hb); (try clear hb2); (try clear hk); (try clear hi)))
       go_ret
       exact ⟨fia_, bla_ HB.out⟩
      ·rw [if_neg c18] at H
       have c18b0 : (((rd_T41 l0_0 a1).f0) == 5) = false := beq_eq_false_iff_ne.mpr c18
       have c18b1 : (((rd_T41 l0_0 a1).f0) != 5) = true := bne_iff_ne.mpr c18
       obtain rfl := Option.some.inj H
       go_wp2
       go_ret
       exact ⟨fia_, bla_ HB.out⟩
  ·rw [if_neg c4] at H
   exact absurd H (by simp)
 ·rw [if_neg c3] at H
  exact absurd H (by simp)

end Go.Proofs.Ytbgoaigbkfibbaa.PA

-- slim

-- WRITTEN BY A PROGRAM OF THIS SESSION (patchprint.py over the kit's print)
import Derived.Test.YtlihkebmonfefaaDoorPGx0
import Derived.Test.YtlihkebmonfefaaDoorPGx12
import Derived.Test.YtlihkebmonfefaaDoorPGx13
namespace Go.Proofs.YtlihkebmonfefaaDoor.PG
open Go.RowKit Go.Proofs.YtlihkebmonfefaaDoorW.PrintWords Go.Proofs.YtlihkebmonfefaaDoorW.PrintLast Go.Proofs.YtlihkebmonfefaaDoorW.PrintMore
attribute [local go_sem] max2_int min2_int max_two min_two max_three min_three max_four min_four   -- for this text's walks alone
set_option linter.unusedVariables false
set_option linter.unusedSimpArgs false
mutual
def spoolref10_Size.j0 : Nat → Int → Bool → List (S48) → List (List (S60)) → Int → Int → Int → Int → Int → Int → Int → Option (Int)
 | 0, _, _, _, _, _, _, _, _, _, _, _ => none
 | k + 1, x12, x13, x274000, x274001, x274002, x276000, x276001, x276002, x276003, x276004, x276005 => if x13 = true then ((spoolref10_Size.f k x274000 x274001 x274002 x276001).bind fun t276 => ((spoolref10_Size.f k x274000 x274001 x274002 x276002).bind fun t277 => (some (wrap64 ((wrap64 (1 + t276)) + t277))))) else (if x12 = 5 then ((spoolref10_Size.f k x274000 x274001 x274002 x276001).bind fun t278 => (some (wrap64 (1 + t278)))) else (some 1))
def spoolref10_Size.f : Nat → List (S48) → List (List (S60)) → Int → Int → Option (Int)
 | 0, _, _, _, _ => none
 | k + 1, l0_0, l0_1, a0_2, a1 => if 0 ≤ a1 then (if a1 < (l0_0.length : Int) then (if ((rd_T48 l0_0 a1).f0) = 3 then (spoolref10_Size.j0 k ((rd_T48 l0_0 a1).f0) (((rd_T48 l0_0 a1).f0) == 3) l0_0 l0_1 a0_2 ((rd_T48 l0_0 a1).f0) ((rd_T48 l0_0 a1).f1) ((rd_T48 l0_0 a1).f2) ((rd_T48 l0_0 a1).f3) ((rd_T48 l0_0 a1).f4) ((rd_T48 l0_0 a1).f5)) else (spoolref10_Size.j0 k ((rd_T48 l0_0 a1).f0) (((rd_T48 l0_0 a1).f0) == 4) l0_0 l0_1 a0_2 ((rd_T48 l0_0 a1).f0) ((rd_T48 l0_0 a1).f1) ((rd_T48 l0_0 a1).f2) ((rd_T48 l0_0 a1).f3) ((rd_T48 l0_0 a1).f4) ((rd_T48 l0_0 a1).f5))) else (none)) else (none)
end
def spoolref10_Size.T5 : Bool × List (List Nat × List Nat) := (true, [([], []), ([], []), ([1], [1]), ([0, 2], [0, 2]), ([3], [3]), ([], []), ([], []), ([6], [6]), ([5, 7, 3], [5, 7]), ([4, 8], [4, 8]), ([9, 8, 0, 1, 2, 3, 4, 5, 6, 7, 8, 9], [9])])
def spoolref10_Size.B5 : List Nat := [0, 0, 2, 7, 15, 0, 0, 64, 239, 511, 1023]
theorem spoolref10_Size.tab5 : rtab .any (opsOf Tryd.f12 5) = spoolref10_Size.T5 := by kernel_rfl
theorem spoolref10_Size.bits5 : waitsOk spoolref10_Size.T5.2 spoolref10_Size.B5 = true := by kernel_rfl
set_option maxHeartbeats 8000000 in
set_option maxRecDepth 100000 in
theorem spoolref10_Size.calls (k : Nat) : ∀ (A0_0 : Option Addr) (c0_0 : Nat) (l0_0 : List (S48)) (A0_1 : Option Addr) (c0_1 : Nat) (l0_1 : List (List (S60))) (a0_2 : Int) (a1 : Int) (r : Int) (w : World) (hr0_0 : Kd.C k48 w A0_0 l0_0.length l0_0) (hc0_0 : l0_0.length ≤ c0_0) (hr0_1 : Kd.C (Kd.slice 60 k60) w A0_1 l0_1.length l0_1) (hc0_1 : l0_1.length ≤ c0_1) (h : spoolref10_Size.f k l0_0 l0_1 a0_2 a1 = some r),
  Calls Tryd.prog 12 #[.agg #[.slice A0_0 l0_0.length c0_0, .slice A0_1 l0_1.length c0_1, .int .i64 a0_2], .int .i64 a1] w fun e w' => e = .returned (.int .i64 r) ∧ Below w.heap.size w w' := by
 induction k using Nat.strongRecOn with
 | _ k ih =>
 intro A0_0 c0_0 l0_0 A0_1 c0_1 l0_1 a0_2 a1 r w hr0_0 hc0_0 hr0_1 hc0_1 h
 cases k with
 | zero => exact absurd h (by simp [spoolref10_Size.f])
 | succ k =>
 simp only [spoolref10_Size.f] at h
 have hu25 := Tryd.underlying25
 have hu48 := Tryd.underlying48
 have HR0_0 := Aside0.mk hr0_0
 have HC0_0 := Aside0.mk hc0_0
 clear hr0_0 hc0_0
 have HR0_1 := Aside0.mk hr0_1
 have HC0_1 := Aside0.mk hc0_1
 clear hr0_1 hc0_1
 have HB := Aside0.mk (Below.refl w.heap.size w)
 have H : (if 0 ≤ a1 then (if a1 < (l0_0.length : Int) then (if ((rd_T48 l0_0 a1).f0) = 3 then (spoolref10_Size.j0 k ((rd_T48 l0_0 a1).f0) (((rd_T48 l0_0 a1).f0) == 3) l0_0 l0_1 a0_2 ((rd_T48 l0_0 a1).f0) ((rd_T48 l0_0 a1).f1) ((rd_T48 l0_0 a1).f2) ((rd_T48 l0_0 a1).f3) ((rd_T48 l0_0 a1).f4) ((rd_T48 l0_0 a1).f5)) else (spoolref10_Size.j0 k ((rd_T48 l0_0 a1).f0) (((rd_T48 l0_0 a1).f0) == 4) l0_0 l0_1 a0_2 ((rd_T48 l0_0 a1).f0) ((rd_T48 l0_0 a1).f1) ((rd_T48 l0_0 a1).f2) ((rd_T48 l0_0 a1).f3) ((rd_T48 l0_0 a1).f4) ((rd_T48 l0_0 a1).f5))) else (none)) else (none)) = some r := h
 clear h
 by_cases c3 : 0 ≤ a1
 ·rw [if_pos c3] at H
  have c3b0 : decide (0 ≤ a1) = true := decide_eq_true c3
  clear c3
  by_cases c4 : a1 < (l0_0.length : Int)
  ·rw [if_pos c4] at H
   have c4b0 : decide (a1 < (l0_0.length : Int)) = true := decide_eq_true c4
   clear c4
   have HC5 := Aside0.mk H
   clear H
   go_enter Tryd.func12, Tryd.ntmps12
   go_upto_if 13 with (first | ((with_reducible refine gate_dst (N := 2) rfl ?_); refine box_event ?hg (N := 2) ?hd (cs := #[.slice A0_0 l0_0.length c0_0, .slice A0_1 l0_1.length c0_1, .int .i64 a0_2]) (t := 25) ?hr ?_; (case hd => rfl); (case hg => rfl); (case hr => first | (go_simp; done) | (go_simp; rfl)); intro gb273 hg w6 hbox hb; have n0_ := Aside0.mk (below_step (blw_ HB.out) hb); have n1_ := Aside0.mk (hbox); have n2_ := Aside0.mk ((by rw [hg]; exact (below_size (blw_ HB.out)) : w.heap.size ≤ gb273)); have n3_ := Aside0.mk ((by rw [hg]; exact (below_size (blw_ HB.out)) : w.heap.size ≤ gb273)); clear HB; have HB := n0_; have BK273 := n1_; have GW273 := n2_; have GE273 := n3_; clear n0_ n1_ n2_ n3_; clear hb hbox hg; have hcz7_0 : w6.cell? ⟨gb273, 0, none⟩ = some (.slice A0_0 l0_0.length c0_0) := (blk_cell BK273.out 0).trans rfl; have hcz7_1 : w6.cell? ⟨gb273, 1, none⟩ = some (.slice A0_1 l0_1.length c0_1) := (blk_cell BK273.out 1).trans rfl; have hcz7_2 : w6.cell? ⟨gb273, 2, none⟩ = some (.int .i64 a0_2) := (blk_cell BK273.out 2).trans rfl; have hfz7_0 := blk_frozen BK273.out 0; have hfz7_1 := blk_frozen BK273.out 1; have hfz7_2 := blk_frozen BK273.out 2; have p274 : 0 ≤ (a1 : Int) := of_decide_eq_true asa_; have q274 : a1 < (l0_0.length : Int) := of_decide_eq_true asa_; obtain ⟨ad274, e274, hx274_0, hx274_1, hx274_2, hx274_3, hx274_4, hx274_5⟩ := at_T48 HR0_0.out a1 p274 q274; cases e274; replace hx274_0 := (HB.out.cell (World.block_lt_of_cell? w _ hx274_0)).trans hx274_0; replace hx274_1 := (HB.out.cell (World.block_lt_of_cell? w _ hx274_1)).trans hx274_1; replace hx274_2 := (HB.out.cell (World.block_lt_of_cell? w _ hx274_2)).trans hx274_2; replace hx274_3 := (HB.out.cell (World.block_lt_of_cell? w _ hx274_3)).trans hx274_3; replace hx274_4 := (HB.out.cell (World.block_lt_of_cell? w _ hx274_4)).trans hx274_4; replace hx274_5 := (HB.out.cell (World.block_lt_of_cell? w _ hx274_5)).trans hx274_5; replace p274 := eq_true p274; replace q274 := eq_true q274) | ((with_reducible refine gate_dst (N := 5) rfl ?_); refine box_event ?hg (N := 5) ?hd (cs := #[.int .i64 0, .int .i64 0, .int .i64 0, .int .i64 0, .int .i64 0, .int .i64 0]) (t := 48) ?hr ?_; (case hd => rfl); (case hg => rfl); (case hr => first | (go_simp; done) | (go_simp; rfl)); intro gb275 hg w8 hbox hb; have n0_ := Aside0.mk (blk_below (g := gb273) (o := .cells #[.slice (some ad274) l0_0.length c0_0, .slice A0_1 l0_1.length c0_1, .int .i64 a0_2] 25 (0, 0)) (by exact bkw_ BK273.out) hb); have n1_ := Aside0.mk (below_step (blg_ HB.out GE273.out) hb); have n2_ := Aside0.mk (hbox); have n3_ := Aside0.mk ((by rw [hg]; exact (below_size (blg_ HB.out GE273.out)) : w.heap.size ≤ gb275)); have n4_ := Aside0.mk ((by rw [hg]; exact (below_size (blg_ HB.out GE273.out)) : w.heap.size ≤ gb275)); have n5_ := Aside0.mk ((by rw [hg]; exact Nat.ne_of_lt (blk_lt (g := gb273) (o := .cells #[.slice (some ad274) l0_0.length c0_0, .slice A0_1 l0_1.length c0_1, .int .i64 a0_2] 25 (0, 0)) (by exact bkw_ BK273.out)) : gb273 ≠ gb275)); have n6_ := Aside0.mk ((by rw [hg]; exact Nat.ne_of_gt (blk_lt (g := gb273) (o := .cells #[.slice (some ad274) l0_0.length c0_0, .slice A0_1 l0_1.length c0_1, .int .i64 a0_2] 25 (0, 0)) (by exact bkw_ BK273.out)) : gb275 ≠ gb273)); clear BK273; clear HB; have BK273 := n0_; have HB := n1_; have BK275 := n2_; have GW275 := n3_; have GE275 := n4_; have NB273_275 := n5_; have NB275_273 := n6_; clear n0_ n1_ n2_ n3_ n4_ n5_ n6_; clear hb hbox hg; have hnb9 := NB275_273.out; have hnc9 := NB273_275.out; have hcz10_0 : w8.cell? ⟨gb275, 0, none⟩ = some (.int .i64 0) := (blk_cell BK275.out 0).trans rfl; have hcz10_1 : w8.cell? ⟨gb275, 1, none⟩ = some (.int .i64 0) := (blk_cell BK275.out 1).trans rfl; have hcz10_2 : w8.cell? ⟨gb275, 2, none⟩ = some (.int .i64 0) := (blk_cell BK275.out 2).trans rfl; have hcz10_3 : w8.cell? ⟨gb275, 3, none⟩ = some (.int .i64 0) := (blk_cell BK275.out 3).trans rfl; have hcz10_4 : w8.cell? ⟨gb275, 4, none⟩ = some (.int .i64 0) := (blk_cell BK275.out 4).trans rfl; have hcz10_5 : w8.cell? ⟨gb275, 5, none⟩ = some (.int .i64 0) := (blk_cell BK275.out 5).trans rfl; have hfz10_0 := blk_frozen BK275.out 0; have hfz10_1 := blk_frozen BK275.out 1; have hfz10_2 := blk_frozen BK275.out 2; have hfz10_3 := blk_frozen BK275.out 3; have hfz10_4 := blk_frozen BK275.out 4; have hfz10_5 := blk_frozen BK275.out 5))
   (try simp only [Act.put, List.setIfInBounds_toArray, List.set_cons_zero, List.set_cons_succ])
   go_cut [13] (fun v13 wc => ∃ (kq : Nat) (x13_4 : Bool), v13 = .bool x13_4 ∧ Aside0 (spoolref10_Size.j0 kq ((rd_T48 l0_0 a1).f0) x13_4 l0_0 l0_1 a0_2 ((rd_T48 l0_0 a1).f0) ((rd_T48 l0_0 a1).f1) ((rd_T48 l0_0 a1).f2) ((rd_T48 l0_0 a1).f3) ((rd_T48 l0_0 a1).f4) ((rd_T48 l0_0 a1).f5) = some r) ∧ Aside0 (kq ≤ k) ∧ Aside0 (wc.heap[gb273]? = some (.cells #[(.slice (some ad274) l0_0.length c0_0), (.slice A0_1 l0_1.length c0_1), .int .i64 a0_2] 25 (0, 0))) ∧ Aside0 (wc.heap[gb275]? = some (.cells #[.int .i64 ((rd_T48 l0_0 a1).f0), .int .i64 ((rd_T48 l0_0 a1).f1), .int .i64 ((rd_T48 l0_0 a1).f2), .int .i64 ((rd_T48 l0_0 a1).f3), .int .i64 ((rd_T48 l0_0 a1).f4), .int .i64 ((rd_T48 l0_0 a1).f5)] 48 (0, 0))) ∧ Aside0 (Below w.heap.size w wc))
   case first =>
    have H := HC5.out
    clear HC5
    by_cases c11 : ((rd_T48 l0_0 a1).f0) = 3
    ·rw [if_pos c11] at H
     have c11b0 : (((rd_T48 l0_0 a1).f0) == 3) = true := beq_iff_eq.mpr c11
     have c11b1 : (((rd_T48 l0_0 a1).f0) != 3) = false := bne_eq_false_iff_eq.mpr c11
     clear c11
     (first | rw [c11b0] | (simp only [i64_w, i32_w]; rw [c11b0]) | skip)
     have H' := Aside0.mk H
     clear H
     go_wp2
     go_meet
     case rel => exact ⟨_, ((((rd_T48 l0_0 a1).f0) == 3)), fib_, H', ⟨by first | omega | exact Nat.le_refl _⟩, ⟨by (with_reducible repeat (first | refine blk_drewN ?_ _ | refine blk_drew ?_ | refine blk_alloc ?_ _)); refine blk_far ?_ NB273_275.out _; (with_reducible repeat (first | refine blk_drewN ?_ _ | refine blk_drew ?_ | refine blk_alloc ?_ _)); refine blk_far ?_ NB273_275.out _; (with_reducible repeat (first | refine blk_drewN ?_ _ | refine blk_drew ?_ | refine blk_alloc ?_ _)); refine blk_far ?_ NB273_275.out _; (with_reducible repeat (first | refine blk_drewN ?_ _ | refine blk_drew ?_ | refine blk_alloc ?_ _)); refine blk_far ?_ NB273_275.out _; (with_reducible repeat (first | refine blk_drewN ?_ _ | refine blk_drew ?_ | refine blk_alloc ?_ _)); refine blk_far ?_ NB273_275.out _; (with_reducible repeat (first | refine blk_drewN ?_ _ | refine blk_drew ?_ | refine blk_alloc ?_ _)); refine blk_far ?_ NB273_275.out _; exact bkw_ BK273.out⟩, ⟨by (with_reducible repeat (first | refine blk_drewN ?_ _ | refine blk_drew ?_ | refine blk_alloc ?_ _)); refine blk_put (cs := #[.int .i64 ((rd_T48 l0_0 a1).f0), .int .i64 ((rd_T48 l0_0 a1).f1), .int .i64 ((rd_T48 l0_0 a1).f2), .int .i64 ((rd_T48 l0_0 a1).f3), .int .i64 ((rd_T48 l0_0 a1).f4), .int .i64 0]) ?_ 5 _ rfl; (with_reducible repeat (first | refine blk_drewN ?_ _ | refine blk_drew ?_ | refine blk_alloc ?_ _)); refine blk_put (cs := #[.int .i64 ((rd_T48 l0_0 a1).f0), .int .i64 ((rd_T48 l0_0 a1).f1), .int .i64 ((rd_T48 l0_0 a1).f2), .int .i64 ((rd_T48 l0_0 a1).f3), .int .i64 0, .int .i64 0]) ?_ 4 _ rfl; (with_reducible repeat (first | refine blk_drewN ?_ _ | refine blk_drew ?_ | refine blk_alloc ?_ _)); refine blk_put (cs := #[.int .i64 ((rd_T48 l0_0 a1).f0), .int .i64 ((rd_T48 l0_0 a1).f1), .int .i64 ((rd_T48 l0_0 a1).f2), .int .i64 0, .int .i64 0, .int .i64 0]) ?_ 3 _ rfl; (with_reducible repeat (first | refine blk_drewN ?_ _ | refine blk_drew ?_ | refine blk_alloc ?_ _)); refine blk_put (cs := #[.int .i64 ((rd_T48 l0_0 a1).f0), .int .i64 ((rd_T48 l0_0 a1).f1), .int .i64 0, .int .i64 0, .int .i64 0, .int .i64 0]) ?_ 2 _ rfl; (with_reducible repeat (first | refine blk_drewN ?_ _ | refine blk_drew ?_ | refine blk_alloc ?_ _)); refine blk_put (cs := #[.int .i64 ((rd_T48 l0_0 a1).f0), .int .i64 0, .int .i64 0, .int .i64 0, .int .i64 0, .int .i64 0]) ?_ 1 _ rfl; (with_reducible repeat (first | refine blk_drewN ?_ _ | refine blk_drew ?_ | refine blk_alloc ?_ _)); refine blk_put (cs := #[.int .i64 0, .int .i64 0, .int .i64 0, .int .i64 0, .int .i64 0, .int .i64 0]) ?_ 0 _ rfl; exact bkw_ BK275.out⟩, ⟨bla_ HB.out⟩⟩
    ·rw [if_neg c11] at H
     have c11b0 : (((rd_T48 l0_0 a1).f0) == 3) = false := beq_eq_false_iff_ne.mpr c11
     have c11b1 : (((rd_T48 l0_0 a1).f0) != 3) = true := bne_iff_ne.mpr c11
     (first | rw [c11b0] | (simp only [i64_w, i32_w]; rw [c11b0]) | skip)
     have H' := Aside0.mk H
     clear H
     go_wp2
     go_meet
     case rel => exact ⟨_, ((((rd_T48 l0_0 a1).f0) == 4)), fib_, H', ⟨by first | omega | exact Nat.le_refl _⟩, ⟨by (with_reducible repeat (first | refine blk_drewN ?_ _ | refine blk_drew ?_ | refine blk_alloc ?_ _)); refine blk_far ?_ NB273_275.out _; (with_reducible repeat (first | refine blk_drewN ?_ _ | refine blk_drew ?_ | refine blk_alloc ?_ _)); refine blk_far ?_ NB273_275.out _; (with_reducible repeat (first | refine blk_drewN ?_ _ | refine blk_drew ?_ | refine blk_alloc ?_ _)); refine blk_far ?_ NB273_275.out _; (with_reducible repeat (first | refine blk_drewN ?_ _ | refine blk_drew ?_ | refine blk_alloc ?_ _)); refine blk_far ?_ NB273_275.out _; (with_reducible repeat (first | refine blk_drewN ?_ _ | refine blk_drew ?_ | refine blk_alloc ?_ _)); refine blk_far ?_ NB273_275.out _; (with_reducible repeat (first | refine blk_drewN ?_ _ | refine blk_drew ?_ | refine blk_alloc ?_ _)); refine blk_far ?_ NB273_275.out _; exact bkw_ BK273.out⟩, ⟨by (with_reducible repeat (first | refine blk_drewN ?_ _ | refine blk_drew ?_ | refine blk_alloc ?_ _)); refine blk_put (cs := #[.int .i64 ((rd_T48 l0_0 a1).f0), .int .i64 ((rd_T48 l0_0 a1).f1), .int .i64 ((rd_T48 l0_0 a1).f2), .int .i64 ((rd_T48 l0_0 a1).f3), .int .i64 ((rd_T48 l0_0 a1).f4), .int .i64 0]) ?_ 5 _ rfl; (with_reducible repeat (first | refine blk_drewN ?_ _ | refine blk_drew ?_ | refine blk_alloc ?_ _)); refine blk_put (cs := #[.int .i64 ((rd_T48 l0_0 a1).f0), .int .i64 ((rd_T48 l0_0 a1).f1), .int .i64 ((rd_T48 l0_0 a1).f2), .int .i64 ((rd_T48 l0_0 a1).f3), .int .i64 0, .int .i64 0]) ?_ 4 _ rfl; (with_reducible repeat (first | refine blk_drewN ?_ _ | refine blk_drew ?_ | refine blk_alloc ?_ _)); refine blk_put (cs := #[.int .i64 ((rd_T48 l0_0 a1).f0), .int .i64 ((rd_T48 l0_0 a1).f1), .int .i64 ((rd_T48 l0_0 a1).f2), .int .i64 0, .int .i64 0, .int .i64 0]) ?_ 3 _ rfl; (with_reducible repeat (first | refine blk_drewN ?_ _ | refine blk_drew ?_ | refine blk_alloc ?_ _)); refine blk_put (cs := #[.int .i64 ((rd_T48 l0_0 a1).f0), .int .i64 ((rd_T48 l0_0 a1).f1), .int .i64 0, .int .i64 0, .int .i64 0, .int .i64 0]) ?_ 2 _ rfl; (with_reducible repeat (first | refine blk_drewN ?_ _ | refine blk_drew ?_ | refine blk_alloc ?_ _)); refine blk_put (cs := #[.int .i64 ((rd_T48 l0_0 a1).f0), .int .i64 0, .int .i64 0, .int .i64 0, .int .i64 0, .int .i64 0]) ?_ 1 _ rfl; (with_reducible repeat (first | refine blk_drewN ?_ _ | refine blk_drew ?_ | refine blk_alloc ?_ _)); refine blk_put (cs := #[.int .i64 0, .int .i64 0, .int .i64 0, .int .i64 0, .int .i64 0, .int .i64 0]) ?_ 0 _ rfl; exact bkw_ BK275.out⟩, ⟨bla_ HB.out⟩⟩
   case rest =>
    clear HC5
    try clear c1
    try clear p2
    try clear q2
    try clear hx2
    try clear c3
    try clear c3b0
    try clear c4
    try clear c4b0
    try clear c9
    try clear c11
    try clear c11b0
    try clear c11b1
    try clear hcz10_0
    try clear hcz10_1
    try clear hcz10_2
    try clear hcz10_3
    try clear hcz10_4
    try clear hcz10_5
    try clear hcz7_0
    try clear hcz7_1
    try clear hcz7_2
    try clear hfz10_0
    try clear hfz10_1
    try clear hfz10_2
    try clear hfz10_3
    try clear hfz10_4
    try clear hfz10_5
    try clear hfz7_0
    try clear hfz7_1
    try clear hfz7_2
    try clear hx274_0
    try clear hx274_1
    try clear hx274_2
    try clear hx274_3
    try clear hx274_4
    try clear hx274_5
    try clear p274
    try clear q274
    obtain ⟨kq, x13_4, rfl, HA, HJ4, BK273, BK275, HB⟩ := hcut
    cases kq with
    | zero => exact absurd HA.out (by simp [spoolref10_Size.j0])
    | succ kj4 =>
     have H := HA.out
     clear HA
     simp only [spoolref10_Size.j0] at H
     by_cases c12 : x13_4 = true
     ·subst c12
      have H1 : ((spoolref10_Size.f kj4 l0_0 l0_1 a0_2 ((rd_T48 l0_0 a1).f1)).bind fun t276 => ((spoolref10_Size.f kj4 l0_0 l0_1 a0_2 ((rd_T48 l0_0 a1).f2)).bind fun t277 => (some (wrap64 ((wrap64 (1 + t276)) + t277))))) = some r := by rw [if_pos rfl] at H; exact H
      clear H
      have H := H1
      clear H1
      replace H := Option.bind_eq_some_iff.mp H
      obtain ⟨t276, A130, H⟩ := H
      replace H : ((spoolref10_Size.f kj4 l0_0 l0_1 a0_2 ((rd_T48 l0_0 a1).f2)).bind fun t277 => (some (wrap64 ((wrap64 (1 + t276)) + t277)))) = some r := H
      have A13 := Aside0.mk A130
      clear A130
      replace H := Option.bind_eq_some_iff.mp H
      obtain ⟨t277, A140, H⟩ := H
      replace H : (some (wrap64 ((wrap64 (1 + t276)) + t277))) = some r := H
      have A14 := Aside0.mk A140
      clear A140
      obtain rfl := Option.some.inj H
      try go_wp2
      have n0_ := Aside0.mk (blk_drew BK273.out)
      have n1_ := Aside0.mk (blk_drew BK275.out)
      have n2_ := Aside0.mk (below_drew1 HB.out)
      clear BK273
      clear BK275
      clear HB
      have BK273 := n0_
      have BK275 := n1_
      have HB := n2_
      clear n0_ n1_ n2_
      refine start_ (n := 11) (S := fun w' => w'.cell? ⟨gb273, 0, none⟩ = some (.slice (some ad274) l0_0.length c0_0) ∧ w'.cell? ⟨gb273, 1, none⟩ = some (.slice A0_1 l0_1.length c0_1) ∧ w'.cell? ⟨gb273, 2, none⟩ = some (.int .i64 a0_2) ∧ w'.cell? ⟨gb275, 0, none⟩ = some (.int .i64 ((rd_T48 l0_0 a1).f0)) ∧ w'.cell? ⟨gb275, 1, none⟩ = some (.int .i64 ((rd_T48 l0_0 a1).f1)) ∧ w'.cell? ⟨gb275, 2, none⟩ = some (.int .i64 ((rd_T48 l0_0 a1).f2)) ∧ w'.cell? ⟨gb275, 3, none⟩ = some (.int .i64 ((rd_T48 l0_0 a1).f3)) ∧ w'.cell? ⟨gb275, 4, none⟩ = some (.int .i64 ((rd_T48 l0_0 a1).f4)) ∧ w'.cell? ⟨gb275, 5, none⟩ = some (.int .i64 ((rd_T48 l0_0 a1).f5))) (ds := []) #[false, false, false, false, false, false, false, false, false, false, false] (by kernel_rfl) rfl rfl ⟨(blk_cell BK273.out 0).trans rfl, (blk_cell BK273.out 1).trans rfl, (blk_cell BK273.out 2).trans rfl, (blk_cell BK275.out 0).trans rfl, (blk_cell BK275.out 1).trans rfl, (blk_cell BK275.out 2).trans rfl, (blk_cell BK275.out 3).trans rfl, (blk_cell BK275.out 4).trans rfl, (blk_cell BK275.out 5).trans rfl⟩ (fun hHeld => ?_); refine with_tabW spoolref10_Size.tab5 spoolref10_Size.bits5 (fun HT_ HW_ => ?_)
      generalize wc.drew = w15 at BK273 BK275 HB hHeld ⊢
      refine pq_ (i := 1) (n := 17) (bA 11 2) (any_of HT_.out (by kernel_rfl)) ?_
      refine pq_ (i := 6) (n := 22) (bA 11 66) (any_of HT_.out (by kernel_rfl)) ?_
      refine take_ (i := 0) (N := some 16) (v := ?_) (a' := ?_) (bA 11 67) rfl rfl (take_ofW HT_.out HW_.out (by kernel_rfl)) (fun _ _ _ h => h) (Or.inl ⟨by rfl, ?_⟩) hHeld ?_ ?_
      rotate_left
      ·rintro w' ⟨s0, s1, s2, s3, s4, s5, s6, s7, s8⟩
       go_simp
       with_reducible rfl
      rotate_left
      ·exact nrm_
      refine take_ (i := 2) (N := some 18) (v := ?_) (a' := ?_) (bA 11 71) rfl rfl (take_ofW HT_.out HW_.out (by kernel_rfl)) (fun _ _ _ h => h) (Or.inl ⟨by rfl, ?_⟩) hHeld ?_ ?_
      rotate_left
      ·rintro w' ⟨s0, s1, s2, s3, s4, s5, s6, s7, s8⟩
       go_simp
       with_reducible rfl
      rotate_left
      ·exact nrm_
      refine take_ (i := 5) (N := some 21) (v := ?_) (a' := ?_) (bA 11 103) rfl rfl (take_ofW HT_.out HW_.out (by kernel_rfl)) (fun _ _ _ h => h) (Or.inl ⟨by rfl, ?_⟩) hHeld ?_ ?_
      rotate_left
      ·rintro w' ⟨s0, s1, s2, s3, s4, s5, s6, s7, s8⟩
       go_simp
       with_reducible rfl
      rotate_left
      ·exact nrm_
      refine take_ (i := 7) (N := some 23) (v := ?_) (a' := ?_) (bA 11 231) rfl rfl (take_ofW HT_.out HW_.out (by kernel_rfl)) (fun _ _ _ h => h) (Or.inl ⟨by rfl, ?_⟩) hHeld ?_ ?_
      rotate_left
      ·rintro w' ⟨s0, s1, s2, s3, s4, s5, s6, s7, s8⟩
       go_simp
       with_reducible rfl
      rotate_left
      ·exact nrm_
      refine one_ (i := 3) (N := some 19) (bA 11 239) rfl rfl (one_of HT_.out (by kernel_rfl)) (by decide) (fun K hK => ?_)
      refine goes_ Tryd.func12 (by kernel_rfl) rfl #[.agg #[.slice (some ad274) l0_0.length c0_0, .slice A0_1 l0_1.length c0_1, .int .i64 a0_2], .int .i64 ((rd_T48 l0_0 a1).f1)] (by rfl) rfl rfl lma_ ?_
      with_reducible refine (ih kj4 (by have := HJ4.out; omega) _ _ l0_0 _ _ l0_1 a0_2 ((rd_T48 l0_0 a1).f1) t276 _ ?side1 ?side2 ?side3 ?side4 A13.out).mono ?_
      (case side1 => repeat (first | exact (Kd.C_below HR0_0.out HB.out) | (with_reducible refine Kd.C_alloc ?_ _) | (with_reducible refine Kd.C_drewN ?_ _) | (with_reducible refine Kd.C_drew ?_)))
      (case side2 => exact HC0_0.out)
      (case side3 => repeat (first | exact (Kd.C_below HR0_1.out HB.out) | (with_reducible refine Kd.C_alloc ?_ _) | (with_reducible refine Kd.C_drewN ?_ _) | (with_reducible refine Kd.C_drew ?_)))
      (case side4 => exact HC0_1.out)
      rintro e w16 ⟨rfl, hb⟩
      refine ⟨_, rfl, ?_⟩
      have n0_ := Aside0.mk (blk_below (g := gb273) (o := .cells #[.slice (some ad274) l0_0.length c0_0, .slice A0_1 l0_1.length c0_1, .int .i64 a0_2] 25 (0, 0)) (by exact bkw_ BK273.out) hb)
      have n1_ := Aside0.mk (blk_below (g := gb275) (o := .cells #[.int .i64 ((rd_T48 l0_0 a1).f0), .int .i64 ((rd_T48 l0_0 a1).f1), .int .i64 ((rd_T48 l0_0 a1).f2), .int .i64 ((rd_T48 l0_0 a1).f3), .int .i64 ((rd_T48 l0_0 a1).f4), .int .i64 ((rd_T48 l0_0 a1).f5)] 48 (0, 0)) (by exact bkw_ BK275.out) hb)
      have n2_ := Aside0.mk (below_step (bla_ HB.out) hb)
      clear BK273
      clear BK275
      clear HB
      have BK273 := n0_
      have BK275 := n1_
      have HB := n2_
      clear n0_ n1_ n2_
      (try clear hb)
      (try clear hb2)
      (try clear hk)
      (try clear hi)
      refine hK.out _ _ ⟨(blk_cell BK273.out 0).trans rfl, (blk_cell BK273.out 1).trans rfl, (blk_cell BK273.out 2).trans rfl, (blk_cell BK275.out 0).trans rfl, (blk_cell BK275.out 1).trans rfl, (blk_cell BK275.out 2).trans rfl, (blk_cell BK275.out 3).trans rfl, (blk_cell BK275.out 4).trans rfl, (blk_cell BK275.out 5).trans rfl⟩ (fun hHeld => ?_)
      clear hK K
      refine nm_ (n := 19) ?_
      refine pq_ (i := 4) (n := 20) (bA 11 255) (any_of HT_.out (by kernel_rfl)) ?_
      refine one_ (i := 8) (N := some 24) (bA 11 511) rfl rfl (one_of HT_.out (by kernel_rfl)) (by decide) (fun K hK => ?_)
      refine goes_ Tryd.func12 (by kernel_rfl) rfl #[.agg #[.slice (some ad274) l0_0.length c0_0, .slice A0_1 l0_1.length c0_1, .int .i64 a0_2], .int .i64 ((rd_T48 l0_0 a1).f2)] (by rfl) rfl rfl lma_ ?_
      with_reducible refine (ih kj4 (by have := HJ4.out; omega) _ _ l0_0 _ _ l0_1 a0_2 ((rd_T48 l0_0 a1).f2) t277 _ ?side1 ?side2 ?side3 ?side4 A14.out).mono ?_
      (case side1 => repeat (first | exact (Kd.C_below HR0_0.out HB.out) | (with_reducible refine Kd.C_alloc ?_ _) | (with_reducible refine Kd.C_drewN ?_ _) | (with_reducible refine Kd.C_drew ?_)))
      (case side2 => exact HC0_0.out)
      (case side3 => repeat (first | exact (Kd.C_below HR0_1.out HB.out) | (with_reducible refine Kd.C_alloc ?_ _) | (with_reducible refine Kd.C_drewN ?_ _) | (with_reducible refine Kd.C_drew ?_)))
      (case side4 => exact HC0_1.out)
      rintro e w17 ⟨rfl, hb⟩
      refine ⟨_, rfl, ?_⟩
      have n0_ := Aside0.mk (blk_below (g := gb273) (o := .cells #[.slice (some ad274) l0_0.length c0_0, .slice A0_1 l0_1.length c0_1, .int .i64 a0_2] 25 (0, 0)) (by exact bkw_ BK273.out) hb)
      have n1_ := Aside0.mk (blk_below (g := gb275) (o := .cells #[.int .i64 ((rd_T48 l0_0 a1).f0), .int .i64 ((rd_T48 l0_0 a1).f1), .int .i64 ((rd_T48 l0_0 a1).f2), .int .i64 ((rd_T48 l0_0 a1).f3), .int .i64 ((rd_T48 l0_0 a1).f4), .int .i64 ((rd_T48 l0_0 a1).f5)] 48 (0, 0)) (by exact bkw_ BK275.out) hb)
      have n2_ := Aside0.mk (below_step (bla_ HB.out) hb)
      clear BK273
      clear BK275
      clear HB
      have BK273 := n0_
      have BK275 := n1_
      have HB := n2_
      clear n0_ n1_ n2_
      (try clear hb)
      (try clear hb2)
      (try clear hk)
      (try clear hi)
      refine hK.out _ _ ⟨(blk_cell BK273.out 0).trans rfl, (blk_cell BK273.out 1).trans rfl, (blk_cell BK273.out 2).trans rfl, (blk_cell BK275.out 0).trans rfl, (blk_cell BK275.out 1).trans rfl, (blk_cell BK275.out 2).trans rfl, (blk_cell BK275.out 3).trans rfl, (blk_cell BK275.out 4).trans rfl, (blk_cell BK275.out 5).trans rfl⟩ (fun hHeld => ?_)
      clear hK K
      refine nm_ (n := 24) ?_
      refine pq_ (i := 9) (n := 25) (bA 11 1023) (any_of HT_.out (by kernel_rfl)) ?_
      refine pq_ (i := 10) (n := 4) (bA 11 2047) (any_of HT_.out (by kernel_rfl)) ?_
      refine done_ (done_of HT_.out (by kernel_rfl)) ?_
      try go_wp2
      go_ret
      exact ⟨fia_, bla_ HB.out⟩
     ·replace c12 := Bool.eq_false_iff.mpr c12
      subst c12
      have H1 : (if ((rd_T48 l0_0 a1).f0) = 5 then ((spoolref10_Size.f kj4 l0_0 l0_1 a0_2 ((rd_T48 l0_0 a1).f1)).bind fun t278 => (some (wrap64 (1 + t278)))) else (some 1)) = some r := by rw [if_neg (show ¬ (false = true) by decide)] at H; exact H
      clear H
      have H := H1
      clear H1
      by_cases c18 : ((rd_T48 l0_0 a1).f0) = 5
      ·rw [if_pos c18] at H
       have c18b0 : (((rd_T48 l0_0 a1).f0) == 5) = true := beq_iff_eq.mpr c18
       have c18b1 : (((rd_T48 l0_0 a1).f0) != 5) = false := bne_eq_false_iff_eq.mpr c18
       clear c18
       replace H := Option.bind_eq_some_iff.mp H
       obtain ⟨t278, A190, H⟩ := H
       replace H : (some (wrap64 (1 + t278))) = some r := H
       have A19 := Aside0.mk A190
       clear A190
       obtain rfl := Option.some.inj H
       have hnb20 := NB273_275.out
       have hnc20 := NB275_273.out
       have hcz21_0 : wc.cell? ⟨gb273, 0, none⟩ = some (.slice (some ad274) l0_0.length c0_0) := (blk_cell BK273.out 0).trans rfl
       have hcz21_1 : wc.cell? ⟨gb273, 1, none⟩ = some (.slice A0_1 l0_1.length c0_1) := (blk_cell BK273.out 1).trans rfl
       have hcz21_2 : wc.cell? ⟨gb273, 2, none⟩ = some (.int .i64 a0_2) := (blk_cell BK273.out 2).trans rfl
       have hfz21_0 := blk_frozen BK273.out 0
       have hfz21_1 := blk_frozen BK273.out 1
       have hfz21_2 := blk_frozen BK273.out 2
       have hcz22_0 : wc.cell? ⟨gb275, 0, none⟩ = some (.int .i64 ((rd_T48 l0_0 a1).f0)) := (blk_cell BK275.out 0).trans rfl
       have hcz22_1 : wc.cell? ⟨gb275, 1, none⟩ = some (.int .i64 ((rd_T48 l0_0 a1).f1)) := (blk_cell BK275.out 1).trans rfl
       have hcz22_2 : wc.cell? ⟨gb275, 2, none⟩ = some (.int .i64 ((rd_T48 l0_0 a1).f2)) := (blk_cell BK275.out 2).trans rfl
       have hcz22_3 : wc.cell? ⟨gb275, 3, none⟩ = some (.int .i64 ((rd_T48 l0_0 a1).f3)) := (blk_cell BK275.out 3).trans rfl
       have hcz22_4 : wc.cell? ⟨gb275, 4, none⟩ = some (.int .i64 ((rd_T48 l0_0 a1).f4)) := (blk_cell BK275.out 4).trans rfl
       have hcz22_5 : wc.cell? ⟨gb275, 5, none⟩ = some (.int .i64 ((rd_T48 l0_0 a1).f5)) := (blk_cell BK275.out 5).trans rfl
       have hfz22_0 := blk_frozen BK275.out 0
       have hfz22_1 := blk_frozen BK275.out 1
       have hfz22_2 := blk_frozen BK275.out 2
       have hfz22_3 := blk_frozen BK275.out 3
       have hfz22_4 := blk_frozen BK275.out 4
       have hfz22_5 := blk_frozen BK275.out 5
       go_wp2_with (first | ((with_reducible refine gate_callee (f := 12) rfl ?_); refine goesL_ (some 31) rfl rfl Tryd.func12 (by kernel_rfl) rfl #[.agg #[.slice (some ad274) l0_0.length c0_0, .slice A0_1 l0_1.length c0_1, .int .i64 a0_2], .int .i64 ((rd_T48 l0_0 a1).f1)] rfl lma_ ?_; (with_reducible refine (ih kj4 (by have := HJ4.out; omega) _ _ l0_0 _ _ l0_1 a0_2 ((rd_T48 l0_0 a1).f1) t278 _ ?side1 ?side2 ?side3 ?side4 A19.out).mono ?_); (case side1 => repeat (first | exact (Kd.C_below HR0_0.out HB.out) | (with_reducible refine Kd.C_alloc ?_ _) | (with_reducible refine Kd.C_drewN ?_ _) | (with_reducible refine Kd.C_drew ?_))); (case side2 => exact HC0_0.out); (case side3 => repeat (first | exact (Kd.C_below HR0_1.out HB.out) | (with_reducible refine Kd.C_alloc ?_ _) | (with_reducible refine Kd.C_drewN ?_ _) | (with_reducible refine Kd.C_drew ?_))); (case side4 => exact HC0_1.out); rintro e w23 ⟨rfl, hb⟩; refine ⟨_, rfl, ?_⟩; have n0_ := Aside0.mk (blk_below (g := gb273) (o := .cells #[.slice (some ad274) l0_0.length c0_0, .slice A0_1 l0_1.length c0_1, .int .i64 a0_2] 25 (0, 0)) (by exact bkw_ BK273.out) hb); have n1_ := Aside0.mk (blk_below (g := gb275) (o := .cells #[.int .i64 ((rd_T48 l0_0 a1).f0), .int .i64 ((rd_T48 l0_0 a1).f1), .int .i64 ((rd_T48 l0_0 a1).f2), .int .i64 ((rd_T48 l0_0 a1).f3), .int .i64 ((rd_T48 l0_0 a1).f4), .int .i64 ((rd_T48 l0_0 a1).f5)] 48 (0, 0)) (by exact bkw_ BK275.out) hb); have n2_ := Aside0.mk (below_step (bla_ HB.out) hb); clear BK273; clear BK275; clear HB; have BK273 := n0_; have BK275 := n1_; have HB := n2_; clear n0_ n1_ n2_; (try clear hb); (try clear hb2); (try clear hk); (try clear hi)))
       go_ret
       exact ⟨fia_, bla_ HB.out⟩
      ·rw [if_neg c18] at H
       have c18b0 : (((rd_T48 l0_0 a1).f0) == 5) = false := beq_eq_false_iff_ne.mpr c18
       have c18b1 : (((rd_T48 l0_0 a1).f0) != 5) = true := bne_iff_ne.mpr c18
       obtain rfl := Option.some.inj H
       go_wp2
       go_ret
       exact ⟨fia_, bla_ HB.out⟩
  ·rw [if_neg c4] at H
   exact absurd H (by simp)
 ·rw [if_neg c3] at H
  exact absurd H (by simp)
def spoollaw14_R10Far.f (k : Nat) (l0_0 : List (S48)) (l0_1 : List (List (S60))) (a0_2 : Int) : Option (Bool) := (spoolref10_Far.f k l0_0 l0_1 a0_2).bind fun t280 => (if t280 = true then (some true) else ((spoolref10_Check.f k l0_0 l0_1 a0_2).bind fun t281 => (if t281 = 0 then ((spoolref10_Size.f k l0_0 l0_1 a0_2 a0_2).bind fun t282 => (some (decide (t282 > 200)))) else (some false))))
set_option maxHeartbeats 8000000 in
set_option maxRecDepth 100000 in
theorem spoollaw14_R10Far.calls (k : Nat) (A0_0 : Option Addr) (c0_0 : Nat) (l0_0 : List (S48)) (A0_1 : Option Addr) (c0_1 : Nat) (l0_1 : List (List (S60))) (a0_2 : Int) (r : Bool) (w : World) (hr0_0 : Kd.C k48 w A0_0 l0_0.length l0_0) (hc0_0 : l0_0.length ≤ c0_0) (hr0_1 : Kd.C (Kd.slice 60 k60) w A0_1 l0_1.length l0_1) (hc0_1 : l0_1.length ≤ c0_1) (h : spoollaw14_R10Far.f k l0_0 l0_1 a0_2 = some r) :
  Calls Tryd.prog 4 #[.agg #[.slice A0_0 l0_0.length c0_0, .slice A0_1 l0_1.length c0_1, .int .i64 a0_2]] w fun e w' => e = .returned (.bool r) ∧ Below w.heap.size w w' := by
 have hu25 := Tryd.underlying25
 have HR0_0 := Aside0.mk hr0_0
 have HC0_0 := Aside0.mk hc0_0
 clear hr0_0 hc0_0
 have HR0_1 := Aside0.mk hr0_1
 have HC0_1 := Aside0.mk hc0_1
 clear hr0_1 hc0_1
 have HB := Aside0.mk (Below.refl w.heap.size w)
 have H : ((spoolref10_Far.f k l0_0 l0_1 a0_2).bind fun t280 => (if t280 = true then (some true) else ((spoolref10_Check.f k l0_0 l0_1 a0_2).bind fun t281 => (if t281 = 0 then ((spoolref10_Size.f k l0_0 l0_1 a0_2 a0_2).bind fun t282 => (some (decide (t282 > 200)))) else (some false))))) = some r := h
 clear h
 replace H := Option.bind_eq_some_iff.mp H
 obtain ⟨t280, A20, H⟩ := H
 replace H : (if t280 = true then (some true) else ((spoolref10_Check.f k l0_0 l0_1 a0_2).bind fun t281 => (if t281 = 0 then ((spoolref10_Size.f k l0_0 l0_1 a0_2 a0_2).bind fun t282 => (some (decide (t282 > 200)))) else (some false)))) = some r := H
 have A2 := Aside0.mk A20
 clear A20
 by_cases c3 : t280 = true
 ·subst c3
  have H1 : (some true) = some r := by rw [if_pos rfl] at H; exact H
  clear H
  have H := H1
  clear H1
  obtain rfl := Option.some.inj H
  go_enter Tryd.func4, Tryd.ntmps4
  go_wp2_with (first | ((with_reducible refine gate_dst (N := 1) rfl ?_); refine box_event ?hg (N := 1) ?hd (cs := #[.slice A0_0 l0_0.length c0_0, .slice A0_1 l0_1.length c0_1, .int .i64 a0_2]) (t := 25) ?hr ?_; (case hd => rfl); (case hg => rfl); (case hr => first | (go_simp; done) | (go_simp; rfl)); intro gb279 hg w4 hbox hb; have n0_ := Aside0.mk (below_step (blw_ HB.out) hb); have n1_ := Aside0.mk (hbox); have n2_ := Aside0.mk ((by rw [hg]; exact (below_size (blw_ HB.out)) : w.heap.size ≤ gb279)); have n3_ := Aside0.mk ((by rw [hg]; exact (below_size (blw_ HB.out)) : w.heap.size ≤ gb279)); clear HB; have HB := n0_; have BK279 := n1_; have GW279 := n2_; have GE279 := n3_; clear n0_ n1_ n2_ n3_; clear hb hbox hg; have hcz5_0 : w4.cell? ⟨gb279, 0, none⟩ = some (.slice A0_0 l0_0.length c0_0) := (blk_cell BK279.out 0).trans rfl; have hcz5_1 : w4.cell? ⟨gb279, 1, none⟩ = some (.slice A0_1 l0_1.length c0_1) := (blk_cell BK279.out 1).trans rfl; have hcz5_2 : w4.cell? ⟨gb279, 2, none⟩ = some (.int .i64 a0_2) := (blk_cell BK279.out 2).trans rfl; have hfz5_0 := blk_frozen BK279.out 0; have hfz5_1 := blk_frozen BK279.out 1; have hfz5_2 := blk_frozen BK279.out 2) | ((with_reducible refine gate_callee (f := 11) rfl ?_); refine goesL_ (some 4) rfl rfl Tryd.func11 (by kernel_rfl) rfl #[.agg #[.slice A0_0 l0_0.length c0_0, .slice A0_1 l0_1.length c0_1, .int .i64 a0_2]] rfl lma_ ?_; (with_reducible refine (spoolref10_Far.calls k _ _ l0_0 _ _ l0_1 a0_2 true _ ?side1 ?side2 ?side3 ?side4 A2.out).mono ?_); (case side1 => repeat (first | exact (Kd.C_below HR0_0.out HB.out) | (with_reducible refine Kd.C_alloc ?_ _) | (with_reducible refine Kd.C_drewN ?_ _) | (with_reducible refine Kd.C_drew ?_))); (case side2 => exact HC0_0.out); (case side3 => repeat (first | exact (Kd.C_below HR0_1.out HB.out) | (with_reducible refine Kd.C_alloc ?_ _) | (with_reducible refine Kd.C_drewN ?_ _) | (with_reducible refine Kd.C_drew ?_))); (case side4 => exact HC0_1.out); rintro e w6 ⟨rfl, hb⟩; refine ⟨_, rfl, ?_⟩; have n0_ := Aside0.mk (blk_below (g := gb279) (o := .cells #[.slice A0_0 l0_0.length c0_0, .slice A0_1 l0_1.length c0_1, .int .i64 a0_2] 25 (0, 0)) (by exact bkw_ BK279.out) hb); have n1_ := Aside0.mk (below_step (blg_ HB.out GE279.out) hb); clear BK279; clear HB; have BK279 := n0_; have HB := n1_; clear n0_ n1_; (try clear hb); (try clear hb2); (try clear hk); (try clear hi)))
  go_ret
  exact ⟨fia_, blg_ HB.out GE279.out⟩
 ·replace c3 := Bool.eq_false_iff.mpr c3
  subst c3
  have H1 : ((spoolref10_Check.f k l0_0 l0_1 a0_2).bind fun t281 => (if t281 = 0 then ((spoolref10_Size.f k l0_0 l0_1 a0_2 a0_2).bind fun t282 => (some (decide (t282 > 200)))) else (some false))) = some r := by rw [if_neg (show ¬ (false = true) by decide)] at H; exact H
  clear H
  have H := H1
  clear H1
  replace H := Option.bind_eq_some_iff.mp H
  obtain ⟨t281, A70, H⟩ := H
  replace H : (if t281 = 0 then ((spoolref10_Size.f k l0_0 l0_1 a0_2 a0_2).bind fun t282 => (some (decide (t282 > 200)))) else (some false)) = some r := H
  have A7 := Aside0.mk A70
  clear A70
  by_cases c8 : t281 = 0
  ·rw [if_pos c8] at H
   have c8b0 : (t281 == 0) = true := beq_iff_eq.mpr c8
   have c8b1 : (t281 != 0) = false := bne_eq_false_iff_eq.mpr c8
   clear c8
   replace H := Option.bind_eq_some_iff.mp H
   obtain ⟨t282, A90, H⟩ := H
   replace H : (some (decide (t282 > 200))) = some r := H
   have A9 := Aside0.mk A90
   clear A90
   obtain rfl := Option.some.inj H
   go_enter Tryd.func4, Tryd.ntmps4
   go_wp2_with (first | ((with_reducible refine gate_dst (N := 1) rfl ?_); refine box_event ?hg (N := 1) ?hd (cs := #[.slice A0_0 l0_0.length c0_0, .slice A0_1 l0_1.length c0_1, .int .i64 a0_2]) (t := 25) ?hr ?_; (case hd => rfl); (case hg => rfl); (case hr => first | (go_simp; done) | (go_simp; rfl)); intro gb279 hg w10 hbox hb; have n0_ := Aside0.mk (below_step (blw_ HB.out) hb); have n1_ := Aside0.mk (hbox); have n2_ := Aside0.mk ((by rw [hg]; exact (below_size (blw_ HB.out)) : w.heap.size ≤ gb279)); have n3_ := Aside0.mk ((by rw [hg]; exact (below_size (blw_ HB.out)) : w.heap.size ≤ gb279)); clear HB; have HB := n0_; have BK279 := n1_; have GW279 := n2_; have GE279 := n3_; clear n0_ n1_ n2_ n3_; clear hb hbox hg; have hcz11_0 : w10.cell? ⟨gb279, 0, none⟩ = some (.slice A0_0 l0_0.length c0_0) := (blk_cell BK279.out 0).trans rfl; have hcz11_1 : w10.cell? ⟨gb279, 1, none⟩ = some (.slice A0_1 l0_1.length c0_1) := (blk_cell BK279.out 1).trans rfl; have hcz11_2 : w10.cell? ⟨gb279, 2, none⟩ = some (.int .i64 a0_2) := (blk_cell BK279.out 2).trans rfl; have hfz11_0 := blk_frozen BK279.out 0; have hfz11_1 := blk_frozen BK279.out 1; have hfz11_2 := blk_frozen BK279.out 2) | ((with_reducible refine gate_callee (f := 11) rfl ?_); refine goesL_ (some 4) rfl rfl Tryd.func11 (by kernel_rfl) rfl #[.agg #[.slice A0_0 l0_0.length c0_0, .slice A0_1 l0_1.length c0_1, .int .i64 a0_2]] rfl lma_ ?_; (with_reducible refine (spoolref10_Far.calls k _ _ l0_0 _ _ l0_1 a0_2 false _ ?side1 ?side2 ?side3 ?side4 A2.out).mono ?_); (case side1 => repeat (first | exact (Kd.C_below HR0_0.out HB.out) | (with_reducible refine Kd.C_alloc ?_ _) | (with_reducible refine Kd.C_drewN ?_ _) | (with_reducible refine Kd.C_drew ?_))); (case side2 => exact HC0_0.out); (case side3 => repeat (first | exact (Kd.C_below HR0_1.out HB.out) | (with_reducible refine Kd.C_alloc ?_ _) | (with_reducible refine Kd.C_drewN ?_ _) | (with_reducible refine Kd.C_drew ?_))); (case side4 => exact HC0_1.out); rintro e w12 ⟨rfl, hb⟩; refine ⟨_, rfl, ?_⟩; have n0_ := Aside0.mk (blk_below (g := gb279) (o := .cells #[.slice A0_0 l0_0.length c0_0, .slice A0_1 l0_1.length c0_1, .int .i64 a0_2] 25 (0, 0)) (by exact bkw_ BK279.out) hb); have n1_ := Aside0.mk (below_step (blg_ HB.out GE279.out) hb); clear BK279; clear HB; have BK279 := n0_; have HB := n1_; clear n0_ n1_; (try clear hb); (try clear hb2); (try clear hk); (try clear hi); have hcz13_0 : w12.cell? ⟨gb279, 0, none⟩ = some (.slice A0_0 l0_0.length c0_0) := (blk_cell BK279.out 0).trans rfl; have hcz13_1 : w12.cell? ⟨gb279, 1, none⟩ = some (.slice A0_1 l0_1.length c0_1) := (blk_cell BK279.out 1).trans rfl; have hcz13_2 : w12.cell? ⟨gb279, 2, none⟩ = some (.int .i64 a0_2) := (blk_cell BK279.out 2).trans rfl; have hfz13_0 := blk_frozen BK279.out 0; have hfz13_1 := blk_frozen BK279.out 1; have hfz13_2 := blk_frozen BK279.out 2) | (go_at_call 7; (with_reducible refine (spoolref10_Check.calls k _ _ l0_0 _ _ l0_1 a0_2 t281 _ ?side1 ?side2 ?side3 ?side4 A7.out).mono ?_); (case side1 => repeat (first | exact (Kd.C_below HR0_0.out HB.out) | (with_reducible refine Kd.C_alloc ?_ _) | (with_reducible refine Kd.C_drewN ?_ _) | (with_reducible refine Kd.C_drew ?_))); (case side2 => exact HC0_0.out); (case side3 => repeat (first | exact (Kd.C_below HR0_1.out HB.out) | (with_reducible refine Kd.C_alloc ?_ _) | (with_reducible refine Kd.C_drewN ?_ _) | (with_reducible refine Kd.C_drew ?_))); (case side4 => exact HC0_1.out); rintro e w14 ⟨rfl, hb⟩; have n0_ := Aside0.mk (blk_below (g := gb279) (o := .cells #[.slice A0_0 l0_0.length c0_0, .slice A0_1 l0_1.length c0_1, .int .i64 a0_2] 25 (0, 0)) (by exact bkw_ BK279.out) hb); have n1_ := Aside0.mk (below_step (blg_ HB.out GE279.out) hb); clear BK279; clear HB; have BK279 := n0_; have HB := n1_; clear n0_ n1_; (try clear hb); (try clear hb2); (try clear hk); (try clear hi); have hcz15_0 : w14.cell? ⟨gb279, 0, none⟩ = some (.slice A0_0 l0_0.length c0_0) := (blk_cell BK279.out 0).trans rfl; have hcz15_1 : w14.cell? ⟨gb279, 1, none⟩ = some (.slice A0_1 l0_1.length c0_1) := (blk_cell BK279.out 1).trans rfl; have hcz15_2 : w14.cell? ⟨gb279, 2, none⟩ = some (.int .i64 a0_2) := (blk_cell BK279.out 2).trans rfl; have hfz15_0 := blk_frozen BK279.out 0; have hfz15_1 := blk_frozen BK279.out 1; have hfz15_2 := blk_frozen BK279.out 2) | (go_at_call 12; (with_reducible refine (spoolref10_Size.calls k _ _ l0_0 _ _ l0_1 a0_2 a0_2 t282 _ ?side1 ?side2 ?side3 ?side4 A9.out).mono ?_); (case side1 => repeat (first | exact (Kd.C_below HR0_0.out HB.out) | (with_reducible refine Kd.C_alloc ?_ _) | (with_reducible refine Kd.C_drewN ?_ _) | (with_reducible refine Kd.C_drew ?_))); (case side2 => exact HC0_0.out); (case side3 => repeat (first | exact (Kd.C_below HR0_1.out HB.out) | (with_reducible refine Kd.C_alloc ?_ _) | (with_reducible refine Kd.C_drewN ?_ _) | (with_reducible refine Kd.C_drew ?_))); (case side4 => exact HC0_1.out); rintro e w16 ⟨rfl, hb⟩; have n0_ := Aside0.mk (blk_below (g := gb279) (o := .cells #[.slice A0_0 l0_0.length c0_0, .slice A0_1 l0_1.length c0_1, .int .i64 a0_2] 25 (0, 0)) (by exact bkw_ BK279.out) hb); have n1_ := Aside0.mk (below_step (blg_ HB.out GE279.out) hb); clear BK279; clear HB; have BK279 := n0_; have HB := n1_; clear n0_ n1_; (try clear hb); (try clear hb2); (try clear hk); (try clear hi)))
   go_ret
   exact ⟨fia_, blg_ HB.out GE279.out⟩
  ·rw [if_neg c8] at H
   have c8b0 : (t281 == 0) = false := beq_eq_false_iff_ne.mpr c8
   have c8b1 : (t281 != 0) = true := bne_iff_ne.mpr c8
   obtain rfl := Option.some.inj H
   go_enter Tryd.func4, Tryd.ntmps4
   go_wp2_with (first | ((with_reducible refine gate_dst (N := 1) rfl ?_); refine box_event ?hg (N := 1) ?hd (cs := #[.slice A0_0 l0_0.length c0_0, .slice A0_1 l0_1.length c0_1, .int .i64 a0_2]) (t := 25) ?hr ?_; (case hd => rfl); (case hg => rfl); (case hr => first | (go_simp; done) | (go_simp; rfl)); intro gb279 hg w17 hbox hb; have n0_ := Aside0.mk (below_step (blw_ HB.out) hb); have n1_ := Aside0.mk (hbox); have n2_ := Aside0.mk ((by rw [hg]; exact (below_size (blw_ HB.out)) : w.heap.size ≤ gb279)); have n3_ := Aside0.mk ((by rw [hg]; exact (below_size (blw_ HB.out)) : w.heap.size ≤ gb279)); clear HB; have HB := n0_; have BK279 := n1_; have GW279 := n2_; have GE279 := n3_; clear n0_ n1_ n2_ n3_; clear hb hbox hg; have hcz18_0 : w17.cell? ⟨gb279, 0, none⟩ = some (.slice A0_0 l0_0.length c0_0) := (blk_cell BK279.out 0).trans rfl; have hcz18_1 : w17.cell? ⟨gb279, 1, none⟩ = some (.slice A0_1 l0_1.length c0_1) := (blk_cell BK279.out 1).trans rfl; have hcz18_2 : w17.cell? ⟨gb279, 2, none⟩ = some (.int .i64 a0_2) := (blk_cell BK279.out 2).trans rfl; have hfz18_0 := blk_frozen BK279.out 0; have hfz18_1 := blk_frozen BK279.out 1; have hfz18_2 := blk_frozen BK279.out 2) | ((with_reducible refine gate_callee (f := 11) rfl ?_); refine goesL_ (some 4) rfl rfl Tryd.func11 (by kernel_rfl) rfl #[.agg #[.slice A0_0 l0_0.length c0_0, .slice A0_1 l0_1.length c0_1, .int .i64 a0_2]] rfl lma_ ?_; (with_reducible refine (spoolref10_Far.calls k _ _ l0_0 _ _ l0_1 a0_2 false _ ?side1 ?side2 ?side3 ?side4 A2.out).mono ?_); (case side1 => repeat (first | exact (Kd.C_below HR0_0.out HB.out) | (with_reducible refine Kd.C_alloc ?_ _) | (with_reducible refine Kd.C_drewN ?_ _) | (with_reducible refine Kd.C_drew ?_))); (case side2 => exact HC0_0.out); (case side3 => repeat (first | exact (Kd.C_below HR0_1.out HB.out) | (with_reducible refine Kd.C_alloc ?_ _) | (with_reducible refine Kd.C_drewN ?_ _) | (with_reducible refine Kd.C_drew ?_))); (case side4 => exact HC0_1.out); rintro e w19 ⟨rfl, hb⟩; refine ⟨_, rfl, ?_⟩; have n0_ := Aside0.mk (blk_below (g := gb279) (o := .cells #[.slice A0_0 l0_0.length c0_0, .slice A0_1 l0_1.length c0_1, .int .i64 a0_2] 25 (0, 0)) (by exact bkw_ BK279.out) hb); have n1_ := Aside0.mk (below_step (blg_ HB.out GE279.out) hb); clear BK279; clear HB; have BK279 := n0_; have HB := n1_; clear n0_ n1_; (try clear hb); (try clear hb2); (try clear hk); (try clear hi); have hcz20_0 : w19.cell? ⟨gb279, 0, none⟩ = some (.slice A0_0 l0_0.length c0_0) := (blk_cell BK279.out 0).trans rfl; have hcz20_1 : w19.cell? ⟨gb279, 1, none⟩ = some (.slice A0_1 l0_1.length c0_1) := (blk_cell BK279.out 1).trans rfl; have hcz20_2 : w19.cell? ⟨gb279, 2, none⟩ = some (.int .i64 a0_2) := (blk_cell BK279.out 2).trans rfl; have hfz20_0 := blk_frozen BK279.out 0; have hfz20_1 := blk_frozen BK279.out 1; have hfz20_2 := blk_frozen BK279.out 2) | (go_at_call 7; (with_reducible refine (spoolref10_Check.calls k _ _ l0_0 _ _ l0_1 a0_2 t281 _ ?side1 ?side2 ?side3 ?side4 A7.out).mono ?_); (case side1 => repeat (first | exact (Kd.C_below HR0_0.out HB.out) | (with_reducible refine Kd.C_alloc ?_ _) | (with_reducible refine Kd.C_drewN ?_ _) | (with_reducible refine Kd.C_drew ?_))); (case side2 => exact HC0_0.out); (case side3 => repeat (first | exact (Kd.C_below HR0_1.out HB.out) | (with_reducible refine Kd.C_alloc ?_ _) | (with_reducible refine Kd.C_drewN ?_ _) | (with_reducible refine Kd.C_drew ?_))); (case side4 => exact HC0_1.out); rintro e w21 ⟨rfl, hb⟩; have n0_ := Aside0.mk (blk_below (g := gb279) (o := .cells #[.slice A0_0 l0_0.length c0_0, .slice A0_1 l0_1.length c0_1, .int .i64 a0_2] 25 (0, 0)) (by exact bkw_ BK279.out) hb); have n1_ := Aside0.mk (below_step (blg_ HB.out GE279.out) hb); clear BK279; clear HB; have BK279 := n0_; have HB := n1_; clear n0_ n1_; (try clear hb); (try clear hb2); (try clear hk); (try clear hi)))
   go_ret
   exact ⟨fia_, blg_ HB.out GE279.out⟩
def ranges_Right.l0 : Nat → Int → List (S60) → Int → Int → Option (Bool)
 | 0, _, _, _, _ => none
 | k + 1, x3, x6, x7, x8 => if x8 < x7 then (if 0 ≤ x8 then (if x8 < (x6.length : Int) then (if ((rd_T60 x6 x8).f0) < x3 then (some false) else (if ((rd_T60 x6 x8).f1) < ((rd_T60 x6 x8).f0) then (some false) else (if ((rd_T60 x6 x8).f1) > 1114111 then (some false) else (ranges_Right.l0 k (wrap64 (((rd_T60 x6 x8).f1) + 2)) x6 x7 (wrap64 (x8 + 1)))))) else (none)) else (none)) else (some true)
def ranges_Right.f (k : Nat) (l0 : List (S60)) : Option (Bool) := ranges_Right.l0 k 0 l0 (l0.length : Int) 0
theorem ranges_Right.mono_l : ∀ k, (∀ y0 y1 y2 y3, LeO (ranges_Right.l0 k y0 y1 y2 y3) (ranges_Right.l0 (k + 1) y0 y1 y2 y3))
 | 0 => fun _ _ _ _ r h => by simp [ranges_Right.l0] at h
 | k + 1 => by
  have ih0 := ranges_Right.mono_l k
  ·intro y0 y1 y2 y3
   unfold ranges_Right.l0
   repeat' first
   | (with_reducible exact ih0 _ _ _ _)
   | (with_reducible exact LeO.refl _)
   | (with_reducible exact LeO.none _)
   | (with_reducible refine LeO.ite ?_ ?_)
   | (with_reducible refine LeO.bind ?_ (fun _ => ?_))
   | exact ih0 _ _ _ _
   | exact LeO.none _
   | refine LeO.ite ?_ ?_
   | refine LeO.bind ?_ (fun _ => ?_)
theorem ranges_Right.mono : ∀ a0 k, LeO (ranges_Right.f k a0) (ranges_Right.f (k + 1) a0) := by
 intro a0 k
 have ih0 := ranges_Right.mono_l k
 unfold ranges_Right.f
 repeat' first
   | (with_reducible exact ih0 _ _ _ _)
   | (with_reducible exact LeO.refl _)
   | (with_reducible exact LeO.none _)
   | (with_reducible refine LeO.ite ?_ ?_)
   | (with_reducible refine LeO.bind ?_ (fun _ => ?_))
   | exact ih0 _ _ _ _
   | exact LeO.none _
   | refine LeO.ite ?_ ?_
   | refine LeO.bind ?_ (fun _ => ?_)
set_option maxHeartbeats 8000000 in
set_option maxRecDepth 100000 in
theorem ranges_Right.calls (k : Nat) (A0 : Option Addr) (c0 : Nat) (l0 : List (S60)) (r : Bool) (w : World) (hr0 : Kd.C k60 w A0 l0.length l0) (hc0 : l0.length ≤ c0) (h : ranges_Right.f k l0 = some r) :
  Calls Tryd.prog 24 #[.slice A0 l0.length c0] w fun e w' => e = .returned (.bool r) ∧ Below w.heap.size w w' := by
 have hu60 := Tryd.underlying60
 have HR0 := Aside0.mk hr0
 have HC0 := Aside0.mk hc0
 clear hr0 hc0
 have HB := Aside0.mk (Below.refl w.heap.size w)
 have H : (ranges_Right.l0 k 0 l0 (l0.length : Int) 0) = some r := h
 clear h
 have H' := Aside0.mk H
 clear H
 go_enter Tryd.func24, Tryd.ntmps24
 go_wp2
 go_loopg [3, 8] k (fun kq v3 v8 w' => ∃ (x3_1 : Int) (x8_1 : Int), v3 = .int .i64 x3_1 ∧ v8 = .int .i64 x8_1 ∧ Aside0 (ranges_Right.l0 kq x3_1 l0 (l0.length : Int) x8_1 = some r) ∧ Aside0 (kq ≤ k) ∧ Aside0 (Below w.heap.size w w'))
 case atStart => exact ⟨(0), (0), fib_, fib_, H', ⟨Nat.le_refl _⟩, ⟨blw_ HB.out⟩⟩
 case round =>
  clear H'
  obtain ⟨x3_1, x8_1, rfl, rfl, HA, HK1, HB⟩ := hrel
  cases gk with
  | zero => exact absurd HA.out (by simp [ranges_Right.l0])
  | succ k1 =>
   have H := HA.out
   clear HA
   simp only [ranges_Right.l0] at H
   by_cases c2 : x8_1 < (l0.length : Int)
   ·rw [if_pos c2] at H
    have c2b0 : decide (x8_1 < (l0.length : Int)) = true := decide_eq_true c2
    clear c2
    by_cases c3 : 0 ≤ x8_1
    ·rw [if_pos c3] at H
     have c3b0 : decide (0 ≤ x8_1) = true := decide_eq_true c3
     clear c3
     by_cases c4 : x8_1 < (l0.length : Int)
     ·rw [if_pos c4] at H
      have c4b0 : decide (x8_1 < (l0.length : Int)) = true := decide_eq_true c4
      clear c4
      by_cases c5 : ((rd_T60 l0 x8_1).f0) < x3_1
      ·rw [if_pos c5] at H
       have c5b0 : decide (((rd_T60 l0 x8_1).f0) < x3_1) = true := decide_eq_true c5
       clear c5
       obtain rfl := Option.some.inj H
       have p283 : 0 ≤ (x8_1 : Int) := of_decide_eq_true asa_
       have q283 : x8_1 < (l0.length : Int) := of_decide_eq_true asa_
       obtain ⟨ad283, e283, hx283_0, hx283_1⟩ := at_T60 HR0.out x8_1 p283 q283
       cases e283
       replace hx283_0 := (HB.out.cell (World.block_lt_of_cell? w _ hx283_0)).trans hx283_0
       replace hx283_1 := (HB.out.cell (World.block_lt_of_cell? w _ hx283_1)).trans hx283_1
       replace p283 := eq_true p283
       replace q283 := eq_true q283
       go_wp2_with (first | ((with_reducible refine gate_dst (N := 5) rfl ?_); refine box_event ?hg (N := 5) ?hd (cs := #[.int .i64 0, .int .i64 0]) (t := 60) ?hr ?_; (case hd => rfl); (case hg => rfl); (case hr => first | (go_simp; done) | (go_simp; rfl)); intro gb284 hg w6 hbox hb; have n0_ := Aside0.mk (below_step (blw_ HB.out) hb); have n1_ := Aside0.mk (hbox); have n2_ := Aside0.mk ((by rw [hg]; exact (below_size (blw_ HB.out)) : w.heap.size ≤ gb284)); have n3_ := Aside0.mk ((by rw [hg]; exact (below_size (blw_ HB.out)) : w.heap.size ≤ gb284)); clear HB; have HB := n0_; have BK284 := n1_; have GW284 := n2_; have GE284 := n3_; clear n0_ n1_ n2_ n3_; clear hb hbox hg; have hcz7_0 : w6.cell? ⟨gb284, 0, none⟩ = some (.int .i64 0) := (blk_cell BK284.out 0).trans rfl; have hcz7_1 : w6.cell? ⟨gb284, 1, none⟩ = some (.int .i64 0) := (blk_cell BK284.out 1).trans rfl; have hfz7_0 := blk_frozen BK284.out 0; have hfz7_1 := blk_frozen BK284.out 1))
       go_ret
       exact ⟨fia_, blg_ HB.out GE284.out⟩
      ·rw [if_neg c5] at H
       have c5b0 : decide (((rd_T60 l0 x8_1).f0) < x3_1) = false := decide_eq_false c5
       clear c5
       by_cases c8 : ((rd_T60 l0 x8_1).f1) < ((rd_T60 l0 x8_1).f0)
       ·rw [if_pos c8] at H
        have c8b0 : decide (((rd_T60 l0 x8_1).f1) < ((rd_T60 l0 x8_1).f0)) = true := decide_eq_true c8
        clear c8
        obtain rfl := Option.some.inj H
        have p283 : 0 ≤ (x8_1 : Int) := of_decide_eq_true asa_
        have q283 : x8_1 < (l0.length : Int) := of_decide_eq_true asa_
        obtain ⟨ad283, e283, hx283_0, hx283_1⟩ := at_T60 HR0.out x8_1 p283 q283
        cases e283
        replace hx283_0 := (HB.out.cell (World.block_lt_of_cell? w _ hx283_0)).trans hx283_0
        replace hx283_1 := (HB.out.cell (World.block_lt_of_cell? w _ hx283_1)).trans hx283_1
        replace p283 := eq_true p283
        replace q283 := eq_true q283
        go_wp2_with (first | ((with_reducible refine gate_dst (N := 5) rfl ?_); refine box_event ?hg (N := 5) ?hd (cs := #[.int .i64 0, .int .i64 0]) (t := 60) ?hr ?_; (case hd => rfl); (case hg => rfl); (case hr => first | (go_simp; done) | (go_simp; rfl)); intro gb284 hg w9 hbox hb; have n0_ := Aside0.mk (below_step (blw_ HB.out) hb); have n1_ := Aside0.mk (hbox); have n2_ := Aside0.mk ((by rw [hg]; exact (below_size (blw_ HB.out)) : w.heap.size ≤ gb284)); have n3_ := Aside0.mk ((by rw [hg]; exact (below_size (blw_ HB.out)) : w.heap.size ≤ gb284)); clear HB; have HB := n0_; have BK284 := n1_; have GW284 := n2_; have GE284 := n3_; clear n0_ n1_ n2_ n3_; clear hb hbox hg; have hcz10_0 : w9.cell? ⟨gb284, 0, none⟩ = some (.int .i64 0) := (blk_cell BK284.out 0).trans rfl; have hcz10_1 : w9.cell? ⟨gb284, 1, none⟩ = some (.int .i64 0) := (blk_cell BK284.out 1).trans rfl; have hfz10_0 := blk_frozen BK284.out 0; have hfz10_1 := blk_frozen BK284.out 1))
        go_ret
        exact ⟨fia_, blg_ HB.out GE284.out⟩
       ·rw [if_neg c8] at H
        have c8b0 : decide (((rd_T60 l0 x8_1).f1) < ((rd_T60 l0 x8_1).f0)) = false := decide_eq_false c8
        clear c8
        by_cases c11 : ((rd_T60 l0 x8_1).f1) > 1114111
        ·rw [if_pos c11] at H
         have c11b0 : decide (1114111 < ((rd_T60 l0 x8_1).f1)) = true := decide_eq_true c11
         clear c11
         obtain rfl := Option.some.inj H
         have p283 : 0 ≤ (x8_1 : Int) := of_decide_eq_true asa_
         have q283 : x8_1 < (l0.length : Int) := of_decide_eq_true asa_
         obtain ⟨ad283, e283, hx283_0, hx283_1⟩ := at_T60 HR0.out x8_1 p283 q283
         cases e283
         replace hx283_0 := (HB.out.cell (World.block_lt_of_cell? w _ hx283_0)).trans hx283_0
         replace hx283_1 := (HB.out.cell (World.block_lt_of_cell? w _ hx283_1)).trans hx283_1
         replace p283 := eq_true p283
         replace q283 := eq_true q283
         go_wp2_with (first | ((with_reducible refine gate_dst (N := 5) rfl ?_); refine box_event ?hg (N := 5) ?hd (cs := #[.int .i64 0, .int .i64 0]) (t := 60) ?hr ?_; (case hd => rfl); (case hg => rfl); (case hr => first | (go_simp; done) | (go_simp; rfl)); intro gb284 hg w12 hbox hb; have n0_ := Aside0.mk (below_step (blw_ HB.out) hb); have n1_ := Aside0.mk (hbox); have n2_ := Aside0.mk ((by rw [hg]; exact (below_size (blw_ HB.out)) : w.heap.size ≤ gb284)); have n3_ := Aside0.mk ((by rw [hg]; exact (below_size (blw_ HB.out)) : w.heap.size ≤ gb284)); clear HB; have HB := n0_; have BK284 := n1_; have GW284 := n2_; have GE284 := n3_; clear n0_ n1_ n2_ n3_; clear hb hbox hg; have hcz13_0 : w12.cell? ⟨gb284, 0, none⟩ = some (.int .i64 0) := (blk_cell BK284.out 0).trans rfl; have hcz13_1 : w12.cell? ⟨gb284, 1, none⟩ = some (.int .i64 0) := (blk_cell BK284.out 1).trans rfl; have hfz13_0 := blk_frozen BK284.out 0; have hfz13_1 := blk_frozen BK284.out 1))
         go_ret
         exact ⟨fia_, blg_ HB.out GE284.out⟩
        ·rw [if_neg c11] at H
         have c11b0 : decide (1114111 < ((rd_T60 l0 x8_1).f1)) = false := decide_eq_false c11
         clear c11
         have H' := Aside0.mk H
         clear H
         have p283 : 0 ≤ (x8_1 : Int) := of_decide_eq_true asa_
         have q283 : x8_1 < (l0.length : Int) := of_decide_eq_true asa_
         obtain ⟨ad283, e283, hx283_0, hx283_1⟩ := at_T60 HR0.out x8_1 p283 q283
         cases e283
         replace hx283_0 := (HB.out.cell (World.block_lt_of_cell? w _ hx283_0)).trans hx283_0
         replace hx283_1 := (HB.out.cell (World.block_lt_of_cell? w _ hx283_1)).trans hx283_1
         replace p283 := eq_true p283
         replace q283 := eq_true q283
         go_wp2_with (first | ((with_reducible refine gate_dst (N := 5) rfl ?_); refine box_event ?hg (N := 5) ?hd (cs := #[.int .i64 0, .int .i64 0]) (t := 60) ?hr ?_; (case hd => rfl); (case hg => rfl); (case hr => first | (go_simp; done) | (go_simp; rfl)); intro gb284 hg w14 hbox hb; have n0_ := Aside0.mk (below_step (blw_ HB.out) hb); have n1_ := Aside0.mk (hbox); have n2_ := Aside0.mk ((by rw [hg]; exact (below_size (blw_ HB.out)) : w.heap.size ≤ gb284)); have n3_ := Aside0.mk ((by rw [hg]; exact (below_size (blw_ HB.out)) : w.heap.size ≤ gb284)); clear HB; have HB := n0_; have BK284 := n1_; have GW284 := n2_; have GE284 := n3_; clear n0_ n1_ n2_ n3_; clear hb hbox hg; have hcz15_0 : w14.cell? ⟨gb284, 0, none⟩ = some (.int .i64 0) := (blk_cell BK284.out 0).trans rfl; have hcz15_1 : w14.cell? ⟨gb284, 1, none⟩ = some (.int .i64 0) := (blk_cell BK284.out 1).trans rfl; have hfz15_0 := blk_frozen BK284.out 0; have hfz15_1 := blk_frozen BK284.out 1))
         go_roundg k1
         case measure => have := HK1.out; omega
         case rel => exact ⟨(wrap64 (((rd_T60 l0 x8_1).f1) + 2)), (wrap64 (x8_1 + 1)), fib_, fib_, H', ⟨by have := HK1.out; omega⟩, ⟨blg_ HB.out GE284.out⟩⟩
     ·rw [if_neg c4] at H
      exact absurd H (by simp)
    ·rw [if_neg c3] at H
     exact absurd H (by simp)
   ·rw [if_neg c2] at H
    have c2b0 : decide (x8_1 < (l0.length : Int)) = false := decide_eq_false c2
    clear c2
    obtain rfl := Option.some.inj H
    go_wp2
    go_ret
    exact ⟨fia_, blw_ HB.out⟩
end Go.Proofs.YtlihkebmonfefaaDoor.PG

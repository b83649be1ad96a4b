-- WRITTEN BY A PROGRAM OF THIS SESSION (patchprint.py over the kit's print)
import Derived.Test.YtlihkebmonfefaaDoorPGx0
import Derived.Test.YtlihkebmonfefaaDoorPGx10
namespace Go.Proofs.YtlihkebmonfefaaDoor.PG
open Go.RowKit Go.Proofs.YtlihkebmonfefaaDoorW.PrintWords Go.Proofs.YtlihkebmonfefaaDoorW.PrintLast Go.Proofs.YtlihkebmonfefaaDoorW.PrintMore
attribute [local go_sem] max2_int min2_int max_two min_two max_three min_three max_four min_four   -- for this text's walks alone
set_option linter.unusedVariables false
set_option linter.unusedSimpArgs false
mutual
def spoolref10_Node.j0 : Nat → Int → Bool → List (S48) → List (List (S60)) → Int → Int → Int → Int → Int → Int → Int → Option (Bool)
 | 0, _, _, _, _, _, _, _, _, _, _, _ => none
 | k + 1, x1, x6, x254000, x254001, x254002, x256000, x256001, x256002, x256003, x256004, x256005 => if x256000 = 1 then (if x256001 = 0 then (if x256002 = 0 then (if x256003 = 0 then (if x256004 = 0 then (some (x256005 == 0)) else (some false)) else (some false)) else (some false)) else (some false)) else (if x256000 = 2 then (if x256001 = 0 then (if x256002 = 0 then (if x256003 = 0 then (if x256004 = 0 then (if x256005 ≥ 0 then (some (decide (x256005 < (x254001.length : Int)))) else (some false)) else (some false)) else (some false)) else (some false)) else (some false)) else (if x256000 = 3 then (spoolref10_Node.j1 k x1 x6 x256000 (x256000 == 3) x256000 x256001 x256002 x256003 x256004 x256005) else (spoolref10_Node.j1 k x1 x6 x256000 (x256000 == 4) x256000 x256001 x256002 x256003 x256004 x256005)))
def spoolref10_Node.j1 : Nat → Int → Bool → Int → Bool → Int → Int → Int → Int → Int → Int → Option (Bool)
 | 0, _, _, _, _, _, _, _, _, _, _ => none
 | k + 1, x1, x6, x33, x92, x256000, x256001, x256002, x256003, x256004, x256005 => if x92 = true then (if x6 = true then (if x256003 = 0 then (if x256004 = 0 then (some (x256005 == 0)) else (some false)) else (some false)) else (some false)) else (if x33 = 5 then (if x256001 ≥ 0 then (if x256001 < x1 then (if x256002 = 0 then (if x256005 = 0 then ((spoolref10_Times.f x256003 x256004).bind fun t256 => (some t256)) else (some false)) else (some false)) else (some false)) else (some false)) else (some false))
end
def spoolref10_Node.f (k : Nat) (l0_0 : List (S48)) (l0_1 : List (List (S60))) (a0_2 : Int) (a1 : Int) : Option (Bool) := if 0 ≤ a1 then (if a1 < (l0_0.length : Int) then (if ((rd_T48 l0_0 a1).f1) ≥ 0 then (if ((rd_T48 l0_0 a1).f1) < a1 then (if ((rd_T48 l0_0 a1).f2) ≥ 0 then (spoolref10_Node.j0 k a1 (decide (((rd_T48 l0_0 a1).f2) < a1)) l0_0 l0_1 a0_2 ((rd_T48 l0_0 a1).f0) ((rd_T48 l0_0 a1).f1) ((rd_T48 l0_0 a1).f2) ((rd_T48 l0_0 a1).f3) ((rd_T48 l0_0 a1).f4) ((rd_T48 l0_0 a1).f5)) else (spoolref10_Node.j0 k a1 false l0_0 l0_1 a0_2 ((rd_T48 l0_0 a1).f0) ((rd_T48 l0_0 a1).f1) ((rd_T48 l0_0 a1).f2) ((rd_T48 l0_0 a1).f3) ((rd_T48 l0_0 a1).f4) ((rd_T48 l0_0 a1).f5))) else (spoolref10_Node.j0 k a1 false l0_0 l0_1 a0_2 ((rd_T48 l0_0 a1).f0) ((rd_T48 l0_0 a1).f1) ((rd_T48 l0_0 a1).f2) ((rd_T48 l0_0 a1).f3) ((rd_T48 l0_0 a1).f4) ((rd_T48 l0_0 a1).f5))) else (spoolref10_Node.j0 k a1 false l0_0 l0_1 a0_2 ((rd_T48 l0_0 a1).f0) ((rd_T48 l0_0 a1).f1) ((rd_T48 l0_0 a1).f2) ((rd_T48 l0_0 a1).f3) ((rd_T48 l0_0 a1).f4) ((rd_T48 l0_0 a1).f5))) else (none)) else (none)
set_option maxHeartbeats 8000000 in
set_option maxRecDepth 100000 in
theorem spoolref10_Node.calls (k : Nat) (A0_0 : Option Addr) (c0_0 : Nat) (l0_0 : List (S48)) (A0_1 : Option Addr) (c0_1 : Nat) (l0_1 : List (List (S60))) (a0_2 : Int) (a1 : Int) (r : Bool) (w : World) (hr0_0 : Kd.C k48 w A0_0 l0_0.length l0_0) (hc0_0 : l0_0.length ≤ c0_0) (hr0_1 : Kd.C (Kd.slice 60 k60) w A0_1 l0_1.length l0_1) (hc0_1 : l0_1.length ≤ c0_1) (h : spoolref10_Node.f k l0_0 l0_1 a0_2 a1 = some r) :
  Calls Tryd.prog 18 #[.agg #[.slice A0_0 l0_0.length c0_0, .slice A0_1 l0_1.length c0_1, .int .i64 a0_2], .int .i64 a1] w fun e w' => e = .returned (.bool r) ∧ Below w.heap.size w w' := by
 have hu25 := Tryd.underlying25
 have hu48 := Tryd.underlying48
 have HR0_0 := Aside0.mk hr0_0
 have HC0_0 := Aside0.mk hc0_0
 clear hr0_0 hc0_0
 have HR0_1 := Aside0.mk hr0_1
 have HC0_1 := Aside0.mk hc0_1
 clear hr0_1 hc0_1
 have HB := Aside0.mk (Below.refl w.heap.size w)
 have H : (if 0 ≤ a1 then (if a1 < (l0_0.length : Int) then (if ((rd_T48 l0_0 a1).f1) ≥ 0 then (if ((rd_T48 l0_0 a1).f1) < a1 then (if ((rd_T48 l0_0 a1).f2) ≥ 0 then (spoolref10_Node.j0 k a1 (decide (((rd_T48 l0_0 a1).f2) < a1)) l0_0 l0_1 a0_2 ((rd_T48 l0_0 a1).f0) ((rd_T48 l0_0 a1).f1) ((rd_T48 l0_0 a1).f2) ((rd_T48 l0_0 a1).f3) ((rd_T48 l0_0 a1).f4) ((rd_T48 l0_0 a1).f5)) else (spoolref10_Node.j0 k a1 false l0_0 l0_1 a0_2 ((rd_T48 l0_0 a1).f0) ((rd_T48 l0_0 a1).f1) ((rd_T48 l0_0 a1).f2) ((rd_T48 l0_0 a1).f3) ((rd_T48 l0_0 a1).f4) ((rd_T48 l0_0 a1).f5))) else (spoolref10_Node.j0 k a1 false l0_0 l0_1 a0_2 ((rd_T48 l0_0 a1).f0) ((rd_T48 l0_0 a1).f1) ((rd_T48 l0_0 a1).f2) ((rd_T48 l0_0 a1).f3) ((rd_T48 l0_0 a1).f4) ((rd_T48 l0_0 a1).f5))) else (spoolref10_Node.j0 k a1 false l0_0 l0_1 a0_2 ((rd_T48 l0_0 a1).f0) ((rd_T48 l0_0 a1).f1) ((rd_T48 l0_0 a1).f2) ((rd_T48 l0_0 a1).f3) ((rd_T48 l0_0 a1).f4) ((rd_T48 l0_0 a1).f5))) else (none)) else (none)) = some r := h
 clear h
 by_cases c3 : 0 ≤ a1
 ·rw [if_pos c3] at H
  have c3b0 : decide (0 ≤ a1) = true := decide_eq_true c3
  clear c3
  by_cases c4 : a1 < (l0_0.length : Int)
  ·rw [if_pos c4] at H
   have c4b0 : decide (a1 < (l0_0.length : Int)) = true := decide_eq_true c4
   clear c4
   have HC5 := Aside0.mk H
   clear H
   go_enter Tryd.func18, Tryd.ntmps18
   go_upto_region 2 with (first | ((with_reducible refine gate_dst (N := 2) rfl ?_); (try (refine gate_guard (by rfl) ?_; dsimp only)); refine box_event ?hg (N := 2) ?hd (cs := #[.slice A0_0 l0_0.length c0_0, .slice A0_1 l0_1.length c0_1, .int .i64 a0_2]) (t := 25) ?hr ?_; (case hd => rfl); (case hg => rfl); (case hr => first | (go_simp; done) | (go_simp; rfl)); intro gb253 hg w6 hbox hb; have n0_ := Aside0.mk (below_step (blw_ HB.out) hb); have n1_ := Aside0.mk (hbox); have n2_ := Aside0.mk ((by rw [hg]; exact (below_size (blw_ HB.out)) : w.heap.size ≤ gb253)); have n3_ := Aside0.mk ((by rw [hg]; exact (below_size (blw_ HB.out)) : w.heap.size ≤ gb253)); clear HB; have HB := n0_; have BK253 := n1_; have GW253 := n2_; have GE253 := n3_; clear n0_ n1_ n2_ n3_; clear hb hbox hg; have hcz7_0 : w6.cell? ⟨gb253, 0, none⟩ = some (.slice A0_0 l0_0.length c0_0) := (blk_cell BK253.out 0).trans rfl; have hcz7_1 : w6.cell? ⟨gb253, 1, none⟩ = some (.slice A0_1 l0_1.length c0_1) := (blk_cell BK253.out 1).trans rfl; have hcz7_2 : w6.cell? ⟨gb253, 2, none⟩ = some (.int .i64 a0_2) := (blk_cell BK253.out 2).trans rfl; have hfz7_0 := blk_frozen BK253.out 0; have hfz7_1 := blk_frozen BK253.out 1; have hfz7_2 := blk_frozen BK253.out 2; have p254 : 0 ≤ (a1 : Int) := of_decide_eq_true asa_; have q254 : a1 < (l0_0.length : Int) := of_decide_eq_true asa_; obtain ⟨ad254, e254, hx254_0, hx254_1, hx254_2, hx254_3, hx254_4, hx254_5⟩ := at_T48 HR0_0.out a1 p254 q254; cases e254; replace hx254_0 := (HB.out.cell (World.block_lt_of_cell? w _ hx254_0)).trans hx254_0; replace hx254_1 := (HB.out.cell (World.block_lt_of_cell? w _ hx254_1)).trans hx254_1; replace hx254_2 := (HB.out.cell (World.block_lt_of_cell? w _ hx254_2)).trans hx254_2; replace hx254_3 := (HB.out.cell (World.block_lt_of_cell? w _ hx254_3)).trans hx254_3; replace hx254_4 := (HB.out.cell (World.block_lt_of_cell? w _ hx254_4)).trans hx254_4; replace hx254_5 := (HB.out.cell (World.block_lt_of_cell? w _ hx254_5)).trans hx254_5; replace p254 := eq_true p254; replace q254 := eq_true q254) | ((with_reducible refine gate_dst (N := 5) rfl ?_); (try (refine gate_guard (by rfl) ?_; dsimp only)); refine box_event ?hg (N := 5) ?hd (cs := #[.int .i64 0, .int .i64 0, .int .i64 0, .int .i64 0, .int .i64 0, .int .i64 0]) (t := 48) ?hr ?_; (case hd => rfl); (case hg => rfl); (case hr => first | (go_simp; done) | (go_simp; rfl)); intro gb255 hg w8 hbox hb; have n0_ := Aside0.mk (blk_below (g := gb253) (o := .cells #[.slice (some ad254) l0_0.length c0_0, .slice A0_1 l0_1.length c0_1, .int .i64 a0_2] 25 (0, 0)) (by exact bkw_ BK253.out) hb); have n1_ := Aside0.mk (below_step (blg_ HB.out GE253.out) hb); have n2_ := Aside0.mk (hbox); have n3_ := Aside0.mk ((by rw [hg]; exact (below_size (blg_ HB.out GE253.out)) : w.heap.size ≤ gb255)); have n4_ := Aside0.mk ((by rw [hg]; exact (below_size (blg_ HB.out GE253.out)) : w.heap.size ≤ gb255)); have n5_ := Aside0.mk ((by rw [hg]; exact Nat.ne_of_lt (blk_lt (g := gb253) (o := .cells #[.slice (some ad254) l0_0.length c0_0, .slice A0_1 l0_1.length c0_1, .int .i64 a0_2] 25 (0, 0)) (by exact bkw_ BK253.out)) : gb253 ≠ gb255)); have n6_ := Aside0.mk ((by rw [hg]; exact Nat.ne_of_gt (blk_lt (g := gb253) (o := .cells #[.slice (some ad254) l0_0.length c0_0, .slice A0_1 l0_1.length c0_1, .int .i64 a0_2] 25 (0, 0)) (by exact bkw_ BK253.out)) : gb255 ≠ gb253)); clear BK253; clear HB; have BK253 := n0_; have HB := n1_; have BK255 := n2_; have GW255 := n3_; have GE255 := n4_; have NB253_255 := n5_; have NB255_253 := n6_; clear n0_ n1_ n2_ n3_ n4_ n5_ n6_; clear hb hbox hg; have hnb9 := NB255_253.out; have hnc9 := NB253_255.out; have hcz10_0 : w8.cell? ⟨gb255, 0, none⟩ = some (.int .i64 0) := (blk_cell BK255.out 0).trans rfl; have hcz10_1 : w8.cell? ⟨gb255, 1, none⟩ = some (.int .i64 0) := (blk_cell BK255.out 1).trans rfl; have hcz10_2 : w8.cell? ⟨gb255, 2, none⟩ = some (.int .i64 0) := (blk_cell BK255.out 2).trans rfl; have hcz10_3 : w8.cell? ⟨gb255, 3, none⟩ = some (.int .i64 0) := (blk_cell BK255.out 3).trans rfl; have hcz10_4 : w8.cell? ⟨gb255, 4, none⟩ = some (.int .i64 0) := (blk_cell BK255.out 4).trans rfl; have hcz10_5 : w8.cell? ⟨gb255, 5, none⟩ = some (.int .i64 0) := (blk_cell BK255.out 5).trans rfl; have hfz10_0 := blk_frozen BK255.out 0; have hfz10_1 := blk_frozen BK255.out 1; have hfz10_2 := blk_frozen BK255.out 2; have hfz10_3 := blk_frozen BK255.out 3; have hfz10_4 := blk_frozen BK255.out 4; have hfz10_5 := blk_frozen BK255.out 5))
   (try simp only [Act.put, List.setIfInBounds_toArray, List.set_cons_zero, List.set_cons_succ])
   go_cut [6] (fun v6 wc => ∃ (kq : Nat) (x6_4 : Bool), v6 = .bool x6_4 ∧ Aside0 (spoolref10_Node.j0 kq a1 x6_4 l0_0 l0_1 a0_2 ((rd_T48 l0_0 a1).f0) ((rd_T48 l0_0 a1).f1) ((rd_T48 l0_0 a1).f2) ((rd_T48 l0_0 a1).f3) ((rd_T48 l0_0 a1).f4) ((rd_T48 l0_0 a1).f5) = some r) ∧ Aside0 (kq ≤ k) ∧ Aside0 (wc.heap[gb253]? = some (.cells #[(.slice (some ad254) l0_0.length c0_0), (.slice A0_1 l0_1.length c0_1), .int .i64 a0_2] 25 (0, 0))) ∧ Aside0 (wc.heap[gb255]? = some (.cells #[.int .i64 ((rd_T48 l0_0 a1).f0), .int .i64 ((rd_T48 l0_0 a1).f1), .int .i64 ((rd_T48 l0_0 a1).f2), .int .i64 ((rd_T48 l0_0 a1).f3), .int .i64 ((rd_T48 l0_0 a1).f4), .int .i64 ((rd_T48 l0_0 a1).f5)] 48 (0, 0))) ∧ Aside0 (Below w.heap.size w wc))
   case first =>
    have H := HC5.out
    clear HC5
    by_cases c11 : ((rd_T48 l0_0 a1).f1) ≥ 0
    ·rw [if_pos c11] at H
     have c11b0 : decide (0 ≤ ((rd_T48 l0_0 a1).f1)) = true := decide_eq_true c11
     clear c11
     (first | rw [c11b0] | (simp only [i64_w, i32_w]; rw [c11b0]) | skip)
     by_cases c12 : ((rd_T48 l0_0 a1).f1) < a1
     ·rw [if_pos c12] at H
      have c12b0 : decide (((rd_T48 l0_0 a1).f1) < a1) = true := decide_eq_true c12
      clear c12
      by_cases c13 : ((rd_T48 l0_0 a1).f2) ≥ 0
      ·rw [if_pos c13] at H
       have c13b0 : decide (0 ≤ ((rd_T48 l0_0 a1).f2)) = true := decide_eq_true c13
       clear c13
       have H' := Aside0.mk H
       clear H
       have hnb14 := NB255_253.out
       have hnc14 := NB253_255.out
       have hcz15_0 : w8.cell? ⟨gb255, 0, none⟩ = some (.int .i64 0) := (blk_cell BK255.out 0).trans rfl
       have hcz15_1 : w8.cell? ⟨gb255, 1, none⟩ = some (.int .i64 0) := (blk_cell BK255.out 1).trans rfl
       have hcz15_2 : w8.cell? ⟨gb255, 2, none⟩ = some (.int .i64 0) := (blk_cell BK255.out 2).trans rfl
       have hcz15_3 : w8.cell? ⟨gb255, 3, none⟩ = some (.int .i64 0) := (blk_cell BK255.out 3).trans rfl
       have hcz15_4 : w8.cell? ⟨gb255, 4, none⟩ = some (.int .i64 0) := (blk_cell BK255.out 4).trans rfl
       have hcz15_5 : w8.cell? ⟨gb255, 5, none⟩ = some (.int .i64 0) := (blk_cell BK255.out 5).trans rfl
       have hfz15_0 := blk_frozen BK255.out 0
       have hfz15_1 := blk_frozen BK255.out 1
       have hfz15_2 := blk_frozen BK255.out 2
       have hfz15_3 := blk_frozen BK255.out 3
       have hfz15_4 := blk_frozen BK255.out 4
       have hfz15_5 := blk_frozen BK255.out 5
       go_wp2
       go_meet
       case rel => exact ⟨_, (decide (((rd_T48 l0_0 a1).f2) < a1)), fib_, H', ⟨by first | omega | exact Nat.le_refl _⟩, ⟨by (with_reducible repeat (first | refine blk_drewN ?_ _ | refine blk_drew ?_ | refine blk_alloc ?_ _)); refine blk_far ?_ NB253_255.out _; (with_reducible repeat (first | refine blk_drewN ?_ _ | refine blk_drew ?_ | refine blk_alloc ?_ _)); refine blk_far ?_ NB253_255.out _; (with_reducible repeat (first | refine blk_drewN ?_ _ | refine blk_drew ?_ | refine blk_alloc ?_ _)); refine blk_far ?_ NB253_255.out _; (with_reducible repeat (first | refine blk_drewN ?_ _ | refine blk_drew ?_ | refine blk_alloc ?_ _)); refine blk_far ?_ NB253_255.out _; (with_reducible repeat (first | refine blk_drewN ?_ _ | refine blk_drew ?_ | refine blk_alloc ?_ _)); refine blk_far ?_ NB253_255.out _; (with_reducible repeat (first | refine blk_drewN ?_ _ | refine blk_drew ?_ | refine blk_alloc ?_ _)); refine blk_far ?_ NB253_255.out _; exact bkw_ BK253.out⟩, ⟨by (with_reducible repeat (first | refine blk_drewN ?_ _ | refine blk_drew ?_ | refine blk_alloc ?_ _)); refine blk_put (cs := #[.int .i64 ((rd_T48 l0_0 a1).f0), .int .i64 ((rd_T48 l0_0 a1).f1), .int .i64 ((rd_T48 l0_0 a1).f2), .int .i64 ((rd_T48 l0_0 a1).f3), .int .i64 ((rd_T48 l0_0 a1).f4), .int .i64 0]) ?_ 5 _ rfl; (with_reducible repeat (first | refine blk_drewN ?_ _ | refine blk_drew ?_ | refine blk_alloc ?_ _)); refine blk_put (cs := #[.int .i64 ((rd_T48 l0_0 a1).f0), .int .i64 ((rd_T48 l0_0 a1).f1), .int .i64 ((rd_T48 l0_0 a1).f2), .int .i64 ((rd_T48 l0_0 a1).f3), .int .i64 0, .int .i64 0]) ?_ 4 _ rfl; (with_reducible repeat (first | refine blk_drewN ?_ _ | refine blk_drew ?_ | refine blk_alloc ?_ _)); refine blk_put (cs := #[.int .i64 ((rd_T48 l0_0 a1).f0), .int .i64 ((rd_T48 l0_0 a1).f1), .int .i64 ((rd_T48 l0_0 a1).f2), .int .i64 0, .int .i64 0, .int .i64 0]) ?_ 3 _ rfl; (with_reducible repeat (first | refine blk_drewN ?_ _ | refine blk_drew ?_ | refine blk_alloc ?_ _)); refine blk_put (cs := #[.int .i64 ((rd_T48 l0_0 a1).f0), .int .i64 ((rd_T48 l0_0 a1).f1), .int .i64 0, .int .i64 0, .int .i64 0, .int .i64 0]) ?_ 2 _ rfl; (with_reducible repeat (first | refine blk_drewN ?_ _ | refine blk_drew ?_ | refine blk_alloc ?_ _)); refine blk_put (cs := #[.int .i64 ((rd_T48 l0_0 a1).f0), .int .i64 0, .int .i64 0, .int .i64 0, .int .i64 0, .int .i64 0]) ?_ 1 _ rfl; (with_reducible repeat (first | refine blk_drewN ?_ _ | refine blk_drew ?_ | refine blk_alloc ?_ _)); refine blk_put (cs := #[.int .i64 0, .int .i64 0, .int .i64 0, .int .i64 0, .int .i64 0, .int .i64 0]) ?_ 0 _ rfl; exact bkw_ BK255.out⟩, ⟨bla_ HB.out⟩⟩
      ·rw [if_neg c13] at H
       have c13b0 : decide (0 ≤ ((rd_T48 l0_0 a1).f2)) = false := decide_eq_false c13
       clear c13
       have H' := Aside0.mk H
       clear H
       have hnb16 := NB255_253.out
       have hnc16 := NB253_255.out
       have hcz17_0 : w8.cell? ⟨gb255, 0, none⟩ = some (.int .i64 0) := (blk_cell BK255.out 0).trans rfl
       have hcz17_1 : w8.cell? ⟨gb255, 1, none⟩ = some (.int .i64 0) := (blk_cell BK255.out 1).trans rfl
       have hcz17_2 : w8.cell? ⟨gb255, 2, none⟩ = some (.int .i64 0) := (blk_cell BK255.out 2).trans rfl
       have hcz17_3 : w8.cell? ⟨gb255, 3, none⟩ = some (.int .i64 0) := (blk_cell BK255.out 3).trans rfl
       have hcz17_4 : w8.cell? ⟨gb255, 4, none⟩ = some (.int .i64 0) := (blk_cell BK255.out 4).trans rfl
       have hcz17_5 : w8.cell? ⟨gb255, 5, none⟩ = some (.int .i64 0) := (blk_cell BK255.out 5).trans rfl
       have hfz17_0 := blk_frozen BK255.out 0
       have hfz17_1 := blk_frozen BK255.out 1
       have hfz17_2 := blk_frozen BK255.out 2
       have hfz17_3 := blk_frozen BK255.out 3
       have hfz17_4 := blk_frozen BK255.out 4
       have hfz17_5 := blk_frozen BK255.out 5
       go_wp2
       go_meet
       case rel => exact ⟨_, (false), fib_, H', ⟨by first | omega | exact Nat.le_refl _⟩, ⟨by (with_reducible repeat (first | refine blk_drewN ?_ _ | refine blk_drew ?_ | refine blk_alloc ?_ _)); refine blk_far ?_ NB253_255.out _; (with_reducible repeat (first | refine blk_drewN ?_ _ | refine blk_drew ?_ | refine blk_alloc ?_ _)); refine blk_far ?_ NB253_255.out _; (with_reducible repeat (first | refine blk_drewN ?_ _ | refine blk_drew ?_ | refine blk_alloc ?_ _)); refine blk_far ?_ NB253_255.out _; (with_reducible repeat (first | refine blk_drewN ?_ _ | refine blk_drew ?_ | refine blk_alloc ?_ _)); refine blk_far ?_ NB253_255.out _; (with_reducible repeat (first | refine blk_drewN ?_ _ | refine blk_drew ?_ | refine blk_alloc ?_ _)); refine blk_far ?_ NB253_255.out _; (with_reducible repeat (first | refine blk_drewN ?_ _ | refine blk_drew ?_ | refine blk_alloc ?_ _)); refine blk_far ?_ NB253_255.out _; exact bkw_ BK253.out⟩, ⟨by (with_reducible repeat (first | refine blk_drewN ?_ _ | refine blk_drew ?_ | refine blk_alloc ?_ _)); refine blk_put (cs := #[.int .i64 ((rd_T48 l0_0 a1).f0), .int .i64 ((rd_T48 l0_0 a1).f1), .int .i64 ((rd_T48 l0_0 a1).f2), .int .i64 ((rd_T48 l0_0 a1).f3), .int .i64 ((rd_T48 l0_0 a1).f4), .int .i64 0]) ?_ 5 _ rfl; (with_reducible repeat (first | refine blk_drewN ?_ _ | refine blk_drew ?_ | refine blk_alloc ?_ _)); refine blk_put (cs := #[.int .i64 ((rd_T48 l0_0 a1).f0), .int .i64 ((rd_T48 l0_0 a1).f1), .int .i64 ((rd_T48 l0_0 a1).f2), .int .i64 ((rd_T48 l0_0 a1).f3), .int .i64 0, .int .i64 0]) ?_ 4 _ rfl; (with_reducible repeat (first | refine blk_drewN ?_ _ | refine blk_drew ?_ | refine blk_alloc ?_ _)); refine blk_put (cs := #[.int .i64 ((rd_T48 l0_0 a1).f0), .int .i64 ((rd_T48 l0_0 a1).f1), .int .i64 ((rd_T48 l0_0 a1).f2), .int .i64 0, .int .i64 0, .int .i64 0]) ?_ 3 _ rfl; (with_reducible repeat (first | refine blk_drewN ?_ _ | refine blk_drew ?_ | refine blk_alloc ?_ _)); refine blk_put (cs := #[.int .i64 ((rd_T48 l0_0 a1).f0), .int .i64 ((rd_T48 l0_0 a1).f1), .int .i64 0, .int .i64 0, .int .i64 0, .int .i64 0]) ?_ 2 _ rfl; (with_reducible repeat (first | refine blk_drewN ?_ _ | refine blk_drew ?_ | refine blk_alloc ?_ _)); refine blk_put (cs := #[.int .i64 ((rd_T48 l0_0 a1).f0), .int .i64 0, .int .i64 0, .int .i64 0, .int .i64 0, .int .i64 0]) ?_ 1 _ rfl; (with_reducible repeat (first | refine blk_drewN ?_ _ | refine blk_drew ?_ | refine blk_alloc ?_ _)); refine blk_put (cs := #[.int .i64 0, .int .i64 0, .int .i64 0, .int .i64 0, .int .i64 0, .int .i64 0]) ?_ 0 _ rfl; exact bkw_ BK255.out⟩, ⟨bla_ HB.out⟩⟩
     ·rw [if_neg c12] at H
      have c12b0 : decide (((rd_T48 l0_0 a1).f1) < a1) = false := decide_eq_false c12
      clear c12
      have H' := Aside0.mk H
      clear H
      have hnb18 := NB255_253.out
      have hnc18 := NB253_255.out
      have hcz19_0 : w8.cell? ⟨gb255, 0, none⟩ = some (.int .i64 0) := (blk_cell BK255.out 0).trans rfl
      have hcz19_1 : w8.cell? ⟨gb255, 1, none⟩ = some (.int .i64 0) := (blk_cell BK255.out 1).trans rfl
      have hcz19_2 : w8.cell? ⟨gb255, 2, none⟩ = some (.int .i64 0) := (blk_cell BK255.out 2).trans rfl
      have hcz19_3 : w8.cell? ⟨gb255, 3, none⟩ = some (.int .i64 0) := (blk_cell BK255.out 3).trans rfl
      have hcz19_4 : w8.cell? ⟨gb255, 4, none⟩ = some (.int .i64 0) := (blk_cell BK255.out 4).trans rfl
      have hcz19_5 : w8.cell? ⟨gb255, 5, none⟩ = some (.int .i64 0) := (blk_cell BK255.out 5).trans rfl
      have hfz19_0 := blk_frozen BK255.out 0
      have hfz19_1 := blk_frozen BK255.out 1
      have hfz19_2 := blk_frozen BK255.out 2
      have hfz19_3 := blk_frozen BK255.out 3
      have hfz19_4 := blk_frozen BK255.out 4
      have hfz19_5 := blk_frozen BK255.out 5
      go_wp2
      go_meet
      case rel => exact ⟨_, (false), fib_, H', ⟨by first | omega | exact Nat.le_refl _⟩, ⟨by (with_reducible repeat (first | refine blk_drewN ?_ _ | refine blk_drew ?_ | refine blk_alloc ?_ _)); refine blk_far ?_ NB253_255.out _; (with_reducible repeat (first | refine blk_drewN ?_ _ | refine blk_drew ?_ | refine blk_alloc ?_ _)); refine blk_far ?_ NB253_255.out _; (with_reducible repeat (first | refine blk_drewN ?_ _ | refine blk_drew ?_ | refine blk_alloc ?_ _)); refine blk_far ?_ NB253_255.out _; (with_reducible repeat (first | refine blk_drewN ?_ _ | refine blk_drew ?_ | refine blk_alloc ?_ _)); refine blk_far ?_ NB253_255.out _; (with_reducible repeat (first | refine blk_drewN ?_ _ | refine blk_drew ?_ | refine blk_alloc ?_ _)); refine blk_far ?_ NB253_255.out _; (with_reducible repeat (first | refine blk_drewN ?_ _ | refine blk_drew ?_ | refine blk_alloc ?_ _)); refine blk_far ?_ NB253_255.out _; exact bkw_ BK253.out⟩, ⟨by (with_reducible repeat (first | refine blk_drewN ?_ _ | refine blk_drew ?_ | refine blk_alloc ?_ _)); refine blk_put (cs := #[.int .i64 ((rd_T48 l0_0 a1).f0), .int .i64 ((rd_T48 l0_0 a1).f1), .int .i64 ((rd_T48 l0_0 a1).f2), .int .i64 ((rd_T48 l0_0 a1).f3), .int .i64 ((rd_T48 l0_0 a1).f4), .int .i64 0]) ?_ 5 _ rfl; (with_reducible repeat (first | refine blk_drewN ?_ _ | refine blk_drew ?_ | refine blk_alloc ?_ _)); refine blk_put (cs := #[.int .i64 ((rd_T48 l0_0 a1).f0), .int .i64 ((rd_T48 l0_0 a1).f1), .int .i64 ((rd_T48 l0_0 a1).f2), .int .i64 ((rd_T48 l0_0 a1).f3), .int .i64 0, .int .i64 0]) ?_ 4 _ rfl; (with_reducible repeat (first | refine blk_drewN ?_ _ | refine blk_drew ?_ | refine blk_alloc ?_ _)); refine blk_put (cs := #[.int .i64 ((rd_T48 l0_0 a1).f0), .int .i64 ((rd_T48 l0_0 a1).f1), .int .i64 ((rd_T48 l0_0 a1).f2), .int .i64 0, .int .i64 0, .int .i64 0]) ?_ 3 _ rfl; (with_reducible repeat (first | refine blk_drewN ?_ _ | refine blk_drew ?_ | refine blk_alloc ?_ _)); refine blk_put (cs := #[.int .i64 ((rd_T48 l0_0 a1).f0), .int .i64 ((rd_T48 l0_0 a1).f1), .int .i64 0, .int .i64 0, .int .i64 0, .int .i64 0]) ?_ 2 _ rfl; (with_reducible repeat (first | refine blk_drewN ?_ _ | refine blk_drew ?_ | refine blk_alloc ?_ _)); refine blk_put (cs := #[.int .i64 ((rd_T48 l0_0 a1).f0), .int .i64 0, .int .i64 0, .int .i64 0, .int .i64 0, .int .i64 0]) ?_ 1 _ rfl; (with_reducible repeat (first | refine blk_drewN ?_ _ | refine blk_drew ?_ | refine blk_alloc ?_ _)); refine blk_put (cs := #[.int .i64 0, .int .i64 0, .int .i64 0, .int .i64 0, .int .i64 0, .int .i64 0]) ?_ 0 _ rfl; exact bkw_ BK255.out⟩, ⟨bla_ HB.out⟩⟩
    ·rw [if_neg c11] at H
     have c11b0 : decide (0 ≤ ((rd_T48 l0_0 a1).f1)) = false := decide_eq_false c11
     clear c11
     (first | rw [c11b0] | (simp only [i64_w, i32_w]; rw [c11b0]) | skip)
     have H' := Aside0.mk H
     clear H
     have hnb20 := NB255_253.out
     have hnc20 := NB253_255.out
     have hcz21_0 : w8.cell? ⟨gb255, 0, none⟩ = some (.int .i64 0) := (blk_cell BK255.out 0).trans rfl
     have hcz21_1 : w8.cell? ⟨gb255, 1, none⟩ = some (.int .i64 0) := (blk_cell BK255.out 1).trans rfl
     have hcz21_2 : w8.cell? ⟨gb255, 2, none⟩ = some (.int .i64 0) := (blk_cell BK255.out 2).trans rfl
     have hcz21_3 : w8.cell? ⟨gb255, 3, none⟩ = some (.int .i64 0) := (blk_cell BK255.out 3).trans rfl
     have hcz21_4 : w8.cell? ⟨gb255, 4, none⟩ = some (.int .i64 0) := (blk_cell BK255.out 4).trans rfl
     have hcz21_5 : w8.cell? ⟨gb255, 5, none⟩ = some (.int .i64 0) := (blk_cell BK255.out 5).trans rfl
     have hfz21_0 := blk_frozen BK255.out 0
     have hfz21_1 := blk_frozen BK255.out 1
     have hfz21_2 := blk_frozen BK255.out 2
     have hfz21_3 := blk_frozen BK255.out 3
     have hfz21_4 := blk_frozen BK255.out 4
     have hfz21_5 := blk_frozen BK255.out 5
     go_wp2
     go_meet
     case rel => exact ⟨_, (false), fib_, H', ⟨by first | omega | exact Nat.le_refl _⟩, ⟨by (with_reducible repeat (first | refine blk_drewN ?_ _ | refine blk_drew ?_ | refine blk_alloc ?_ _)); refine blk_far ?_ NB253_255.out _; (with_reducible repeat (first | refine blk_drewN ?_ _ | refine blk_drew ?_ | refine blk_alloc ?_ _)); refine blk_far ?_ NB253_255.out _; (with_reducible repeat (first | refine blk_drewN ?_ _ | refine blk_drew ?_ | refine blk_alloc ?_ _)); refine blk_far ?_ NB253_255.out _; (with_reducible repeat (first | refine blk_drewN ?_ _ | refine blk_drew ?_ | refine blk_alloc ?_ _)); refine blk_far ?_ NB253_255.out _; (with_reducible repeat (first | refine blk_drewN ?_ _ | refine blk_drew ?_ | refine blk_alloc ?_ _)); refine blk_far ?_ NB253_255.out _; (with_reducible repeat (first | refine blk_drewN ?_ _ | refine blk_drew ?_ | refine blk_alloc ?_ _)); refine blk_far ?_ NB253_255.out _; exact bkw_ BK253.out⟩, ⟨by (with_reducible repeat (first | refine blk_drewN ?_ _ | refine blk_drew ?_ | refine blk_alloc ?_ _)); refine blk_put (cs := #[.int .i64 ((rd_T48 l0_0 a1).f0), .int .i64 ((rd_T48 l0_0 a1).f1), .int .i64 ((rd_T48 l0_0 a1).f2), .int .i64 ((rd_T48 l0_0 a1).f3), .int .i64 ((rd_T48 l0_0 a1).f4), .int .i64 0]) ?_ 5 _ rfl; (with_reducible repeat (first | refine blk_drewN ?_ _ | refine blk_drew ?_ | refine blk_alloc ?_ _)); refine blk_put (cs := #[.int .i64 ((rd_T48 l0_0 a1).f0), .int .i64 ((rd_T48 l0_0 a1).f1), .int .i64 ((rd_T48 l0_0 a1).f2), .int .i64 ((rd_T48 l0_0 a1).f3), .int .i64 0, .int .i64 0]) ?_ 4 _ rfl; (with_reducible repeat (first | refine blk_drewN ?_ _ | refine blk_drew ?_ | refine blk_alloc ?_ _)); refine blk_put (cs := #[.int .i64 ((rd_T48 l0_0 a1).f0), .int .i64 ((rd_T48 l0_0 a1).f1), .int .i64 ((rd_T48 l0_0 a1).f2), .int .i64 0, .int .i64 0, .int .i64 0]) ?_ 3 _ rfl; (with_reducible repeat (first | refine blk_drewN ?_ _ | refine blk_drew ?_ | refine blk_alloc ?_ _)); refine blk_put (cs := #[.int .i64 ((rd_T48 l0_0 a1).f0), .int .i64 ((rd_T48 l0_0 a1).f1), .int .i64 0, .int .i64 0, .int .i64 0, .int .i64 0]) ?_ 2 _ rfl; (with_reducible repeat (first | refine blk_drewN ?_ _ | refine blk_drew ?_ | refine blk_alloc ?_ _)); refine blk_put (cs := #[.int .i64 ((rd_T48 l0_0 a1).f0), .int .i64 0, .int .i64 0, .int .i64 0, .int .i64 0, .int .i64 0]) ?_ 1 _ rfl; (with_reducible repeat (first | refine blk_drewN ?_ _ | refine blk_drew ?_ | refine blk_alloc ?_ _)); refine blk_put (cs := #[.int .i64 0, .int .i64 0, .int .i64 0, .int .i64 0, .int .i64 0, .int .i64 0]) ?_ 0 _ rfl; exact bkw_ BK255.out⟩, ⟨bla_ HB.out⟩⟩
   case rest =>
    clear HC5
    try clear c1
    try clear c2
    try clear p2
    try clear q2
    try clear hx2
    try clear c3
    try clear c3b0
    try clear c4
    try clear c4b0
    try clear c9
    try clear c11
    try clear c11b0
    try clear c12
    try clear c12b0
    try clear c13
    try clear c13b0
    try clear c14
    try clear c16
    try clear c18
    try clear c20
    try clear hcz10_0
    try clear hcz10_1
    try clear hcz10_2
    try clear hcz10_3
    try clear hcz10_4
    try clear hcz10_5
    try clear hcz15_0
    try clear hcz15_1
    try clear hcz15_2
    try clear hcz15_3
    try clear hcz15_4
    try clear hcz15_5
    try clear hcz17_0
    try clear hcz17_1
    try clear hcz17_2
    try clear hcz17_3
    try clear hcz17_4
    try clear hcz17_5
    try clear hcz19_0
    try clear hcz19_1
    try clear hcz19_2
    try clear hcz19_3
    try clear hcz19_4
    try clear hcz19_5
    try clear hcz21_0
    try clear hcz21_1
    try clear hcz21_2
    try clear hcz21_3
    try clear hcz21_4
    try clear hcz21_5
    try clear hcz7_0
    try clear hcz7_1
    try clear hcz7_2
    try clear hfz10_0
    try clear hfz10_1
    try clear hfz10_2
    try clear hfz10_3
    try clear hfz10_4
    try clear hfz10_5
    try clear hfz15_0
    try clear hfz15_1
    try clear hfz15_2
    try clear hfz15_3
    try clear hfz15_4
    try clear hfz15_5
    try clear hfz17_0
    try clear hfz17_1
    try clear hfz17_2
    try clear hfz17_3
    try clear hfz17_4
    try clear hfz17_5
    try clear hfz19_0
    try clear hfz19_1
    try clear hfz19_2
    try clear hfz19_3
    try clear hfz19_4
    try clear hfz19_5
    try clear hfz21_0
    try clear hfz21_1
    try clear hfz21_2
    try clear hfz21_3
    try clear hfz21_4
    try clear hfz21_5
    try clear hfz7_0
    try clear hfz7_1
    try clear hfz7_2
    try clear hx254_0
    try clear hx254_1
    try clear hx254_2
    try clear hx254_3
    try clear hx254_4
    try clear hx254_5
    try clear p254
    try clear q254
    obtain ⟨kq, x6_4, rfl, HA, HJ4, BK253, BK255, HB⟩ := hcut
    cases kq with
    | zero => exact absurd HA.out (by simp [spoolref10_Node.j0])
    | succ kj4 =>
     have H := HA.out
     clear HA
     simp only [spoolref10_Node.j0] at H
     by_cases c22 : ((rd_T48 l0_0 a1).f0) = 1
     ·rw [if_pos c22] at H
      have c22b0 : (((rd_T48 l0_0 a1).f0) == 1) = true := beq_iff_eq.mpr c22
      have c22b1 : (((rd_T48 l0_0 a1).f0) != 1) = false := bne_eq_false_iff_eq.mpr c22
      clear c22
      by_cases c23 : ((rd_T48 l0_0 a1).f1) = 0
      ·rw [if_pos c23] at H
       have c23b0 : (((rd_T48 l0_0 a1).f1) == 0) = true := beq_iff_eq.mpr c23
       have c23b1 : (((rd_T48 l0_0 a1).f1) != 0) = false := bne_eq_false_iff_eq.mpr c23
       clear c23
       by_cases c24 : ((rd_T48 l0_0 a1).f2) = 0
       ·rw [if_pos c24] at H
        have c24b0 : (((rd_T48 l0_0 a1).f2) == 0) = true := beq_iff_eq.mpr c24
        have c24b1 : (((rd_T48 l0_0 a1).f2) != 0) = false := bne_eq_false_iff_eq.mpr c24
        clear c24
        by_cases c25 : ((rd_T48 l0_0 a1).f3) = 0
        ·rw [if_pos c25] at H
         have c25b0 : (((rd_T48 l0_0 a1).f3) == 0) = true := beq_iff_eq.mpr c25
         have c25b1 : (((rd_T48 l0_0 a1).f3) != 0) = false := bne_eq_false_iff_eq.mpr c25
         clear c25
         by_cases c26 : ((rd_T48 l0_0 a1).f4) = 0
         ·rw [if_pos c26] at H
          have c26b0 : (((rd_T48 l0_0 a1).f4) == 0) = true := beq_iff_eq.mpr c26
          have c26b1 : (((rd_T48 l0_0 a1).f4) != 0) = false := bne_eq_false_iff_eq.mpr c26
          clear c26
          obtain rfl := Option.some.inj H
          have hnb27 := NB255_253.out
          have hnc27 := NB253_255.out
          have hcz28_0 : wc.cell? ⟨gb255, 0, none⟩ = some (.int .i64 ((rd_T48 l0_0 a1).f0)) := (blk_cell BK255.out 0).trans rfl
          have hcz28_1 : wc.cell? ⟨gb255, 1, none⟩ = some (.int .i64 ((rd_T48 l0_0 a1).f1)) := (blk_cell BK255.out 1).trans rfl
          have hcz28_2 : wc.cell? ⟨gb255, 2, none⟩ = some (.int .i64 ((rd_T48 l0_0 a1).f2)) := (blk_cell BK255.out 2).trans rfl
          have hcz28_3 : wc.cell? ⟨gb255, 3, none⟩ = some (.int .i64 ((rd_T48 l0_0 a1).f3)) := (blk_cell BK255.out 3).trans rfl
          have hcz28_4 : wc.cell? ⟨gb255, 4, none⟩ = some (.int .i64 ((rd_T48 l0_0 a1).f4)) := (blk_cell BK255.out 4).trans rfl
          have hcz28_5 : wc.cell? ⟨gb255, 5, none⟩ = some (.int .i64 ((rd_T48 l0_0 a1).f5)) := (blk_cell BK255.out 5).trans rfl
          have hfz28_0 := blk_frozen BK255.out 0
          have hfz28_1 := blk_frozen BK255.out 1
          have hfz28_2 := blk_frozen BK255.out 2
          have hfz28_3 := blk_frozen BK255.out 3
          have hfz28_4 := blk_frozen BK255.out 4
          have hfz28_5 := blk_frozen BK255.out 5
          go_wp2
          go_ret
          exact ⟨fia_, bla_ HB.out⟩
         ·rw [if_neg c26] at H
          have c26b0 : (((rd_T48 l0_0 a1).f4) == 0) = false := beq_eq_false_iff_ne.mpr c26
          have c26b1 : (((rd_T48 l0_0 a1).f4) != 0) = true := bne_iff_ne.mpr c26
          obtain rfl := Option.some.inj H
          have hnb29 := NB255_253.out
          have hnc29 := NB253_255.out
          have hcz30_0 : wc.cell? ⟨gb255, 0, none⟩ = some (.int .i64 ((rd_T48 l0_0 a1).f0)) := (blk_cell BK255.out 0).trans rfl
          have hcz30_1 : wc.cell? ⟨gb255, 1, none⟩ = some (.int .i64 ((rd_T48 l0_0 a1).f1)) := (blk_cell BK255.out 1).trans rfl
          have hcz30_2 : wc.cell? ⟨gb255, 2, none⟩ = some (.int .i64 ((rd_T48 l0_0 a1).f2)) := (blk_cell BK255.out 2).trans rfl
          have hcz30_3 : wc.cell? ⟨gb255, 3, none⟩ = some (.int .i64 ((rd_T48 l0_0 a1).f3)) := (blk_cell BK255.out 3).trans rfl
          have hcz30_4 : wc.cell? ⟨gb255, 4, none⟩ = some (.int .i64 ((rd_T48 l0_0 a1).f4)) := (blk_cell BK255.out 4).trans rfl
          have hcz30_5 : wc.cell? ⟨gb255, 5, none⟩ = some (.int .i64 ((rd_T48 l0_0 a1).f5)) := (blk_cell BK255.out 5).trans rfl
          have hfz30_0 := blk_frozen BK255.out 0
          have hfz30_1 := blk_frozen BK255.out 1
          have hfz30_2 := blk_frozen BK255.out 2
          have hfz30_3 := blk_frozen BK255.out 3
          have hfz30_4 := blk_frozen BK255.out 4
          have hfz30_5 := blk_frozen BK255.out 5
          go_wp2
          go_ret
          exact ⟨fia_, bla_ HB.out⟩
        ·rw [if_neg c25] at H
         have c25b0 : (((rd_T48 l0_0 a1).f3) == 0) = false := beq_eq_false_iff_ne.mpr c25
         have c25b1 : (((rd_T48 l0_0 a1).f3) != 0) = true := bne_iff_ne.mpr c25
         obtain rfl := Option.some.inj H
         have hnb31 := NB255_253.out
         have hnc31 := NB253_255.out
         have hcz32_0 : wc.cell? ⟨gb255, 0, none⟩ = some (.int .i64 ((rd_T48 l0_0 a1).f0)) := (blk_cell BK255.out 0).trans rfl
         have hcz32_1 : wc.cell? ⟨gb255, 1, none⟩ = some (.int .i64 ((rd_T48 l0_0 a1).f1)) := (blk_cell BK255.out 1).trans rfl
         have hcz32_2 : wc.cell? ⟨gb255, 2, none⟩ = some (.int .i64 ((rd_T48 l0_0 a1).f2)) := (blk_cell BK255.out 2).trans rfl
         have hcz32_3 : wc.cell? ⟨gb255, 3, none⟩ = some (.int .i64 ((rd_T48 l0_0 a1).f3)) := (blk_cell BK255.out 3).trans rfl
         have hcz32_4 : wc.cell? ⟨gb255, 4, none⟩ = some (.int .i64 ((rd_T48 l0_0 a1).f4)) := (blk_cell BK255.out 4).trans rfl
         have hcz32_5 : wc.cell? ⟨gb255, 5, none⟩ = some (.int .i64 ((rd_T48 l0_0 a1).f5)) := (blk_cell BK255.out 5).trans rfl
         have hfz32_0 := blk_frozen BK255.out 0
         have hfz32_1 := blk_frozen BK255.out 1
         have hfz32_2 := blk_frozen BK255.out 2
         have hfz32_3 := blk_frozen BK255.out 3
         have hfz32_4 := blk_frozen BK255.out 4
         have hfz32_5 := blk_frozen BK255.out 5
         go_wp2
         go_ret
         exact ⟨fia_, bla_ HB.out⟩
       ·rw [if_neg c24] at H
        have c24b0 : (((rd_T48 l0_0 a1).f2) == 0) = false := beq_eq_false_iff_ne.mpr c24
        have c24b1 : (((rd_T48 l0_0 a1).f2) != 0) = true := bne_iff_ne.mpr c24
        obtain rfl := Option.some.inj H
        have hnb33 := NB255_253.out
        have hnc33 := NB253_255.out
        have hcz34_0 : wc.cell? ⟨gb255, 0, none⟩ = some (.int .i64 ((rd_T48 l0_0 a1).f0)) := (blk_cell BK255.out 0).trans rfl
        have hcz34_1 : wc.cell? ⟨gb255, 1, none⟩ = some (.int .i64 ((rd_T48 l0_0 a1).f1)) := (blk_cell BK255.out 1).trans rfl
        have hcz34_2 : wc.cell? ⟨gb255, 2, none⟩ = some (.int .i64 ((rd_T48 l0_0 a1).f2)) := (blk_cell BK255.out 2).trans rfl
        have hcz34_3 : wc.cell? ⟨gb255, 3, none⟩ = some (.int .i64 ((rd_T48 l0_0 a1).f3)) := (blk_cell BK255.out 3).trans rfl
        have hcz34_4 : wc.cell? ⟨gb255, 4, none⟩ = some (.int .i64 ((rd_T48 l0_0 a1).f4)) := (blk_cell BK255.out 4).trans rfl
        have hcz34_5 : wc.cell? ⟨gb255, 5, none⟩ = some (.int .i64 ((rd_T48 l0_0 a1).f5)) := (blk_cell BK255.out 5).trans rfl
        have hfz34_0 := blk_frozen BK255.out 0
        have hfz34_1 := blk_frozen BK255.out 1
        have hfz34_2 := blk_frozen BK255.out 2
        have hfz34_3 := blk_frozen BK255.out 3
        have hfz34_4 := blk_frozen BK255.out 4
        have hfz34_5 := blk_frozen BK255.out 5
        go_wp2
        go_ret
        exact ⟨fia_, bla_ HB.out⟩
      ·rw [if_neg c23] at H
       have c23b0 : (((rd_T48 l0_0 a1).f1) == 0) = false := beq_eq_false_iff_ne.mpr c23
       have c23b1 : (((rd_T48 l0_0 a1).f1) != 0) = true := bne_iff_ne.mpr c23
       obtain rfl := Option.some.inj H
       have hnb35 := NB255_253.out
       have hnc35 := NB253_255.out
       have hcz36_0 : wc.cell? ⟨gb255, 0, none⟩ = some (.int .i64 ((rd_T48 l0_0 a1).f0)) := (blk_cell BK255.out 0).trans rfl
       have hcz36_1 : wc.cell? ⟨gb255, 1, none⟩ = some (.int .i64 ((rd_T48 l0_0 a1).f1)) := (blk_cell BK255.out 1).trans rfl
       have hcz36_2 : wc.cell? ⟨gb255, 2, none⟩ = some (.int .i64 ((rd_T48 l0_0 a1).f2)) := (blk_cell BK255.out 2).trans rfl
       have hcz36_3 : wc.cell? ⟨gb255, 3, none⟩ = some (.int .i64 ((rd_T48 l0_0 a1).f3)) := (blk_cell BK255.out 3).trans rfl
       have hcz36_4 : wc.cell? ⟨gb255, 4, none⟩ = some (.int .i64 ((rd_T48 l0_0 a1).f4)) := (blk_cell BK255.out 4).trans rfl
       have hcz36_5 : wc.cell? ⟨gb255, 5, none⟩ = some (.int .i64 ((rd_T48 l0_0 a1).f5)) := (blk_cell BK255.out 5).trans rfl
       have hfz36_0 := blk_frozen BK255.out 0
       have hfz36_1 := blk_frozen BK255.out 1
       have hfz36_2 := blk_frozen BK255.out 2
       have hfz36_3 := blk_frozen BK255.out 3
       have hfz36_4 := blk_frozen BK255.out 4
       have hfz36_5 := blk_frozen BK255.out 5
       go_wp2
       go_ret
       exact ⟨fia_, bla_ HB.out⟩
     ·rw [if_neg c22] at H
      have c22b0 : (((rd_T48 l0_0 a1).f0) == 1) = false := beq_eq_false_iff_ne.mpr c22
      have c22b1 : (((rd_T48 l0_0 a1).f0) != 1) = true := bne_iff_ne.mpr c22
      by_cases c37 : ((rd_T48 l0_0 a1).f0) = 2
      ·rw [if_pos c37] at H
       have c37b0 : (((rd_T48 l0_0 a1).f0) == 2) = true := beq_iff_eq.mpr c37
       have c37b1 : (((rd_T48 l0_0 a1).f0) != 2) = false := bne_eq_false_iff_eq.mpr c37
       clear c37
       by_cases c38 : ((rd_T48 l0_0 a1).f1) = 0
       ·rw [if_pos c38] at H
        have c38b0 : (((rd_T48 l0_0 a1).f1) == 0) = true := beq_iff_eq.mpr c38
        have c38b1 : (((rd_T48 l0_0 a1).f1) != 0) = false := bne_eq_false_iff_eq.mpr c38
        clear c38
        by_cases c39 : ((rd_T48 l0_0 a1).f2) = 0
        ·rw [if_pos c39] at H
         have c39b0 : (((rd_T48 l0_0 a1).f2) == 0) = true := beq_iff_eq.mpr c39
         have c39b1 : (((rd_T48 l0_0 a1).f2) != 0) = false := bne_eq_false_iff_eq.mpr c39
         clear c39
         by_cases c40 : ((rd_T48 l0_0 a1).f3) = 0
         ·rw [if_pos c40] at H
          have c40b0 : (((rd_T48 l0_0 a1).f3) == 0) = true := beq_iff_eq.mpr c40
          have c40b1 : (((rd_T48 l0_0 a1).f3) != 0) = false := bne_eq_false_iff_eq.mpr c40
          clear c40
          by_cases c41 : ((rd_T48 l0_0 a1).f4) = 0
          ·rw [if_pos c41] at H
           have c41b0 : (((rd_T48 l0_0 a1).f4) == 0) = true := beq_iff_eq.mpr c41
           have c41b1 : (((rd_T48 l0_0 a1).f4) != 0) = false := bne_eq_false_iff_eq.mpr c41
           clear c41
           by_cases c42 : ((rd_T48 l0_0 a1).f5) ≥ 0
           ·rw [if_pos c42] at H
            have c42b0 : decide (0 ≤ ((rd_T48 l0_0 a1).f5)) = true := decide_eq_true c42
            clear c42
            obtain rfl := Option.some.inj H
            have hnb43 := NB255_253.out
            have hnc43 := NB253_255.out
            have hcz44_0 : wc.cell? ⟨gb255, 0, none⟩ = some (.int .i64 ((rd_T48 l0_0 a1).f0)) := (blk_cell BK255.out 0).trans rfl
            have hcz44_1 : wc.cell? ⟨gb255, 1, none⟩ = some (.int .i64 ((rd_T48 l0_0 a1).f1)) := (blk_cell BK255.out 1).trans rfl
            have hcz44_2 : wc.cell? ⟨gb255, 2, none⟩ = some (.int .i64 ((rd_T48 l0_0 a1).f2)) := (blk_cell BK255.out 2).trans rfl
            have hcz44_3 : wc.cell? ⟨gb255, 3, none⟩ = some (.int .i64 ((rd_T48 l0_0 a1).f3)) := (blk_cell BK255.out 3).trans rfl
            have hcz44_4 : wc.cell? ⟨gb255, 4, none⟩ = some (.int .i64 ((rd_T48 l0_0 a1).f4)) := (blk_cell BK255.out 4).trans rfl
            have hcz44_5 : wc.cell? ⟨gb255, 5, none⟩ = some (.int .i64 ((rd_T48 l0_0 a1).f5)) := (blk_cell BK255.out 5).trans rfl
            have hfz44_0 := blk_frozen BK255.out 0
            have hfz44_1 := blk_frozen BK255.out 1
            have hfz44_2 := blk_frozen BK255.out 2
            have hfz44_3 := blk_frozen BK255.out 3
            have hfz44_4 := blk_frozen BK255.out 4
            have hfz44_5 := blk_frozen BK255.out 5
            have hcz45_0 : wc.cell? ⟨gb253, 0, none⟩ = some (.slice (some ad254) l0_0.length c0_0) := (blk_cell BK253.out 0).trans rfl
            have hcz45_1 : wc.cell? ⟨gb253, 1, none⟩ = some (.slice A0_1 l0_1.length c0_1) := (blk_cell BK253.out 1).trans rfl
            have hcz45_2 : wc.cell? ⟨gb253, 2, none⟩ = some (.int .i64 a0_2) := (blk_cell BK253.out 2).trans rfl
            have hfz45_0 := blk_frozen BK253.out 0
            have hfz45_1 := blk_frozen BK253.out 1
            have hfz45_2 := blk_frozen BK253.out 2
            go_wp2
            go_ret
            exact ⟨fia_, bla_ HB.out⟩
           ·rw [if_neg c42] at H
            have c42b0 : decide (0 ≤ ((rd_T48 l0_0 a1).f5)) = false := decide_eq_false c42
            clear c42
            obtain rfl := Option.some.inj H
            have hnb46 := NB255_253.out
            have hnc46 := NB253_255.out
            have hcz47_0 : wc.cell? ⟨gb255, 0, none⟩ = some (.int .i64 ((rd_T48 l0_0 a1).f0)) := (blk_cell BK255.out 0).trans rfl
            have hcz47_1 : wc.cell? ⟨gb255, 1, none⟩ = some (.int .i64 ((rd_T48 l0_0 a1).f1)) := (blk_cell BK255.out 1).trans rfl
            have hcz47_2 : wc.cell? ⟨gb255, 2, none⟩ = some (.int .i64 ((rd_T48 l0_0 a1).f2)) := (blk_cell BK255.out 2).trans rfl
            have hcz47_3 : wc.cell? ⟨gb255, 3, none⟩ = some (.int .i64 ((rd_T48 l0_0 a1).f3)) := (blk_cell BK255.out 3).trans rfl
            have hcz47_4 : wc.cell? ⟨gb255, 4, none⟩ = some (.int .i64 ((rd_T48 l0_0 a1).f4)) := (blk_cell BK255.out 4).trans rfl
            have hcz47_5 : wc.cell? ⟨gb255, 5, none⟩ = some (.int .i64 ((rd_T48 l0_0 a1).f5)) := (blk_cell BK255.out 5).trans rfl
            have hfz47_0 := blk_frozen BK255.out 0
            have hfz47_1 := blk_frozen BK255.out 1
            have hfz47_2 := blk_frozen BK255.out 2
            have hfz47_3 := blk_frozen BK255.out 3
            have hfz47_4 := blk_frozen BK255.out 4
            have hfz47_5 := blk_frozen BK255.out 5
            go_wp2
            go_ret
            exact ⟨fia_, bla_ HB.out⟩
          ·rw [if_neg c41] at H
           have c41b0 : (((rd_T48 l0_0 a1).f4) == 0) = false := beq_eq_false_iff_ne.mpr c41
           have c41b1 : (((rd_T48 l0_0 a1).f4) != 0) = true := bne_iff_ne.mpr c41
           obtain rfl := Option.some.inj H
           have hnb48 := NB255_253.out
           have hnc48 := NB253_255.out
           have hcz49_0 : wc.cell? ⟨gb255, 0, none⟩ = some (.int .i64 ((rd_T48 l0_0 a1).f0)) := (blk_cell BK255.out 0).trans rfl
           have hcz49_1 : wc.cell? ⟨gb255, 1, none⟩ = some (.int .i64 ((rd_T48 l0_0 a1).f1)) := (blk_cell BK255.out 1).trans rfl
           have hcz49_2 : wc.cell? ⟨gb255, 2, none⟩ = some (.int .i64 ((rd_T48 l0_0 a1).f2)) := (blk_cell BK255.out 2).trans rfl
           have hcz49_3 : wc.cell? ⟨gb255, 3, none⟩ = some (.int .i64 ((rd_T48 l0_0 a1).f3)) := (blk_cell BK255.out 3).trans rfl
           have hcz49_4 : wc.cell? ⟨gb255, 4, none⟩ = some (.int .i64 ((rd_T48 l0_0 a1).f4)) := (blk_cell BK255.out 4).trans rfl
           have hcz49_5 : wc.cell? ⟨gb255, 5, none⟩ = some (.int .i64 ((rd_T48 l0_0 a1).f5)) := (blk_cell BK255.out 5).trans rfl
           have hfz49_0 := blk_frozen BK255.out 0
           have hfz49_1 := blk_frozen BK255.out 1
           have hfz49_2 := blk_frozen BK255.out 2
           have hfz49_3 := blk_frozen BK255.out 3
           have hfz49_4 := blk_frozen BK255.out 4
           have hfz49_5 := blk_frozen BK255.out 5
           go_wp2
           go_ret
           exact ⟨fia_, bla_ HB.out⟩
         ·rw [if_neg c40] at H
          have c40b0 : (((rd_T48 l0_0 a1).f3) == 0) = false := beq_eq_false_iff_ne.mpr c40
          have c40b1 : (((rd_T48 l0_0 a1).f3) != 0) = true := bne_iff_ne.mpr c40
          obtain rfl := Option.some.inj H
          have hnb50 := NB255_253.out
          have hnc50 := NB253_255.out
          have hcz51_0 : wc.cell? ⟨gb255, 0, none⟩ = some (.int .i64 ((rd_T48 l0_0 a1).f0)) := (blk_cell BK255.out 0).trans rfl
          have hcz51_1 : wc.cell? ⟨gb255, 1, none⟩ = some (.int .i64 ((rd_T48 l0_0 a1).f1)) := (blk_cell BK255.out 1).trans rfl
          have hcz51_2 : wc.cell? ⟨gb255, 2, none⟩ = some (.int .i64 ((rd_T48 l0_0 a1).f2)) := (blk_cell BK255.out 2).trans rfl
          have hcz51_3 : wc.cell? ⟨gb255, 3, none⟩ = some (.int .i64 ((rd_T48 l0_0 a1).f3)) := (blk_cell BK255.out 3).trans rfl
          have hcz51_4 : wc.cell? ⟨gb255, 4, none⟩ = some (.int .i64 ((rd_T48 l0_0 a1).f4)) := (blk_cell BK255.out 4).trans rfl
          have hcz51_5 : wc.cell? ⟨gb255, 5, none⟩ = some (.int .i64 ((rd_T48 l0_0 a1).f5)) := (blk_cell BK255.out 5).trans rfl
          have hfz51_0 := blk_frozen BK255.out 0
          have hfz51_1 := blk_frozen BK255.out 1
          have hfz51_2 := blk_frozen BK255.out 2
          have hfz51_3 := blk_frozen BK255.out 3
          have hfz51_4 := blk_frozen BK255.out 4
          have hfz51_5 := blk_frozen BK255.out 5
          go_wp2
          go_ret
          exact ⟨fia_, bla_ HB.out⟩
        ·rw [if_neg c39] at H
         have c39b0 : (((rd_T48 l0_0 a1).f2) == 0) = false := beq_eq_false_iff_ne.mpr c39
         have c39b1 : (((rd_T48 l0_0 a1).f2) != 0) = true := bne_iff_ne.mpr c39
         obtain rfl := Option.some.inj H
         have hnb52 := NB255_253.out
         have hnc52 := NB253_255.out
         have hcz53_0 : wc.cell? ⟨gb255, 0, none⟩ = some (.int .i64 ((rd_T48 l0_0 a1).f0)) := (blk_cell BK255.out 0).trans rfl
         have hcz53_1 : wc.cell? ⟨gb255, 1, none⟩ = some (.int .i64 ((rd_T48 l0_0 a1).f1)) := (blk_cell BK255.out 1).trans rfl
         have hcz53_2 : wc.cell? ⟨gb255, 2, none⟩ = some (.int .i64 ((rd_T48 l0_0 a1).f2)) := (blk_cell BK255.out 2).trans rfl
         have hcz53_3 : wc.cell? ⟨gb255, 3, none⟩ = some (.int .i64 ((rd_T48 l0_0 a1).f3)) := (blk_cell BK255.out 3).trans rfl
         have hcz53_4 : wc.cell? ⟨gb255, 4, none⟩ = some (.int .i64 ((rd_T48 l0_0 a1).f4)) := (blk_cell BK255.out 4).trans rfl
         have hcz53_5 : wc.cell? ⟨gb255, 5, none⟩ = some (.int .i64 ((rd_T48 l0_0 a1).f5)) := (blk_cell BK255.out 5).trans rfl
         have hfz53_0 := blk_frozen BK255.out 0
         have hfz53_1 := blk_frozen BK255.out 1
         have hfz53_2 := blk_frozen BK255.out 2
         have hfz53_3 := blk_frozen BK255.out 3
         have hfz53_4 := blk_frozen BK255.out 4
         have hfz53_5 := blk_frozen BK255.out 5
         go_wp2
         go_ret
         exact ⟨fia_, bla_ HB.out⟩
       ·rw [if_neg c38] at H
        have c38b0 : (((rd_T48 l0_0 a1).f1) == 0) = false := beq_eq_false_iff_ne.mpr c38
        have c38b1 : (((rd_T48 l0_0 a1).f1) != 0) = true := bne_iff_ne.mpr c38
        obtain rfl := Option.some.inj H
        have hnb54 := NB255_253.out
        have hnc54 := NB253_255.out
        have hcz55_0 : wc.cell? ⟨gb255, 0, none⟩ = some (.int .i64 ((rd_T48 l0_0 a1).f0)) := (blk_cell BK255.out 0).trans rfl
        have hcz55_1 : wc.cell? ⟨gb255, 1, none⟩ = some (.int .i64 ((rd_T48 l0_0 a1).f1)) := (blk_cell BK255.out 1).trans rfl
        have hcz55_2 : wc.cell? ⟨gb255, 2, none⟩ = some (.int .i64 ((rd_T48 l0_0 a1).f2)) := (blk_cell BK255.out 2).trans rfl
        have hcz55_3 : wc.cell? ⟨gb255, 3, none⟩ = some (.int .i64 ((rd_T48 l0_0 a1).f3)) := (blk_cell BK255.out 3).trans rfl
        have hcz55_4 : wc.cell? ⟨gb255, 4, none⟩ = some (.int .i64 ((rd_T48 l0_0 a1).f4)) := (blk_cell BK255.out 4).trans rfl
        have hcz55_5 : wc.cell? ⟨gb255, 5, none⟩ = some (.int .i64 ((rd_T48 l0_0 a1).f5)) := (blk_cell BK255.out 5).trans rfl
        have hfz55_0 := blk_frozen BK255.out 0
        have hfz55_1 := blk_frozen BK255.out 1
        have hfz55_2 := blk_frozen BK255.out 2
        have hfz55_3 := blk_frozen BK255.out 3
        have hfz55_4 := blk_frozen BK255.out 4
        have hfz55_5 := blk_frozen BK255.out 5
        go_wp2
        go_ret
        exact ⟨fia_, bla_ HB.out⟩
      ·rw [if_neg c37] at H
       have c37b0 : (((rd_T48 l0_0 a1).f0) == 2) = false := beq_eq_false_iff_ne.mpr c37
       have c37b1 : (((rd_T48 l0_0 a1).f0) != 2) = true := bne_iff_ne.mpr c37
       have HC56 := Aside0.mk H
       clear H
       have hnb57 := NB255_253.out
       have hnc57 := NB253_255.out
       have hcz58_0 : wc.cell? ⟨gb255, 0, none⟩ = some (.int .i64 ((rd_T48 l0_0 a1).f0)) := (blk_cell BK255.out 0).trans rfl
       have hcz58_1 : wc.cell? ⟨gb255, 1, none⟩ = some (.int .i64 ((rd_T48 l0_0 a1).f1)) := (blk_cell BK255.out 1).trans rfl
       have hcz58_2 : wc.cell? ⟨gb255, 2, none⟩ = some (.int .i64 ((rd_T48 l0_0 a1).f2)) := (blk_cell BK255.out 2).trans rfl
       have hcz58_3 : wc.cell? ⟨gb255, 3, none⟩ = some (.int .i64 ((rd_T48 l0_0 a1).f3)) := (blk_cell BK255.out 3).trans rfl
       have hcz58_4 : wc.cell? ⟨gb255, 4, none⟩ = some (.int .i64 ((rd_T48 l0_0 a1).f4)) := (blk_cell BK255.out 4).trans rfl
       have hcz58_5 : wc.cell? ⟨gb255, 5, none⟩ = some (.int .i64 ((rd_T48 l0_0 a1).f5)) := (blk_cell BK255.out 5).trans rfl
       have hfz58_0 := blk_frozen BK255.out 0
       have hfz58_1 := blk_frozen BK255.out 1
       have hfz58_2 := blk_frozen BK255.out 2
       have hfz58_3 := blk_frozen BK255.out 3
       have hfz58_4 := blk_frozen BK255.out 4
       have hfz58_5 := blk_frozen BK255.out 5
       go_upto_if 92 with (fail)
       go_cut [92] (fun v92 wc => ∃ (kq : Nat) (x92_55 : Bool), v92 = .bool x92_55 ∧ Aside0 (spoolref10_Node.j1 kq a1 x6_4 ((rd_T48 l0_0 a1).f0) x92_55 ((rd_T48 l0_0 a1).f0) ((rd_T48 l0_0 a1).f1) ((rd_T48 l0_0 a1).f2) ((rd_T48 l0_0 a1).f3) ((rd_T48 l0_0 a1).f4) ((rd_T48 l0_0 a1).f5) = some r) ∧ Aside0 (kq ≤ kj4) ∧ Aside0 (wc.heap[gb253]? = some (.cells #[(.slice (some ad254) l0_0.length c0_0), (.slice A0_1 l0_1.length c0_1), .int .i64 a0_2] 25 (0, 0))) ∧ Aside0 (wc.heap[gb255]? = some (.cells #[.int .i64 ((rd_T48 l0_0 a1).f0), .int .i64 ((rd_T48 l0_0 a1).f1), .int .i64 ((rd_T48 l0_0 a1).f2), .int .i64 ((rd_T48 l0_0 a1).f3), .int .i64 ((rd_T48 l0_0 a1).f4), .int .i64 ((rd_T48 l0_0 a1).f5)] 48 (0, 0))) ∧ Aside0 (Below w.heap.size w wc))
       case first =>
        have H := HC56.out
        clear HC56
        by_cases c59 : ((rd_T48 l0_0 a1).f0) = 3
        ·rw [if_pos c59] at H
         have c59b0 : (((rd_T48 l0_0 a1).f0) == 3) = true := beq_iff_eq.mpr c59
         have c59b1 : (((rd_T48 l0_0 a1).f0) != 3) = false := bne_eq_false_iff_eq.mpr c59
         clear c59
         (first | rw [c59b0] | (simp only [i64_w, i32_w]; rw [c59b0]) | skip)
         have H' := Aside0.mk H
         clear H
         go_wp2
         go_meet
         case rel => exact ⟨_, ((((rd_T48 l0_0 a1).f0) == 3)), fib_, H', ⟨by have := HJ4.out; first | omega | exact Nat.le_refl _⟩, ⟨by exact bkw_ BK253.out⟩, ⟨by exact bkw_ BK255.out⟩, ⟨bla_ HB.out⟩⟩
        ·rw [if_neg c59] at H
         have c59b0 : (((rd_T48 l0_0 a1).f0) == 3) = false := beq_eq_false_iff_ne.mpr c59
         have c59b1 : (((rd_T48 l0_0 a1).f0) != 3) = true := bne_iff_ne.mpr c59
         (first | rw [c59b0] | (simp only [i64_w, i32_w]; rw [c59b0]) | skip)
         have H' := Aside0.mk H
         clear H
         go_wp2
         go_meet
         case rel => exact ⟨_, ((((rd_T48 l0_0 a1).f0) == 4)), fib_, H', ⟨by have := HJ4.out; first | omega | exact Nat.le_refl _⟩, ⟨by exact bkw_ BK253.out⟩, ⟨by exact bkw_ BK255.out⟩, ⟨bla_ HB.out⟩⟩
       case rest =>
        clear HC56
        try clear c1
        try clear c2
        try clear p2
        try clear q2
        try clear hx2
        try clear c3
        try clear c3b0
        try clear c4
        try clear c4b0
        try clear c5
        try clear c9
        try clear c11
        try clear c11b0
        try clear c12
        try clear c12b0
        try clear c13
        try clear c13b0
        try clear c14
        try clear c16
        try clear c18
        try clear c20
        try clear c22
        try clear c22b0
        try clear c22b1
        try clear c23
        try clear c23b0
        try clear c23b1
        try clear c24
        try clear c24b0
        try clear c24b1
        try clear c25
        try clear c25b0
        try clear c25b1
        try clear p25
        try clear q25
        try clear hx25
        try clear c26
        try clear c26b0
        try clear c26b1
        try clear c27
        try clear c29
        try clear c31
        try clear c33
        try clear c35
        try clear c37
        try clear c37b0
        try clear c37b1
        try clear c38
        try clear c38b0
        try clear c38b1
        try clear c39
        try clear c39b0
        try clear c39b1
        try clear c40
        try clear c40b0
        try clear c40b1
        try clear c41
        try clear c41b0
        try clear c41b1
        try clear c42
        try clear c42b0
        try clear c43
        try clear c46
        try clear c48
        try clear c50
        try clear c52
        try clear c54
        try clear c57
        try clear c59
        try clear c59b0
        try clear c59b1
        try clear hcz10_0
        try clear hcz10_1
        try clear hcz10_2
        try clear hcz10_3
        try clear hcz10_4
        try clear hcz10_5
        try clear hcz15_0
        try clear hcz15_1
        try clear hcz15_2
        try clear hcz15_3
        try clear hcz15_4
        try clear hcz15_5
        try clear hcz17_0
        try clear hcz17_1
        try clear hcz17_2
        try clear hcz17_3
        try clear hcz17_4
        try clear hcz17_5
        try clear hcz19_0
        try clear hcz19_1
        try clear hcz19_2
        try clear hcz19_3
        try clear hcz19_4
        try clear hcz19_5
        try clear hcz21_0
        try clear hcz21_1
        try clear hcz21_2
        try clear hcz21_3
        try clear hcz21_4
        try clear hcz21_5
        try clear hcz28_0
        try clear hcz28_1
        try clear hcz28_2
        try clear hcz28_3
        try clear hcz28_4
        try clear hcz28_5
        try clear hcz30_0
        try clear hcz30_1
        try clear hcz30_2
        try clear hcz30_3
        try clear hcz30_4
        try clear hcz30_5
        try clear hcz32_0
        try clear hcz32_1
        try clear hcz32_2
        try clear hcz32_3
        try clear hcz32_4
        try clear hcz32_5
        try clear hcz34_0
        try clear hcz34_1
        try clear hcz34_2
        try clear hcz34_3
        try clear hcz34_4
        try clear hcz34_5
        try clear hcz36_0
        try clear hcz36_1
        try clear hcz36_2
        try clear hcz36_3
        try clear hcz36_4
        try clear hcz36_5
        try clear hcz44_0
        try clear hcz44_1
        try clear hcz44_2
        try clear hcz44_3
        try clear hcz44_4
        try clear hcz44_5
        try clear hcz45_0
        try clear hcz45_1
        try clear hcz45_2
        try clear hcz47_0
        try clear hcz47_1
        try clear hcz47_2
        try clear hcz47_3
        try clear hcz47_4
        try clear hcz47_5
        try clear hcz49_0
        try clear hcz49_1
        try clear hcz49_2
        try clear hcz49_3
        try clear hcz49_4
        try clear hcz49_5
        try clear hcz51_0
        try clear hcz51_1
        try clear hcz51_2
        try clear hcz51_3
        try clear hcz51_4
        try clear hcz51_5
        try clear hcz53_0
        try clear hcz53_1
        try clear hcz53_2
        try clear hcz53_3
        try clear hcz53_4
        try clear hcz53_5
        try clear hcz55_0
        try clear hcz55_1
        try clear hcz55_2
        try clear hcz55_3
        try clear hcz55_4
        try clear hcz55_5
        try clear hcz58_0
        try clear hcz58_1
        try clear hcz58_2
        try clear hcz58_3
        try clear hcz58_4
        try clear hcz58_5
        try clear hcz7_0
        try clear hcz7_1
        try clear hcz7_2
        try clear hfz10_0
        try clear hfz10_1
        try clear hfz10_2
        try clear hfz10_3
        try clear hfz10_4
        try clear hfz10_5
        try clear hfz15_0
        try clear hfz15_1
        try clear hfz15_2
        try clear hfz15_3
        try clear hfz15_4
        try clear hfz15_5
        try clear hfz17_0
        try clear hfz17_1
        try clear hfz17_2
        try clear hfz17_3
        try clear hfz17_4
        try clear hfz17_5
        try clear hfz19_0
        try clear hfz19_1
        try clear hfz19_2
        try clear hfz19_3
        try clear hfz19_4
        try clear hfz19_5
        try clear hfz21_0
        try clear hfz21_1
        try clear hfz21_2
        try clear hfz21_3
        try clear hfz21_4
        try clear hfz21_5
        try clear hfz28_0
        try clear hfz28_1
        try clear hfz28_2
        try clear hfz28_3
        try clear hfz28_4
        try clear hfz28_5
        try clear hfz30_0
        try clear hfz30_1
        try clear hfz30_2
        try clear hfz30_3
        try clear hfz30_4
        try clear hfz30_5
        try clear hfz32_0
        try clear hfz32_1
        try clear hfz32_2
        try clear hfz32_3
        try clear hfz32_4
        try clear hfz32_5
        try clear hfz34_0
        try clear hfz34_1
        try clear hfz34_2
        try clear hfz34_3
        try clear hfz34_4
        try clear hfz34_5
        try clear hfz36_0
        try clear hfz36_1
        try clear hfz36_2
        try clear hfz36_3
        try clear hfz36_4
        try clear hfz36_5
        try clear hfz44_0
        try clear hfz44_1
        try clear hfz44_2
        try clear hfz44_3
        try clear hfz44_4
        try clear hfz44_5
        try clear hfz45_0
        try clear hfz45_1
        try clear hfz45_2
        try clear hfz47_0
        try clear hfz47_1
        try clear hfz47_2
        try clear hfz47_3
        try clear hfz47_4
        try clear hfz47_5
        try clear hfz49_0
        try clear hfz49_1
        try clear hfz49_2
        try clear hfz49_3
        try clear hfz49_4
        try clear hfz49_5
        try clear hfz51_0
        try clear hfz51_1
        try clear hfz51_2
        try clear hfz51_3
        try clear hfz51_4
        try clear hfz51_5
        try clear hfz53_0
        try clear hfz53_1
        try clear hfz53_2
        try clear hfz53_3
        try clear hfz53_4
        try clear hfz53_5
        try clear hfz55_0
        try clear hfz55_1
        try clear hfz55_2
        try clear hfz55_3
        try clear hfz55_4
        try clear hfz55_5
        try clear hfz58_0
        try clear hfz58_1
        try clear hfz58_2
        try clear hfz58_3
        try clear hfz58_4
        try clear hfz58_5
        try clear hfz7_0
        try clear hfz7_1
        try clear hfz7_2
        try clear hx254_0
        try clear hx254_1
        try clear hx254_2
        try clear hx254_3
        try clear hx254_4
        try clear hx254_5
        try clear p2
        try clear p254
        try clear q2
        try clear q254
        obtain ⟨kq, x92_55, rfl, HA, HJ55, BK253, BK255, HB⟩ := hcut
        cases kq with
        | zero => exact absurd HA.out (by simp [spoolref10_Node.j1])
        | succ kj55 =>
         have H := HA.out
         clear HA
         simp only [spoolref10_Node.j1] at H
         by_cases c60 : x92_55 = true
         ·subst c60
          have H1 : (if x6_4 = true then (if ((rd_T48 l0_0 a1).f3) = 0 then (if ((rd_T48 l0_0 a1).f4) = 0 then (some (((rd_T48 l0_0 a1).f5) == 0)) else (some false)) else (some false)) else (some false)) = some r := by rw [if_pos rfl] at H; exact H
          clear H
          have H := H1
          clear H1
          by_cases c61 : x6_4 = true
          ·subst c61
           have H1 : (if ((rd_T48 l0_0 a1).f3) = 0 then (if ((rd_T48 l0_0 a1).f4) = 0 then (some (((rd_T48 l0_0 a1).f5) == 0)) else (some false)) else (some false)) = some r := by rw [if_pos rfl] at H; exact H
           clear H
           have H := H1
           clear H1
           by_cases c62 : ((rd_T48 l0_0 a1).f3) = 0
           ·rw [if_pos c62] at H
            have c62b0 : (((rd_T48 l0_0 a1).f3) == 0) = true := beq_iff_eq.mpr c62
            have c62b1 : (((rd_T48 l0_0 a1).f3) != 0) = false := bne_eq_false_iff_eq.mpr c62
            clear c62
            by_cases c63 : ((rd_T48 l0_0 a1).f4) = 0
            ·rw [if_pos c63] at H
             have c63b0 : (((rd_T48 l0_0 a1).f4) == 0) = true := beq_iff_eq.mpr c63
             have c63b1 : (((rd_T48 l0_0 a1).f4) != 0) = false := bne_eq_false_iff_eq.mpr c63
             clear c63
             obtain rfl := Option.some.inj H
             have hnb64 := NB255_253.out
             have hnc64 := NB253_255.out
             have hcz65_0 : wc.cell? ⟨gb255, 0, none⟩ = some (.int .i64 ((rd_T48 l0_0 a1).f0)) := (blk_cell BK255.out 0).trans rfl
             have hcz65_1 : wc.cell? ⟨gb255, 1, none⟩ = some (.int .i64 ((rd_T48 l0_0 a1).f1)) := (blk_cell BK255.out 1).trans rfl
             have hcz65_2 : wc.cell? ⟨gb255, 2, none⟩ = some (.int .i64 ((rd_T48 l0_0 a1).f2)) := (blk_cell BK255.out 2).trans rfl
             have hcz65_3 : wc.cell? ⟨gb255, 3, none⟩ = some (.int .i64 ((rd_T48 l0_0 a1).f3)) := (blk_cell BK255.out 3).trans rfl
             have hcz65_4 : wc.cell? ⟨gb255, 4, none⟩ = some (.int .i64 ((rd_T48 l0_0 a1).f4)) := (blk_cell BK255.out 4).trans rfl
             have hcz65_5 : wc.cell? ⟨gb255, 5, none⟩ = some (.int .i64 ((rd_T48 l0_0 a1).f5)) := (blk_cell BK255.out 5).trans rfl
             have hfz65_0 := blk_frozen BK255.out 0
             have hfz65_1 := blk_frozen BK255.out 1
             have hfz65_2 := blk_frozen BK255.out 2
             have hfz65_3 := blk_frozen BK255.out 3
             have hfz65_4 := blk_frozen BK255.out 4
             have hfz65_5 := blk_frozen BK255.out 5
             go_wp2
             go_ret
             exact ⟨fia_, bla_ HB.out⟩
            ·rw [if_neg c63] at H
             have c63b0 : (((rd_T48 l0_0 a1).f4) == 0) = false := beq_eq_false_iff_ne.mpr c63
             have c63b1 : (((rd_T48 l0_0 a1).f4) != 0) = true := bne_iff_ne.mpr c63
             obtain rfl := Option.some.inj H
             have hnb66 := NB255_253.out
             have hnc66 := NB253_255.out
             have hcz67_0 : wc.cell? ⟨gb255, 0, none⟩ = some (.int .i64 ((rd_T48 l0_0 a1).f0)) := (blk_cell BK255.out 0).trans rfl
             have hcz67_1 : wc.cell? ⟨gb255, 1, none⟩ = some (.int .i64 ((rd_T48 l0_0 a1).f1)) := (blk_cell BK255.out 1).trans rfl
             have hcz67_2 : wc.cell? ⟨gb255, 2, none⟩ = some (.int .i64 ((rd_T48 l0_0 a1).f2)) := (blk_cell BK255.out 2).trans rfl
             have hcz67_3 : wc.cell? ⟨gb255, 3, none⟩ = some (.int .i64 ((rd_T48 l0_0 a1).f3)) := (blk_cell BK255.out 3).trans rfl
             have hcz67_4 : wc.cell? ⟨gb255, 4, none⟩ = some (.int .i64 ((rd_T48 l0_0 a1).f4)) := (blk_cell BK255.out 4).trans rfl
             have hcz67_5 : wc.cell? ⟨gb255, 5, none⟩ = some (.int .i64 ((rd_T48 l0_0 a1).f5)) := (blk_cell BK255.out 5).trans rfl
             have hfz67_0 := blk_frozen BK255.out 0
             have hfz67_1 := blk_frozen BK255.out 1
             have hfz67_2 := blk_frozen BK255.out 2
             have hfz67_3 := blk_frozen BK255.out 3
             have hfz67_4 := blk_frozen BK255.out 4
             have hfz67_5 := blk_frozen BK255.out 5
             go_wp2
             go_ret
             exact ⟨fia_, bla_ HB.out⟩
           ·rw [if_neg c62] at H
            have c62b0 : (((rd_T48 l0_0 a1).f3) == 0) = false := beq_eq_false_iff_ne.mpr c62
            have c62b1 : (((rd_T48 l0_0 a1).f3) != 0) = true := bne_iff_ne.mpr c62
            obtain rfl := Option.some.inj H
            have hnb68 := NB255_253.out
            have hnc68 := NB253_255.out
            have hcz69_0 : wc.cell? ⟨gb255, 0, none⟩ = some (.int .i64 ((rd_T48 l0_0 a1).f0)) := (blk_cell BK255.out 0).trans rfl
            have hcz69_1 : wc.cell? ⟨gb255, 1, none⟩ = some (.int .i64 ((rd_T48 l0_0 a1).f1)) := (blk_cell BK255.out 1).trans rfl
            have hcz69_2 : wc.cell? ⟨gb255, 2, none⟩ = some (.int .i64 ((rd_T48 l0_0 a1).f2)) := (blk_cell BK255.out 2).trans rfl
            have hcz69_3 : wc.cell? ⟨gb255, 3, none⟩ = some (.int .i64 ((rd_T48 l0_0 a1).f3)) := (blk_cell BK255.out 3).trans rfl
            have hcz69_4 : wc.cell? ⟨gb255, 4, none⟩ = some (.int .i64 ((rd_T48 l0_0 a1).f4)) := (blk_cell BK255.out 4).trans rfl
            have hcz69_5 : wc.cell? ⟨gb255, 5, none⟩ = some (.int .i64 ((rd_T48 l0_0 a1).f5)) := (blk_cell BK255.out 5).trans rfl
            have hfz69_0 := blk_frozen BK255.out 0
            have hfz69_1 := blk_frozen BK255.out 1
            have hfz69_2 := blk_frozen BK255.out 2
            have hfz69_3 := blk_frozen BK255.out 3
            have hfz69_4 := blk_frozen BK255.out 4
            have hfz69_5 := blk_frozen BK255.out 5
            go_wp2
            go_ret
            exact ⟨fia_, bla_ HB.out⟩
          ·replace c61 := Bool.eq_false_iff.mpr c61
           subst c61
           have H1 : (some false) = some r := by rw [if_neg (show ¬ (false = true) by decide)] at H; exact H
           clear H
           have H := H1
           clear H1
           obtain rfl := Option.some.inj H
           go_wp2
           go_ret
           exact ⟨fia_, bla_ HB.out⟩
         ·replace c60 := Bool.eq_false_iff.mpr c60
          subst c60
          have H1 : (if ((rd_T48 l0_0 a1).f0) = 5 then (if ((rd_T48 l0_0 a1).f1) ≥ 0 then (if ((rd_T48 l0_0 a1).f1) < a1 then (if ((rd_T48 l0_0 a1).f2) = 0 then (if ((rd_T48 l0_0 a1).f5) = 0 then ((spoolref10_Times.f ((rd_T48 l0_0 a1).f3) ((rd_T48 l0_0 a1).f4)).bind fun t256 => (some t256)) else (some false)) else (some false)) else (some false)) else (some false)) else (some false)) = some r := by rw [if_neg (show ¬ (false = true) by decide)] at H; exact H
          clear H
          have H := H1
          clear H1
          by_cases c70 : ((rd_T48 l0_0 a1).f0) = 5
          ·rw [if_pos c70] at H
           have c70b0 : (((rd_T48 l0_0 a1).f0) == 5) = true := beq_iff_eq.mpr c70
           have c70b1 : (((rd_T48 l0_0 a1).f0) != 5) = false := bne_eq_false_iff_eq.mpr c70
           clear c70
           by_cases c71 : ((rd_T48 l0_0 a1).f1) ≥ 0
           ·rw [if_pos c71] at H
            have c71b0 : decide (0 ≤ ((rd_T48 l0_0 a1).f1)) = true := decide_eq_true c71
            clear c71
            by_cases c72 : ((rd_T48 l0_0 a1).f1) < a1
            ·rw [if_pos c72] at H
             have c72b0 : decide (((rd_T48 l0_0 a1).f1) < a1) = true := decide_eq_true c72
             clear c72
             by_cases c73 : ((rd_T48 l0_0 a1).f2) = 0
             ·rw [if_pos c73] at H
              have c73b0 : (((rd_T48 l0_0 a1).f2) == 0) = true := beq_iff_eq.mpr c73
              have c73b1 : (((rd_T48 l0_0 a1).f2) != 0) = false := bne_eq_false_iff_eq.mpr c73
              clear c73
              by_cases c74 : ((rd_T48 l0_0 a1).f5) = 0
              ·rw [if_pos c74] at H
               have c74b0 : (((rd_T48 l0_0 a1).f5) == 0) = true := beq_iff_eq.mpr c74
               have c74b1 : (((rd_T48 l0_0 a1).f5) != 0) = false := bne_eq_false_iff_eq.mpr c74
               clear c74
               replace H := Option.bind_eq_some_iff.mp H
               obtain ⟨t256, A750, H⟩ := H
               replace H : (some t256) = some r := H
               have A75 := Aside0.mk A750
               clear A750
               obtain rfl := Option.some.inj H
               have hnb76 := NB255_253.out
               have hnc76 := NB253_255.out
               have hcz77_0 : wc.cell? ⟨gb255, 0, none⟩ = some (.int .i64 ((rd_T48 l0_0 a1).f0)) := (blk_cell BK255.out 0).trans rfl
               have hcz77_1 : wc.cell? ⟨gb255, 1, none⟩ = some (.int .i64 ((rd_T48 l0_0 a1).f1)) := (blk_cell BK255.out 1).trans rfl
               have hcz77_2 : wc.cell? ⟨gb255, 2, none⟩ = some (.int .i64 ((rd_T48 l0_0 a1).f2)) := (blk_cell BK255.out 2).trans rfl
               have hcz77_3 : wc.cell? ⟨gb255, 3, none⟩ = some (.int .i64 ((rd_T48 l0_0 a1).f3)) := (blk_cell BK255.out 3).trans rfl
               have hcz77_4 : wc.cell? ⟨gb255, 4, none⟩ = some (.int .i64 ((rd_T48 l0_0 a1).f4)) := (blk_cell BK255.out 4).trans rfl
               have hcz77_5 : wc.cell? ⟨gb255, 5, none⟩ = some (.int .i64 ((rd_T48 l0_0 a1).f5)) := (blk_cell BK255.out 5).trans rfl
               have hfz77_0 := blk_frozen BK255.out 0
               have hfz77_1 := blk_frozen BK255.out 1
               have hfz77_2 := blk_frozen BK255.out 2
               have hfz77_3 := blk_frozen BK255.out 3
               have hfz77_4 := blk_frozen BK255.out 4
               have hfz77_5 := blk_frozen BK255.out 5
               go_wp2_with (first | (go_at_call 31; (with_reducible refine (spoolref10_Times.calls ((rd_T48 l0_0 a1).f3) ((rd_T48 l0_0 a1).f4) t256 _ A75.out).mono ?_); rintro e w' ⟨rfl, ⟨nd, rfl⟩⟩))
               go_ret
               exact ⟨fia_, bla_ HB.out⟩
              ·rw [if_neg c74] at H
               have c74b0 : (((rd_T48 l0_0 a1).f5) == 0) = false := beq_eq_false_iff_ne.mpr c74
               have c74b1 : (((rd_T48 l0_0 a1).f5) != 0) = true := bne_iff_ne.mpr c74
               obtain rfl := Option.some.inj H
               have hnb78 := NB255_253.out
               have hnc78 := NB253_255.out
               have hcz79_0 : wc.cell? ⟨gb255, 0, none⟩ = some (.int .i64 ((rd_T48 l0_0 a1).f0)) := (blk_cell BK255.out 0).trans rfl
               have hcz79_1 : wc.cell? ⟨gb255, 1, none⟩ = some (.int .i64 ((rd_T48 l0_0 a1).f1)) := (blk_cell BK255.out 1).trans rfl
               have hcz79_2 : wc.cell? ⟨gb255, 2, none⟩ = some (.int .i64 ((rd_T48 l0_0 a1).f2)) := (blk_cell BK255.out 2).trans rfl
               have hcz79_3 : wc.cell? ⟨gb255, 3, none⟩ = some (.int .i64 ((rd_T48 l0_0 a1).f3)) := (blk_cell BK255.out 3).trans rfl
               have hcz79_4 : wc.cell? ⟨gb255, 4, none⟩ = some (.int .i64 ((rd_T48 l0_0 a1).f4)) := (blk_cell BK255.out 4).trans rfl
               have hcz79_5 : wc.cell? ⟨gb255, 5, none⟩ = some (.int .i64 ((rd_T48 l0_0 a1).f5)) := (blk_cell BK255.out 5).trans rfl
               have hfz79_0 := blk_frozen BK255.out 0
               have hfz79_1 := blk_frozen BK255.out 1
               have hfz79_2 := blk_frozen BK255.out 2
               have hfz79_3 := blk_frozen BK255.out 3
               have hfz79_4 := blk_frozen BK255.out 4
               have hfz79_5 := blk_frozen BK255.out 5
               go_wp2
               go_ret
               exact ⟨fia_, bla_ HB.out⟩
             ·rw [if_neg c73] at H
              have c73b0 : (((rd_T48 l0_0 a1).f2) == 0) = false := beq_eq_false_iff_ne.mpr c73
              have c73b1 : (((rd_T48 l0_0 a1).f2) != 0) = true := bne_iff_ne.mpr c73
              obtain rfl := Option.some.inj H
              have hnb80 := NB255_253.out
              have hnc80 := NB253_255.out
              have hcz81_0 : wc.cell? ⟨gb255, 0, none⟩ = some (.int .i64 ((rd_T48 l0_0 a1).f0)) := (blk_cell BK255.out 0).trans rfl
              have hcz81_1 : wc.cell? ⟨gb255, 1, none⟩ = some (.int .i64 ((rd_T48 l0_0 a1).f1)) := (blk_cell BK255.out 1).trans rfl
              have hcz81_2 : wc.cell? ⟨gb255, 2, none⟩ = some (.int .i64 ((rd_T48 l0_0 a1).f2)) := (blk_cell BK255.out 2).trans rfl
              have hcz81_3 : wc.cell? ⟨gb255, 3, none⟩ = some (.int .i64 ((rd_T48 l0_0 a1).f3)) := (blk_cell BK255.out 3).trans rfl
              have hcz81_4 : wc.cell? ⟨gb255, 4, none⟩ = some (.int .i64 ((rd_T48 l0_0 a1).f4)) := (blk_cell BK255.out 4).trans rfl
              have hcz81_5 : wc.cell? ⟨gb255, 5, none⟩ = some (.int .i64 ((rd_T48 l0_0 a1).f5)) := (blk_cell BK255.out 5).trans rfl
              have hfz81_0 := blk_frozen BK255.out 0
              have hfz81_1 := blk_frozen BK255.out 1
              have hfz81_2 := blk_frozen BK255.out 2
              have hfz81_3 := blk_frozen BK255.out 3
              have hfz81_4 := blk_frozen BK255.out 4
              have hfz81_5 := blk_frozen BK255.out 5
              go_wp2
              go_ret
              exact ⟨fia_, bla_ HB.out⟩
            ·rw [if_neg c72] at H
             have c72b0 : decide (((rd_T48 l0_0 a1).f1) < a1) = false := decide_eq_false c72
             clear c72
             obtain rfl := Option.some.inj H
             have hnb82 := NB255_253.out
             have hnc82 := NB253_255.out
             have hcz83_0 : wc.cell? ⟨gb255, 0, none⟩ = some (.int .i64 ((rd_T48 l0_0 a1).f0)) := (blk_cell BK255.out 0).trans rfl
             have hcz83_1 : wc.cell? ⟨gb255, 1, none⟩ = some (.int .i64 ((rd_T48 l0_0 a1).f1)) := (blk_cell BK255.out 1).trans rfl
             have hcz83_2 : wc.cell? ⟨gb255, 2, none⟩ = some (.int .i64 ((rd_T48 l0_0 a1).f2)) := (blk_cell BK255.out 2).trans rfl
             have hcz83_3 : wc.cell? ⟨gb255, 3, none⟩ = some (.int .i64 ((rd_T48 l0_0 a1).f3)) := (blk_cell BK255.out 3).trans rfl
             have hcz83_4 : wc.cell? ⟨gb255, 4, none⟩ = some (.int .i64 ((rd_T48 l0_0 a1).f4)) := (blk_cell BK255.out 4).trans rfl
             have hcz83_5 : wc.cell? ⟨gb255, 5, none⟩ = some (.int .i64 ((rd_T48 l0_0 a1).f5)) := (blk_cell BK255.out 5).trans rfl
             have hfz83_0 := blk_frozen BK255.out 0
             have hfz83_1 := blk_frozen BK255.out 1
             have hfz83_2 := blk_frozen BK255.out 2
             have hfz83_3 := blk_frozen BK255.out 3
             have hfz83_4 := blk_frozen BK255.out 4
             have hfz83_5 := blk_frozen BK255.out 5
             go_wp2
             go_ret
             exact ⟨fia_, bla_ HB.out⟩
           ·rw [if_neg c71] at H
            have c71b0 : decide (0 ≤ ((rd_T48 l0_0 a1).f1)) = false := decide_eq_false c71
            clear c71
            obtain rfl := Option.some.inj H
            have hnb84 := NB255_253.out
            have hnc84 := NB253_255.out
            have hcz85_0 : wc.cell? ⟨gb255, 0, none⟩ = some (.int .i64 ((rd_T48 l0_0 a1).f0)) := (blk_cell BK255.out 0).trans rfl
            have hcz85_1 : wc.cell? ⟨gb255, 1, none⟩ = some (.int .i64 ((rd_T48 l0_0 a1).f1)) := (blk_cell BK255.out 1).trans rfl
            have hcz85_2 : wc.cell? ⟨gb255, 2, none⟩ = some (.int .i64 ((rd_T48 l0_0 a1).f2)) := (blk_cell BK255.out 2).trans rfl
            have hcz85_3 : wc.cell? ⟨gb255, 3, none⟩ = some (.int .i64 ((rd_T48 l0_0 a1).f3)) := (blk_cell BK255.out 3).trans rfl
            have hcz85_4 : wc.cell? ⟨gb255, 4, none⟩ = some (.int .i64 ((rd_T48 l0_0 a1).f4)) := (blk_cell BK255.out 4).trans rfl
            have hcz85_5 : wc.cell? ⟨gb255, 5, none⟩ = some (.int .i64 ((rd_T48 l0_0 a1).f5)) := (blk_cell BK255.out 5).trans rfl
            have hfz85_0 := blk_frozen BK255.out 0
            have hfz85_1 := blk_frozen BK255.out 1
            have hfz85_2 := blk_frozen BK255.out 2
            have hfz85_3 := blk_frozen BK255.out 3
            have hfz85_4 := blk_frozen BK255.out 4
            have hfz85_5 := blk_frozen BK255.out 5
            go_wp2
            go_ret
            exact ⟨fia_, bla_ HB.out⟩
          ·rw [if_neg c70] at H
           have c70b0 : (((rd_T48 l0_0 a1).f0) == 5) = false := beq_eq_false_iff_ne.mpr c70
           have c70b1 : (((rd_T48 l0_0 a1).f0) != 5) = true := bne_iff_ne.mpr c70
           obtain rfl := Option.some.inj H
           go_wp2
           go_ret
           exact ⟨fia_, bla_ HB.out⟩
  ·rw [if_neg c4] at H
   exact absurd H (by simp)
 ·rw [if_neg c3] at H
  exact absurd H (by simp)
end Go.Proofs.YtlihkebmonfefaaDoor.PG

-- WRITTEN BY A PROGRAM OF THIS SESSION (patchprint.py over the kit's print)
import Derived.Test.YtlihkebmonfefaaDoorPGx0
namespace Go.Proofs.YtlihkebmonfefaaDoor.PG
open Go.RowKit Go.Proofs.YtlihkebmonfefaaDoorW.PrintWords Go.Proofs.YtlihkebmonfefaaDoorW.PrintLast Go.Proofs.YtlihkebmonfefaaDoorW.PrintMore
attribute [local go_sem] max2_int min2_int max_two min_two max_three min_three max_four min_four   -- for this text's walks alone
set_option linter.unusedVariables false
set_option linter.unusedSimpArgs false
mutual
def spoolref10_Far.j0 : Nat → Bool → List (S48) → List (List (S60)) → Int → Option (Bool)
 | 0, _, _, _, _ => none
 | k + 1, x17, x262000, x262001, x262002 => if x17 = true then (some true) else (spoolref10_Far.l0 k ([] : List Int) 0 x262000 x262001 x262002)
def spoolref10_Far.l0 : Nat → List Int → Int → List (S48) → List (List (S60)) → Int → Option (Bool)
 | 0, _, _, _, _, _ => none
 | k + 1, x3, x4, x262000, x262001, x262002 => if x4 < (x262000.length : Int) then (if 0 ≤ x4 then (if ((rd_T48 x262000 x4).f1) ≥ 0 then (spoolref10_Far.j2 k x3 x4 1 (decide (((rd_T48 x262000 x4).f1) < x4)) x262000 x262001 x262002 ((rd_T48 x262000 x4).f0) ((rd_T48 x262000 x4).f1) ((rd_T48 x262000 x4).f2) ((rd_T48 x262000 x4).f3) ((rd_T48 x262000 x4).f4) ((rd_T48 x262000 x4).f5)) else (spoolref10_Far.j2 k x3 x4 1 false x262000 x262001 x262002 ((rd_T48 x262000 x4).f0) ((rd_T48 x262000 x4).f1) ((rd_T48 x262000 x4).f2) ((rd_T48 x262000 x4).f3) ((rd_T48 x262000 x4).f4) ((rd_T48 x262000 x4).f5))) else (none)) else (spoolref10_Far.l1 k 0 x262000 x262001 x262002)
def spoolref10_Far.j2 : Nat → List Int → Int → Int → Bool → List (S48) → List (List (S60)) → Int → Int → Int → Int → Int → Int → Int → Option (Bool)
 | 0, _, _, _, _, _, _, _, _, _, _, _, _, _ => none
 | k + 1, x3, x4, x5, x38, x262000, x262001, x262002, x264000, x264001, x264002, x264003, x264004, x264005 => if x38 = true then (if 0 ≤ x264001 then (if x264001 < (x3.length : Int) then (spoolref10_Far.j3 k x3 x4 (wrap64 (x5 + (rd x3 x264001))) x262000 x262001 x262002 x264000 x264001 x264002 x264003 x264004 x264005) else (none)) else (none)) else (spoolref10_Far.j3 k x3 x4 x5 x262000 x262001 x262002 x264000 x264001 x264002 x264003 x264004 x264005)
def spoolref10_Far.j3 : Nat → List Int → Int → Int → List (S48) → List (List (S60)) → Int → Int → Int → Int → Int → Int → Int → Option (Bool)
 | 0, _, _, _, _, _, _, _, _, _, _, _, _ => none
 | k + 1, x3, x4, x5, x262000, x262001, x262002, x264000, x264001, x264002, x264003, x264004, x264005 => if x264002 ≥ 0 then (spoolref10_Far.j4 k x3 x4 x5 (decide (x264002 < x4)) x262000 x262001 x262002 x264000 x264001 x264002 x264003 x264004 x264005) else (spoolref10_Far.j4 k x3 x4 x5 false x262000 x262001 x262002 x264000 x264001 x264002 x264003 x264004 x264005)
def spoolref10_Far.j4 : Nat → List Int → Int → Int → Bool → List (S48) → List (List (S60)) → Int → Int → Int → Int → Int → Int → Int → Option (Bool)
 | 0, _, _, _, _, _, _, _, _, _, _, _, _, _ => none
 | k + 1, x3, x4, x5, x54, x262000, x262001, x262002, x264000, x264001, x264002, x264003, x264004, x264005 => if x54 = true then (if 0 ≤ x264002 then (if x264002 < (x3.length : Int) then (if (wrap64 (x5 + (rd x3 x264002))) > 3000 then (some true) else (if x3.length < 17592186044416 then (spoolref10_Far.l0 k (x3 ++ [wrap64 (x5 + (rd x3 x264002))]) (wrap64 (x4 + 1)) x262000 x262001 x262002) else (none))) else (none)) else (none)) else (if x5 > 3000 then (some true) else (if x3.length < 17592186044416 then (spoolref10_Far.l0 k (x3 ++ [x5]) (wrap64 (x4 + 1)) x262000 x262001 x262002) else (none)))
def spoolref10_Far.l1 : Nat → Int → List (S48) → List (List (S60)) → Int → Option (Bool)
 | 0, _, _, _, _ => none
 | k + 1, x7, x262000, x262001, x262002 => if x7 < (x262001.length : Int) then (if 0 ≤ x7 then (if ((rd_L4 x262001 x7).length : Int) > 30 then (some true) else (spoolref10_Far.l1 k (wrap64 (x7 + 1)) x262000 x262001 x262002)) else (none)) else (some false)
end
def spoolref10_Far.f (k : Nat) (l0_0 : List (S48)) (l0_1 : List (List (S60))) (a0_2 : Int) : Option (Bool) := if (l0_0.length : Int) > 60 then (spoolref10_Far.j0 k true l0_0 l0_1 a0_2) else (spoolref10_Far.j0 k (decide ((l0_1.length : Int) > 60)) l0_0 l0_1 a0_2)
set_option maxHeartbeats 8000000 in
set_option maxRecDepth 100000 in
theorem spoolref10_Far.calls (k : Nat) (A0_0 : Option Addr) (c0_0 : Nat) (l0_0 : List (S48)) (A0_1 : Option Addr) (c0_1 : Nat) (l0_1 : List (List (S60))) (a0_2 : Int) (r : Bool) (w : World) (hr0_0 : Kd.C k48 w A0_0 l0_0.length l0_0) (hc0_0 : l0_0.length ≤ c0_0) (hr0_1 : Kd.C (Kd.slice 60 k60) w A0_1 l0_1.length l0_1) (hc0_1 : l0_1.length ≤ c0_1) (h : spoolref10_Far.f k l0_0 l0_1 a0_2 = some r) :
  Calls Tryd.prog 11 #[.agg #[.slice A0_0 l0_0.length c0_0, .slice A0_1 l0_1.length c0_1, .int .i64 a0_2]] w fun e w' => e = .returned (.bool r) ∧ Below w.heap.size w w' := by
 have hu25 := Tryd.underlying25
 have hu48 := Tryd.underlying48
 have HR0_0 := Aside0.mk hr0_0
 have HC0_0 := Aside0.mk hc0_0
 clear hr0_0 hc0_0
 have HR0_1 := Aside0.mk hr0_1
 have HC0_1 := Aside0.mk hc0_1
 clear hr0_1 hc0_1
 have HB := Aside0.mk (Below.refl w.heap.size w)
 have H : (if (l0_0.length : Int) > 60 then (spoolref10_Far.j0 k true l0_0 l0_1 a0_2) else (spoolref10_Far.j0 k (decide ((l0_1.length : Int) > 60)) l0_0 l0_1 a0_2)) = some r := h
 clear h
 have HC2 := Aside0.mk H
 clear H
 go_enter Tryd.func11, Tryd.ntmps11
 go_upto_region 1 with (first | ((with_reducible refine gate_dst (N := 1) rfl ?_); (try (refine gate_guard (by rfl) ?_; dsimp only)); refine box_event ?hg (N := 1) ?hd (cs := #[.slice A0_0 l0_0.length c0_0, .slice A0_1 l0_1.length c0_1, .int .i64 a0_2]) (t := 25) ?hr ?_; (case hd => rfl); (case hg => rfl); (case hr => first | (go_simp; done) | (go_simp; rfl)); intro gb261 hg w3 hbox hb; have n0_ := Aside0.mk (below_step (blw_ HB.out) hb); have n1_ := Aside0.mk (hbox); have n2_ := Aside0.mk ((by rw [hg]; exact (below_size (blw_ HB.out)) : w.heap.size ≤ gb261)); have n3_ := Aside0.mk ((by rw [hg]; exact (below_size (blw_ HB.out)) : w.heap.size ≤ gb261)); clear HB; have HB := n0_; have BK261 := n1_; have GW261 := n2_; have GE261 := n3_; clear n0_ n1_ n2_ n3_; clear hb hbox hg))
 (try simp only [Act.put, List.setIfInBounds_toArray, List.set_cons_zero, List.set_cons_succ])
 go_cut [17] (fun v17 wc => ∃ (kq : Nat) (x17_1 : Bool), v17 = .bool x17_1 ∧ Aside0 (spoolref10_Far.j0 kq x17_1 l0_0 l0_1 a0_2 = some r) ∧ Aside0 (kq ≤ k) ∧ Aside0 (wc.heap[gb261]? = some (.cells #[(.slice A0_0 l0_0.length c0_0), (.slice A0_1 l0_1.length c0_1), .int .i64 a0_2] 25 (0, 0))) ∧ Aside0 (Below w.heap.size w wc))
 case first =>
  have H := HC2.out
  clear HC2
  by_cases c4 : (l0_0.length : Int) > 60
  ·rw [if_pos c4] at H
   have c4b0 : decide (60 < (l0_0.length : Int)) = true := decide_eq_true c4
   have c4b1 : decide (60 < l0_0.length) = true := decide_eq_true (by omega)
   clear c4
   (first | rw [c4b0] | (simp only [i64_w, i32_w]; rw [c4b0]) | skip)
   have H' := Aside0.mk H
   clear H
   have hcz5_0 : w3.cell? ⟨gb261, 0, none⟩ = some (.slice A0_0 l0_0.length c0_0) := (blk_cell BK261.out 0).trans rfl
   have hcz5_1 : w3.cell? ⟨gb261, 1, none⟩ = some (.slice A0_1 l0_1.length c0_1) := (blk_cell BK261.out 1).trans rfl
   have hcz5_2 : w3.cell? ⟨gb261, 2, none⟩ = some (.int .i64 a0_2) := (blk_cell BK261.out 2).trans rfl
   have hfz5_0 := blk_frozen BK261.out 0
   have hfz5_1 := blk_frozen BK261.out 1
   have hfz5_2 := blk_frozen BK261.out 2
   go_wp2
   go_meet
   case rel => exact ⟨_, (true), fib_, H', ⟨by first | omega | exact Nat.le_refl _⟩, ⟨by exact bkw_ BK261.out⟩, ⟨blg_ HB.out GE261.out⟩⟩
  ·rw [if_neg c4] at H
   have c4b0 : decide (60 < (l0_0.length : Int)) = false := decide_eq_false c4
   have c4b1 : decide (60 < l0_0.length) = false := decide_eq_false (by omega)
   clear c4
   (first | rw [c4b0] | (simp only [i64_w, i32_w]; rw [c4b0]) | skip)
   have H' := Aside0.mk H
   clear H
   have hcz6_0 : w3.cell? ⟨gb261, 0, none⟩ = some (.slice A0_0 l0_0.length c0_0) := (blk_cell BK261.out 0).trans rfl
   have hcz6_1 : w3.cell? ⟨gb261, 1, none⟩ = some (.slice A0_1 l0_1.length c0_1) := (blk_cell BK261.out 1).trans rfl
   have hcz6_2 : w3.cell? ⟨gb261, 2, none⟩ = some (.int .i64 a0_2) := (blk_cell BK261.out 2).trans rfl
   have hfz6_0 := blk_frozen BK261.out 0
   have hfz6_1 := blk_frozen BK261.out 1
   have hfz6_2 := blk_frozen BK261.out 2
   go_wp2
   go_meet
   case rel => exact ⟨_, (decide ((l0_1.length : Int) > 60)), fib_, H', ⟨by first | omega | exact Nat.le_refl _⟩, ⟨by exact bkw_ BK261.out⟩, ⟨blg_ HB.out GE261.out⟩⟩
 case rest =>
  clear HC2
  try clear c1
  try clear p2
  try clear c4
  try clear c4b0
  try clear c4b1
  try clear hcz5_0
  try clear hcz5_1
  try clear hcz5_2
  try clear hcz6_0
  try clear hcz6_1
  try clear hcz6_2
  try clear hfz5_0
  try clear hfz5_1
  try clear hfz5_2
  try clear hfz6_0
  try clear hfz6_1
  try clear hfz6_2
  obtain ⟨kq, x17_1, rfl, HA, HJ1, BK261, HB⟩ := hcut
  cases kq with
  | zero => exact absurd HA.out (by simp [spoolref10_Far.j0])
  | succ kj1 =>
   have H := HA.out
   clear HA
   simp only [spoolref10_Far.j0] at H
   by_cases c7 : x17_1 = true
   ·subst c7
    have H1 : (some true) = some r := by rw [if_pos rfl] at H; exact H
    clear H
    have H := H1
    clear H1
    obtain rfl := Option.some.inj H
    go_wp2
    go_ret
    exact ⟨fia_, blg_ HB.out GE261.out⟩
   ·replace c7 := Bool.eq_false_iff.mpr c7
    subst c7
    have H1 : (spoolref10_Far.l0 kj1 ([] : List Int) 0 l0_0 l0_1 a0_2) = some r := by rw [if_neg (show ¬ (false = true) by decide)] at H; exact H
    clear H
    have H := H1
    clear H1
    have H' := Aside0.mk H
    clear H
    go_wp2
    go_loopg [3, 4] kj1 (fun kq v3 v4 w' => ∃ (x3_2 : List Int) (x4_2 : Int), v4 = .int .i64 x4_2 ∧ Aside0 (spoolref10_Far.l0 kq x3_2 x4_2 l0_0 l0_1 a0_2 = some r) ∧ Aside0 (kq ≤ kj1) ∧ Aside0 (Kd.R (Kd.int .i64) 3 w' w.heap.size (fun _ => True) v3 x3_2) ∧ Aside0 (w'.heap[gb261]? = some (.cells #[(.slice A0_0 l0_0.length c0_0), (.slice A0_1 l0_1.length c0_1), .int .i64 a0_2] 25 (0, 0))) ∧ Aside0 (Below w.heap.size w w'))
    case atStart => exact ⟨(([] : List Int)), (0), fib_, H', ⟨Nat.le_refl _⟩, ⟨by first | exact Kd.R_nil _ _ _ _ _ | exact Kd.N_nil _ _ _ _ _ | exact Kd.V_nil _ _ _ _ _ | exact Kd.Q_nil _ _ _ _ _ | exact Kd.S_nil _ _ _ _ _⟩, ⟨by exact bkw_ BK261.out⟩, ⟨blg_ HB.out GE261.out⟩⟩
    case round =>
     clear H'
     try clear c1
     try clear p2
     try clear c4
     try clear c4b0
     try clear c4b1
     try clear c7
     try clear hcz5_0
     try clear hcz5_1
     try clear hcz5_2
     try clear hcz6_0
     try clear hcz6_1
     try clear hcz6_2
     try clear hfz5_0
     try clear hfz5_1
     try clear hfz5_2
     try clear hfz6_0
     try clear hfz6_1
     try clear hfz6_2
     try clear p2
     obtain ⟨x3_2, x4_2, rfl, HA, HK2, HO_3, BK261, HB⟩ := hrel
     cases gk with
     | zero => exact absurd HA.out (by simp [spoolref10_Far.l0])
     | succ k2 =>
      have H := HA.out
      clear HA
      simp only [spoolref10_Far.l0] at H
      by_cases c8 : x4_2 < (l0_0.length : Int)
      ·rw [if_pos c8] at H
       have c8b0 : decide (x4_2 < (l0_0.length : Int)) = true := decide_eq_true c8
       clear c8
       by_cases c9 : 0 ≤ x4_2
       ·rw [if_pos c9] at H
        have c9b0 : decide (0 ≤ x4_2) = true := decide_eq_true c9
        clear c9
        have HC10 := Aside0.mk H
        clear H
        have hcz11_0 : wr.cell? ⟨gb261, 0, none⟩ = some (.slice A0_0 l0_0.length c0_0) := (blk_cell BK261.out 0).trans rfl
        have hcz11_1 : wr.cell? ⟨gb261, 1, none⟩ = some (.slice A0_1 l0_1.length c0_1) := (blk_cell BK261.out 1).trans rfl
        have hcz11_2 : wr.cell? ⟨gb261, 2, none⟩ = some (.int .i64 a0_2) := (blk_cell BK261.out 2).trans rfl
        have hfz11_0 := blk_frozen BK261.out 0
        have hfz11_1 := blk_frozen BK261.out 1
        have hfz11_2 := blk_frozen BK261.out 2
        have p262 : 0 ≤ (x4_2 : Int) := of_decide_eq_true asa_
        have q262 : x4_2 < (l0_0.length : Int) := of_decide_eq_true asa_
        obtain ⟨ad262, e262, hx262_0, hx262_1, hx262_2, hx262_3, hx262_4, hx262_5⟩ := at_T48 HR0_0.out x4_2 p262 q262
        cases e262
        replace hx262_0 := (HB.out.cell (World.block_lt_of_cell? w _ hx262_0)).trans hx262_0
        replace hx262_1 := (HB.out.cell (World.block_lt_of_cell? w _ hx262_1)).trans hx262_1
        replace hx262_2 := (HB.out.cell (World.block_lt_of_cell? w _ hx262_2)).trans hx262_2
        replace hx262_3 := (HB.out.cell (World.block_lt_of_cell? w _ hx262_3)).trans hx262_3
        replace hx262_4 := (HB.out.cell (World.block_lt_of_cell? w _ hx262_4)).trans hx262_4
        replace hx262_5 := (HB.out.cell (World.block_lt_of_cell? w _ hx262_5)).trans hx262_5
        replace p262 := eq_true p262
        replace q262 := eq_true q262
        go_upto_region 9 with (first | ((with_reducible refine gate_dst (N := 6) rfl ?_); (try (refine gate_guard (by rfl) ?_; dsimp only)); refine box_event ?hg (N := 6) ?hd (cs := #[.int .i64 0, .int .i64 0, .int .i64 0, .int .i64 0, .int .i64 0, .int .i64 0]) (t := 48) ?hr ?_; (case hd => rfl); (case hg => rfl); (case hr => first | (go_simp; done) | (go_simp; rfl)); intro gb263 hg w12 hbox hb; have n0_ := Aside0.mk (Kd.R_below (by (with_reducible repeat (first | apply Kd.R_alloc | apply Kd.R_drewN | apply Kd.R_drew)); exact HO_3.out) hb); have n1_ := Aside0.mk (blk_below (g := gb261) (o := .cells #[.slice (some ad262) l0_0.length c0_0, .slice A0_1 l0_1.length c0_1, .int .i64 a0_2] 25 (0, 0)) (by exact bkw_ BK261.out) hb); have n2_ := Aside0.mk (below_step (blg_ HB.out GE261.out) hb); have n3_ := Aside0.mk (hbox); have n4_ := Aside0.mk ((by rw [hg]; exact (below_size (blg_ HB.out GE261.out)) : w.heap.size ≤ gb263)); have n5_ := Aside0.mk ((by rw [hg]; exact (below_size (blg_ HB.out GE261.out)) : w.heap.size ≤ gb263)); have n6_ := Aside0.mk ((by rw [hg]; exact Nat.ne_of_lt (blk_lt (g := gb261) (o := .cells #[.slice (some ad262) l0_0.length c0_0, .slice A0_1 l0_1.length c0_1, .int .i64 a0_2] 25 (0, 0)) (by exact bkw_ BK261.out)) : gb261 ≠ gb263)); have n7_ := Aside0.mk ((by rw [hg]; exact Nat.ne_of_gt (blk_lt (g := gb261) (o := .cells #[.slice (some ad262) l0_0.length c0_0, .slice A0_1 l0_1.length c0_1, .int .i64 a0_2] 25 (0, 0)) (by exact bkw_ BK261.out)) : gb263 ≠ gb261)); clear HO_3; clear BK261; clear HB; have HO_3 := n0_; have BK261 := n1_; have HB := n2_; have BK263 := n3_; have GW263 := n4_; have GE263 := n5_; have NB261_263 := n6_; have NB263_261 := n7_; clear n0_ n1_ n2_ n3_ n4_ n5_ n6_ n7_; clear hb hbox hg; have hnb13 := NB263_261.out; have hnc13 := NB261_263.out; have hcz14_0 : w12.cell? ⟨gb263, 0, none⟩ = some (.int .i64 0) := (blk_cell BK263.out 0).trans rfl; have hcz14_1 : w12.cell? ⟨gb263, 1, none⟩ = some (.int .i64 0) := (blk_cell BK263.out 1).trans rfl; have hcz14_2 : w12.cell? ⟨gb263, 2, none⟩ = some (.int .i64 0) := (blk_cell BK263.out 2).trans rfl; have hcz14_3 : w12.cell? ⟨gb263, 3, none⟩ = some (.int .i64 0) := (blk_cell BK263.out 3).trans rfl; have hcz14_4 : w12.cell? ⟨gb263, 4, none⟩ = some (.int .i64 0) := (blk_cell BK263.out 4).trans rfl; have hcz14_5 : w12.cell? ⟨gb263, 5, none⟩ = some (.int .i64 0) := (blk_cell BK263.out 5).trans rfl; have hfz14_0 := blk_frozen BK263.out 0; have hfz14_1 := blk_frozen BK263.out 1; have hfz14_2 := blk_frozen BK263.out 2; have hfz14_3 := blk_frozen BK263.out 3; have hfz14_4 := blk_frozen BK263.out 4; have hfz14_5 := blk_frozen BK263.out 5))
        (try simp only [Act.put, List.setIfInBounds_toArray, List.set_cons_zero, List.set_cons_succ])
        go_cut [38] (fun v38 wc => ∃ (kq : Nat) (x38_9 : Bool), v38 = .bool x38_9 ∧ Aside0 (spoolref10_Far.j2 kq x3_2 x4_2 1 x38_9 l0_0 l0_1 a0_2 ((rd_T48 l0_0 x4_2).f0) ((rd_T48 l0_0 x4_2).f1) ((rd_T48 l0_0 x4_2).f2) ((rd_T48 l0_0 x4_2).f3) ((rd_T48 l0_0 x4_2).f4) ((rd_T48 l0_0 x4_2).f5) = some r) ∧ Aside0 (kq ≤ k2) ∧ Aside0 (Kd.R (Kd.int .i64) 3 wc w.heap.size (fun _ => True) u3 x3_2) ∧ Aside0 (wc.heap[gb261]? = some (.cells #[(.slice (some ad262) l0_0.length c0_0), (.slice A0_1 l0_1.length c0_1), .int .i64 a0_2] 25 (0, 0))) ∧ Aside0 (wc.heap[gb263]? = some (.cells #[.int .i64 ((rd_T48 l0_0 x4_2).f0), .int .i64 ((rd_T48 l0_0 x4_2).f1), .int .i64 ((rd_T48 l0_0 x4_2).f2), .int .i64 ((rd_T48 l0_0 x4_2).f3), .int .i64 ((rd_T48 l0_0 x4_2).f4), .int .i64 ((rd_T48 l0_0 x4_2).f5)] 48 (0, 0))) ∧ Aside0 (Below w.heap.size w wc))
        case first =>
         have H := HC10.out
         clear HC10
         by_cases c15 : ((rd_T48 l0_0 x4_2).f1) ≥ 0
         ·rw [if_pos c15] at H
          have c15b0 : decide (0 ≤ ((rd_T48 l0_0 x4_2).f1)) = true := decide_eq_true c15
          clear c15
          (first | rw [c15b0] | (simp only [i64_w, i32_w]; rw [c15b0]) | skip)
          have H' := Aside0.mk H
          clear H
          have hnb16 := NB263_261.out
          have hnc16 := NB261_263.out
          have hcz17_0 : w12.cell? ⟨gb263, 0, none⟩ = some (.int .i64 0) := (blk_cell BK263.out 0).trans rfl
          have hcz17_1 : w12.cell? ⟨gb263, 1, none⟩ = some (.int .i64 0) := (blk_cell BK263.out 1).trans rfl
          have hcz17_2 : w12.cell? ⟨gb263, 2, none⟩ = some (.int .i64 0) := (blk_cell BK263.out 2).trans rfl
          have hcz17_3 : w12.cell? ⟨gb263, 3, none⟩ = some (.int .i64 0) := (blk_cell BK263.out 3).trans rfl
          have hcz17_4 : w12.cell? ⟨gb263, 4, none⟩ = some (.int .i64 0) := (blk_cell BK263.out 4).trans rfl
          have hcz17_5 : w12.cell? ⟨gb263, 5, none⟩ = some (.int .i64 0) := (blk_cell BK263.out 5).trans rfl
          have hfz17_0 := blk_frozen BK263.out 0
          have hfz17_1 := blk_frozen BK263.out 1
          have hfz17_2 := blk_frozen BK263.out 2
          have hfz17_3 := blk_frozen BK263.out 3
          have hfz17_4 := blk_frozen BK263.out 4
          have hfz17_5 := blk_frozen BK263.out 5
          go_wp2
          go_meet
          case rel => exact ⟨_, (decide (((rd_T48 l0_0 x4_2).f1) < x4_2)), fib_, H', ⟨by have := HJ1.out; have := HK2.out; first | omega | exact Nat.le_refl _⟩, ⟨by (with_reducible repeat (first | apply Kd.R_alloc | apply Kd.R_drewN | apply Kd.R_drew)); exact Kd.R_mono (Kd.R_far (p := ⟨gb263, 5, none⟩) (Kd.R_far (p := ⟨gb263, 4, none⟩) (Kd.R_far (p := ⟨gb263, 3, none⟩) (Kd.R_far (p := ⟨gb263, 2, none⟩) (Kd.R_far (p := ⟨gb263, 1, none⟩) (Kd.R_far (p := ⟨gb263, 0, none⟩) (Kd.R_types HO_3.out BK263.out (by decide)) (fun _ hk => hk.2) (.int .i64 ((rd_T48 l0_0 x4_2).f0))) (fun _ hk => hk.2) (.int .i64 ((rd_T48 l0_0 x4_2).f1))) (fun _ hk => hk.2) (.int .i64 ((rd_T48 l0_0 x4_2).f2))) (fun _ hk => hk.2) (.int .i64 ((rd_T48 l0_0 x4_2).f3))) (fun _ hk => hk.2) (.int .i64 ((rd_T48 l0_0 x4_2).f4))) (fun _ hk => hk.2) (.int .i64 ((rd_T48 l0_0 x4_2).f5))) (fun _ hk => trivial)⟩, ⟨by (with_reducible repeat (first | refine blk_drewN ?_ _ | refine blk_drew ?_ | refine blk_alloc ?_ _)); refine blk_far ?_ NB261_263.out _; (with_reducible repeat (first | refine blk_drewN ?_ _ | refine blk_drew ?_ | refine blk_alloc ?_ _)); refine blk_far ?_ NB261_263.out _; (with_reducible repeat (first | refine blk_drewN ?_ _ | refine blk_drew ?_ | refine blk_alloc ?_ _)); refine blk_far ?_ NB261_263.out _; (with_reducible repeat (first | refine blk_drewN ?_ _ | refine blk_drew ?_ | refine blk_alloc ?_ _)); refine blk_far ?_ NB261_263.out _; (with_reducible repeat (first | refine blk_drewN ?_ _ | refine blk_drew ?_ | refine blk_alloc ?_ _)); refine blk_far ?_ NB261_263.out _; (with_reducible repeat (first | refine blk_drewN ?_ _ | refine blk_drew ?_ | refine blk_alloc ?_ _)); refine blk_far ?_ NB261_263.out _; exact bkw_ BK261.out⟩, ⟨by (with_reducible repeat (first | refine blk_drewN ?_ _ | refine blk_drew ?_ | refine blk_alloc ?_ _)); refine blk_put (cs := #[.int .i64 ((rd_T48 l0_0 x4_2).f0), .int .i64 ((rd_T48 l0_0 x4_2).f1), .int .i64 ((rd_T48 l0_0 x4_2).f2), .int .i64 ((rd_T48 l0_0 x4_2).f3), .int .i64 ((rd_T48 l0_0 x4_2).f4), .int .i64 0]) ?_ 5 _ rfl; (with_reducible repeat (first | refine blk_drewN ?_ _ | refine blk_drew ?_ | refine blk_alloc ?_ _)); refine blk_put (cs := #[.int .i64 ((rd_T48 l0_0 x4_2).f0), .int .i64 ((rd_T48 l0_0 x4_2).f1), .int .i64 ((rd_T48 l0_0 x4_2).f2), .int .i64 ((rd_T48 l0_0 x4_2).f3), .int .i64 0, .int .i64 0]) ?_ 4 _ rfl; (with_reducible repeat (first | refine blk_drewN ?_ _ | refine blk_drew ?_ | refine blk_alloc ?_ _)); refine blk_put (cs := #[.int .i64 ((rd_T48 l0_0 x4_2).f0), .int .i64 ((rd_T48 l0_0 x4_2).f1), .int .i64 ((rd_T48 l0_0 x4_2).f2), .int .i64 0, .int .i64 0, .int .i64 0]) ?_ 3 _ rfl; (with_reducible repeat (first | refine blk_drewN ?_ _ | refine blk_drew ?_ | refine blk_alloc ?_ _)); refine blk_put (cs := #[.int .i64 ((rd_T48 l0_0 x4_2).f0), .int .i64 ((rd_T48 l0_0 x4_2).f1), .int .i64 0, .int .i64 0, .int .i64 0, .int .i64 0]) ?_ 2 _ rfl; (with_reducible repeat (first | refine blk_drewN ?_ _ | refine blk_drew ?_ | refine blk_alloc ?_ _)); refine blk_put (cs := #[.int .i64 ((rd_T48 l0_0 x4_2).f0), .int .i64 0, .int .i64 0, .int .i64 0, .int .i64 0, .int .i64 0]) ?_ 1 _ rfl; (with_reducible repeat (first | refine blk_drewN ?_ _ | refine blk_drew ?_ | refine blk_alloc ?_ _)); refine blk_put (cs := #[.int .i64 0, .int .i64 0, .int .i64 0, .int .i64 0, .int .i64 0, .int .i64 0]) ?_ 0 _ rfl; exact bkw_ BK263.out⟩, ⟨bla_ HB.out⟩⟩
         ·rw [if_neg c15] at H
          have c15b0 : decide (0 ≤ ((rd_T48 l0_0 x4_2).f1)) = false := decide_eq_false c15
          clear c15
          (first | rw [c15b0] | (simp only [i64_w, i32_w]; rw [c15b0]) | skip)
          have H' := Aside0.mk H
          clear H
          have hnb18 := NB263_261.out
          have hnc18 := NB261_263.out
          have hcz19_0 : w12.cell? ⟨gb263, 0, none⟩ = some (.int .i64 0) := (blk_cell BK263.out 0).trans rfl
          have hcz19_1 : w12.cell? ⟨gb263, 1, none⟩ = some (.int .i64 0) := (blk_cell BK263.out 1).trans rfl
          have hcz19_2 : w12.cell? ⟨gb263, 2, none⟩ = some (.int .i64 0) := (blk_cell BK263.out 2).trans rfl
          have hcz19_3 : w12.cell? ⟨gb263, 3, none⟩ = some (.int .i64 0) := (blk_cell BK263.out 3).trans rfl
          have hcz19_4 : w12.cell? ⟨gb263, 4, none⟩ = some (.int .i64 0) := (blk_cell BK263.out 4).trans rfl
          have hcz19_5 : w12.cell? ⟨gb263, 5, none⟩ = some (.int .i64 0) := (blk_cell BK263.out 5).trans rfl
          have hfz19_0 := blk_frozen BK263.out 0
          have hfz19_1 := blk_frozen BK263.out 1
          have hfz19_2 := blk_frozen BK263.out 2
          have hfz19_3 := blk_frozen BK263.out 3
          have hfz19_4 := blk_frozen BK263.out 4
          have hfz19_5 := blk_frozen BK263.out 5
          go_wp2
          go_meet
          case rel => exact ⟨_, (false), fib_, H', ⟨by have := HJ1.out; have := HK2.out; first | omega | exact Nat.le_refl _⟩, ⟨by (with_reducible repeat (first | apply Kd.R_alloc | apply Kd.R_drewN | apply Kd.R_drew)); exact Kd.R_mono (Kd.R_far (p := ⟨gb263, 5, none⟩) (Kd.R_far (p := ⟨gb263, 4, none⟩) (Kd.R_far (p := ⟨gb263, 3, none⟩) (Kd.R_far (p := ⟨gb263, 2, none⟩) (Kd.R_far (p := ⟨gb263, 1, none⟩) (Kd.R_far (p := ⟨gb263, 0, none⟩) (Kd.R_types HO_3.out BK263.out (by decide)) (fun _ hk => hk.2) (.int .i64 ((rd_T48 l0_0 x4_2).f0))) (fun _ hk => hk.2) (.int .i64 ((rd_T48 l0_0 x4_2).f1))) (fun _ hk => hk.2) (.int .i64 ((rd_T48 l0_0 x4_2).f2))) (fun _ hk => hk.2) (.int .i64 ((rd_T48 l0_0 x4_2).f3))) (fun _ hk => hk.2) (.int .i64 ((rd_T48 l0_0 x4_2).f4))) (fun _ hk => hk.2) (.int .i64 ((rd_T48 l0_0 x4_2).f5))) (fun _ hk => trivial)⟩, ⟨by (with_reducible repeat (first | refine blk_drewN ?_ _ | refine blk_drew ?_ | refine blk_alloc ?_ _)); refine blk_far ?_ NB261_263.out _; (with_reducible repeat (first | refine blk_drewN ?_ _ | refine blk_drew ?_ | refine blk_alloc ?_ _)); refine blk_far ?_ NB261_263.out _; (with_reducible repeat (first | refine blk_drewN ?_ _ | refine blk_drew ?_ | refine blk_alloc ?_ _)); refine blk_far ?_ NB261_263.out _; (with_reducible repeat (first | refine blk_drewN ?_ _ | refine blk_drew ?_ | refine blk_alloc ?_ _)); refine blk_far ?_ NB261_263.out _; (with_reducible repeat (first | refine blk_drewN ?_ _ | refine blk_drew ?_ | refine blk_alloc ?_ _)); refine blk_far ?_ NB261_263.out _; (with_reducible repeat (first | refine blk_drewN ?_ _ | refine blk_drew ?_ | refine blk_alloc ?_ _)); refine blk_far ?_ NB261_263.out _; exact bkw_ BK261.out⟩, ⟨by (with_reducible repeat (first | refine blk_drewN ?_ _ | refine blk_drew ?_ | refine blk_alloc ?_ _)); refine blk_put (cs := #[.int .i64 ((rd_T48 l0_0 x4_2).f0), .int .i64 ((rd_T48 l0_0 x4_2).f1), .int .i64 ((rd_T48 l0_0 x4_2).f2), .int .i64 ((rd_T48 l0_0 x4_2).f3), .int .i64 ((rd_T48 l0_0 x4_2).f4), .int .i64 0]) ?_ 5 _ rfl; (with_reducible repeat (first | refine blk_drewN ?_ _ | refine blk_drew ?_ | refine blk_alloc ?_ _)); refine blk_put (cs := #[.int .i64 ((rd_T48 l0_0 x4_2).f0), .int .i64 ((rd_T48 l0_0 x4_2).f1), .int .i64 ((rd_T48 l0_0 x4_2).f2), .int .i64 ((rd_T48 l0_0 x4_2).f3), .int .i64 0, .int .i64 0]) ?_ 4 _ rfl; (with_reducible repeat (first | refine blk_drewN ?_ _ | refine blk_drew ?_ | refine blk_alloc ?_ _)); refine blk_put (cs := #[.int .i64 ((rd_T48 l0_0 x4_2).f0), .int .i64 ((rd_T48 l0_0 x4_2).f1), .int .i64 ((rd_T48 l0_0 x4_2).f2), .int .i64 0, .int .i64 0, .int .i64 0]) ?_ 3 _ rfl; (with_reducible repeat (first | refine blk_drewN ?_ _ | refine blk_drew ?_ | refine blk_alloc ?_ _)); refine blk_put (cs := #[.int .i64 ((rd_T48 l0_0 x4_2).f0), .int .i64 ((rd_T48 l0_0 x4_2).f1), .int .i64 0, .int .i64 0, .int .i64 0, .int .i64 0]) ?_ 2 _ rfl; (with_reducible repeat (first | refine blk_drewN ?_ _ | refine blk_drew ?_ | refine blk_alloc ?_ _)); refine blk_put (cs := #[.int .i64 ((rd_T48 l0_0 x4_2).f0), .int .i64 0, .int .i64 0, .int .i64 0, .int .i64 0, .int .i64 0]) ?_ 1 _ rfl; (with_reducible repeat (first | refine blk_drewN ?_ _ | refine blk_drew ?_ | refine blk_alloc ?_ _)); refine blk_put (cs := #[.int .i64 0, .int .i64 0, .int .i64 0, .int .i64 0, .int .i64 0, .int .i64 0]) ?_ 0 _ rfl; exact bkw_ BK263.out⟩, ⟨bla_ HB.out⟩⟩
        case rest =>
         clear HC10
         try clear c1
         try clear p2
         try clear q2
         try clear hx2
         try clear c4
         try clear c4b0
         try clear c4b1
         try clear c7
         try clear c8
         try clear c8b0
         try clear c9
         try clear c9b0
         try clear c11
         try clear c13
         try clear c15
         try clear c15b0
         try clear c16
         try clear c18
         try clear hcz11_0
         try clear hcz11_1
         try clear hcz11_2
         try clear hcz14_0
         try clear hcz14_1
         try clear hcz14_2
         try clear hcz14_3
         try clear hcz14_4
         try clear hcz14_5
         try clear hcz17_0
         try clear hcz17_1
         try clear hcz17_2
         try clear hcz17_3
         try clear hcz17_4
         try clear hcz17_5
         try clear hcz19_0
         try clear hcz19_1
         try clear hcz19_2
         try clear hcz19_3
         try clear hcz19_4
         try clear hcz19_5
         try clear hcz5_0
         try clear hcz5_1
         try clear hcz5_2
         try clear hcz6_0
         try clear hcz6_1
         try clear hcz6_2
         try clear hfz11_0
         try clear hfz11_1
         try clear hfz11_2
         try clear hfz14_0
         try clear hfz14_1
         try clear hfz14_2
         try clear hfz14_3
         try clear hfz14_4
         try clear hfz14_5
         try clear hfz17_0
         try clear hfz17_1
         try clear hfz17_2
         try clear hfz17_3
         try clear hfz17_4
         try clear hfz17_5
         try clear hfz19_0
         try clear hfz19_1
         try clear hfz19_2
         try clear hfz19_3
         try clear hfz19_4
         try clear hfz19_5
         try clear hfz5_0
         try clear hfz5_1
         try clear hfz5_2
         try clear hfz6_0
         try clear hfz6_1
         try clear hfz6_2
         try clear hx262_0
         try clear hx262_1
         try clear hx262_2
         try clear hx262_3
         try clear hx262_4
         try clear hx262_5
         try clear p2
         try clear p262
         try clear q262
         obtain ⟨kq, x38_9, rfl, HA, HJ9, HO_3, BK261, BK263, HB⟩ := hcut
         cases kq with
         | zero => exact absurd HA.out (by simp [spoolref10_Far.j2])
         | succ kj9 =>
          have H := HA.out
          clear HA
          simp only [spoolref10_Far.j2] at H
          have HC20 := Aside0.mk H
          clear H
          go_upto_if 38 with (fail)
          go_cut [5] (fun v5 wc => ∃ (kq : Nat) (x5_19 : Int), v5 = .int .i64 x5_19 ∧ Aside0 (spoolref10_Far.j3 kq x3_2 x4_2 x5_19 l0_0 l0_1 a0_2 ((rd_T48 l0_0 x4_2).f0) ((rd_T48 l0_0 x4_2).f1) ((rd_T48 l0_0 x4_2).f2) ((rd_T48 l0_0 x4_2).f3) ((rd_T48 l0_0 x4_2).f4) ((rd_T48 l0_0 x4_2).f5) = some r) ∧ Aside0 (kq ≤ kj9) ∧ Aside0 (Kd.R (Kd.int .i64) 3 wc w.heap.size (fun _ => True) u3 x3_2) ∧ Aside0 (wc.heap[gb261]? = some (.cells #[(.slice (some ad262) l0_0.length c0_0), (.slice A0_1 l0_1.length c0_1), .int .i64 a0_2] 25 (0, 0))) ∧ Aside0 (wc.heap[gb263]? = some (.cells #[.int .i64 ((rd_T48 l0_0 x4_2).f0), .int .i64 ((rd_T48 l0_0 x4_2).f1), .int .i64 ((rd_T48 l0_0 x4_2).f2), .int .i64 ((rd_T48 l0_0 x4_2).f3), .int .i64 ((rd_T48 l0_0 x4_2).f4), .int .i64 ((rd_T48 l0_0 x4_2).f5)] 48 (0, 0))) ∧ Aside0 (Below w.heap.size w wc))
          case first =>
           have H := HC20.out
           clear HC20
           by_cases c21 : x38_9 = true
           ·subst c21
            have H1 : (if 0 ≤ ((rd_T48 l0_0 x4_2).f1) then (if ((rd_T48 l0_0 x4_2).f1) < (x3_2.length : Int) then (spoolref10_Far.j3 kj9 x3_2 x4_2 (wrap64 (1 + (rd x3_2 ((rd_T48 l0_0 x4_2).f1)))) l0_0 l0_1 a0_2 ((rd_T48 l0_0 x4_2).f0) ((rd_T48 l0_0 x4_2).f1) ((rd_T48 l0_0 x4_2).f2) ((rd_T48 l0_0 x4_2).f3) ((rd_T48 l0_0 x4_2).f4) ((rd_T48 l0_0 x4_2).f5)) else (none)) else (none)) = some r := by rw [if_pos rfl] at H; exact H
            clear H
            have H := H1
            clear H1
            by_cases c22 : 0 ≤ ((rd_T48 l0_0 x4_2).f1)
            ·rw [if_pos c22] at H
             have c22b0 : decide (0 ≤ ((rd_T48 l0_0 x4_2).f1)) = true := decide_eq_true c22
             clear c22
             (first | rw [c22b0] | (simp only [i64_w, i32_w]; rw [c22b0]) | skip)
             by_cases c23 : ((rd_T48 l0_0 x4_2).f1) < (x3_2.length : Int)
             ·rw [if_pos c23] at H
              have c23b0 : decide (((rd_T48 l0_0 x4_2).f1) < (x3_2.length : Int)) = true := decide_eq_true c23
              clear c23
              have H' := Aside0.mk H
              clear H
              have hnb24 := NB263_261.out
              have hnc24 := NB261_263.out
              have hcz25_0 : wc.cell? ⟨gb263, 0, none⟩ = some (.int .i64 ((rd_T48 l0_0 x4_2).f0)) := (blk_cell BK263.out 0).trans rfl
              have hcz25_1 : wc.cell? ⟨gb263, 1, none⟩ = some (.int .i64 ((rd_T48 l0_0 x4_2).f1)) := (blk_cell BK263.out 1).trans rfl
              have hcz25_2 : wc.cell? ⟨gb263, 2, none⟩ = some (.int .i64 ((rd_T48 l0_0 x4_2).f2)) := (blk_cell BK263.out 2).trans rfl
              have hcz25_3 : wc.cell? ⟨gb263, 3, none⟩ = some (.int .i64 ((rd_T48 l0_0 x4_2).f3)) := (blk_cell BK263.out 3).trans rfl
              have hcz25_4 : wc.cell? ⟨gb263, 4, none⟩ = some (.int .i64 ((rd_T48 l0_0 x4_2).f4)) := (blk_cell BK263.out 4).trans rfl
              have hcz25_5 : wc.cell? ⟨gb263, 5, none⟩ = some (.int .i64 ((rd_T48 l0_0 x4_2).f5)) := (blk_cell BK263.out 5).trans rfl
              have hfz25_0 := blk_frozen BK263.out 0
              have hfz25_1 := blk_frozen BK263.out 1
              have hfz25_2 := blk_frozen BK263.out 2
              have hfz25_3 := blk_frozen BK263.out 3
              have hfz25_4 := blk_frozen BK263.out 4
              have hfz25_5 := blk_frozen BK263.out 5
              obtain ⟨Ao26, co26, eo26⟩ := Kd.R_slice HO_3.out
              subst eo26
              have p264 : 0 ≤ (((rd_T48 l0_0 x4_2).f1) : Int) := of_decide_eq_true asa_
              have q264 : ((rd_T48 l0_0 x4_2).f1) < (x3_2.length : Int) := of_decide_eq_true asa_
              obtain ⟨ad264, e264, hx264_0⟩ := Kd.at_int (Kd.R_reads' HO_3.out).2.2 ((rd_T48 l0_0 x4_2).f1) p264 q264
              cases e264
              replace p264 := eq_true p264
              replace q264 := eq_true q264
              go_wp2
              go_meet
              case rel => exact ⟨_, (wrap64 (1 + (rd x3_2 ((rd_T48 l0_0 x4_2).f1)))), fib_, H', ⟨by have := HJ1.out; have := HK2.out; have := HJ9.out; first | omega | exact Nat.le_refl _⟩, ⟨by (with_reducible repeat (first | apply Kd.R_alloc | apply Kd.R_drewN | apply Kd.R_drew)); exact HO_3.out⟩, ⟨by exact bkw_ BK261.out⟩, ⟨by exact bkw_ BK263.out⟩, ⟨bla_ HB.out⟩⟩
             ·rw [if_neg c23] at H
              exact absurd H (by simp)
            ·rw [if_neg c22] at H
             exact absurd H (by simp)
           ·replace c21 := Bool.eq_false_iff.mpr c21
            subst c21
            have H1 : (spoolref10_Far.j3 kj9 x3_2 x4_2 1 l0_0 l0_1 a0_2 ((rd_T48 l0_0 x4_2).f0) ((rd_T48 l0_0 x4_2).f1) ((rd_T48 l0_0 x4_2).f2) ((rd_T48 l0_0 x4_2).f3) ((rd_T48 l0_0 x4_2).f4) ((rd_T48 l0_0 x4_2).f5)) = some r := by rw [if_neg (show ¬ (false = true) by decide)] at H; exact H
            clear H
            have H := H1
            clear H1
            have H' := Aside0.mk H
            clear H
            go_wp2
            go_meet
            case rel => exact ⟨_, (1), fib_, H', ⟨by have := HJ1.out; have := HK2.out; have := HJ9.out; first | omega | exact Nat.le_refl _⟩, ⟨by (with_reducible repeat (first | apply Kd.R_alloc | apply Kd.R_drewN | apply Kd.R_drew)); exact HO_3.out⟩, ⟨by exact bkw_ BK261.out⟩, ⟨by exact bkw_ BK263.out⟩, ⟨bla_ HB.out⟩⟩
          case rest =>
           clear HC20
           try clear c1
           try clear c2
           try clear p2
           try clear q2
           try clear hx2
           try clear c4
           try clear c4b0
           try clear c4b1
           try clear p6
           try clear c7
           try clear c8
           try clear c8b0
           try clear c9
           try clear c9b0
           try clear c11
           try clear c13
           try clear c15
           try clear c15b0
           try clear c16
           try clear c18
           try clear c21
           try clear c22
           try clear c22b0
           try clear c23
           try clear c23b0
           try clear c24
           try clear p26
           try clear q26
           try clear hx26
           try clear hcz11_0
           try clear hcz11_1
           try clear hcz11_2
           try clear hcz14_0
           try clear hcz14_1
           try clear hcz14_2
           try clear hcz14_3
           try clear hcz14_4
           try clear hcz14_5
           try clear hcz17_0
           try clear hcz17_1
           try clear hcz17_2
           try clear hcz17_3
           try clear hcz17_4
           try clear hcz17_5
           try clear hcz19_0
           try clear hcz19_1
           try clear hcz19_2
           try clear hcz19_3
           try clear hcz19_4
           try clear hcz19_5
           try clear hcz25_0
           try clear hcz25_1
           try clear hcz25_2
           try clear hcz25_3
           try clear hcz25_4
           try clear hcz25_5
           try clear hcz5_0
           try clear hcz5_1
           try clear hcz5_2
           try clear hcz6_0
           try clear hcz6_1
           try clear hcz6_2
           try clear hfz11_0
           try clear hfz11_1
           try clear hfz11_2
           try clear hfz14_0
           try clear hfz14_1
           try clear hfz14_2
           try clear hfz14_3
           try clear hfz14_4
           try clear hfz14_5
           try clear hfz17_0
           try clear hfz17_1
           try clear hfz17_2
           try clear hfz17_3
           try clear hfz17_4
           try clear hfz17_5
           try clear hfz19_0
           try clear hfz19_1
           try clear hfz19_2
           try clear hfz19_3
           try clear hfz19_4
           try clear hfz19_5
           try clear hfz25_0
           try clear hfz25_1
           try clear hfz25_2
           try clear hfz25_3
           try clear hfz25_4
           try clear hfz25_5
           try clear hfz5_0
           try clear hfz5_1
           try clear hfz5_2
           try clear hfz6_0
           try clear hfz6_1
           try clear hfz6_2
           try clear hx262_0
           try clear hx262_1
           try clear hx262_2
           try clear hx262_3
           try clear hx262_4
           try clear hx262_5
           try clear hx264_0
           try clear p2
           try clear p262
           try clear p264
           try clear q2
           try clear q262
           try clear q264
           obtain ⟨kq, x5_19, rfl, HA, HJ19, HO_3, BK261, BK263, HB⟩ := hcut
           cases kq with
           | zero => exact absurd HA.out (by simp [spoolref10_Far.j3])
           | succ kj19 =>
            have H := HA.out
            clear HA
            simp only [spoolref10_Far.j3] at H
            have HC27 := Aside0.mk H
            clear H
            go_upto_region 11 with (fail)
            go_cut [54] (fun v54 wc => ∃ (kq : Nat) (x54_26 : Bool), v54 = .bool x54_26 ∧ Aside0 (spoolref10_Far.j4 kq x3_2 x4_2 x5_19 x54_26 l0_0 l0_1 a0_2 ((rd_T48 l0_0 x4_2).f0) ((rd_T48 l0_0 x4_2).f1) ((rd_T48 l0_0 x4_2).f2) ((rd_T48 l0_0 x4_2).f3) ((rd_T48 l0_0 x4_2).f4) ((rd_T48 l0_0 x4_2).f5) = some r) ∧ Aside0 (kq ≤ kj19) ∧ Aside0 (Kd.R (Kd.int .i64) 3 wc w.heap.size (fun _ => True) u3 x3_2) ∧ Aside0 (wc.heap[gb261]? = some (.cells #[(.slice (some ad262) l0_0.length c0_0), (.slice A0_1 l0_1.length c0_1), .int .i64 a0_2] 25 (0, 0))) ∧ Aside0 (wc.heap[gb263]? = some (.cells #[.int .i64 ((rd_T48 l0_0 x4_2).f0), .int .i64 ((rd_T48 l0_0 x4_2).f1), .int .i64 ((rd_T48 l0_0 x4_2).f2), .int .i64 ((rd_T48 l0_0 x4_2).f3), .int .i64 ((rd_T48 l0_0 x4_2).f4), .int .i64 ((rd_T48 l0_0 x4_2).f5)] 48 (0, 0))) ∧ Aside0 (Below w.heap.size w wc))
            case first =>
             have H := HC27.out
             clear HC27
             by_cases c28 : ((rd_T48 l0_0 x4_2).f2) ≥ 0
             ·rw [if_pos c28] at H
              have c28b0 : decide (0 ≤ ((rd_T48 l0_0 x4_2).f2)) = true := decide_eq_true c28
              clear c28
              (first | rw [c28b0] | (simp only [i64_w, i32_w]; rw [c28b0]) | skip)
              have H' := Aside0.mk H
              clear H
              have hnb29 := NB263_261.out
              have hnc29 := NB261_263.out
              have hcz30_0 : wc.cell? ⟨gb263, 0, none⟩ = some (.int .i64 ((rd_T48 l0_0 x4_2).f0)) := (blk_cell BK263.out 0).trans rfl
              have hcz30_1 : wc.cell? ⟨gb263, 1, none⟩ = some (.int .i64 ((rd_T48 l0_0 x4_2).f1)) := (blk_cell BK263.out 1).trans rfl
              have hcz30_2 : wc.cell? ⟨gb263, 2, none⟩ = some (.int .i64 ((rd_T48 l0_0 x4_2).f2)) := (blk_cell BK263.out 2).trans rfl
              have hcz30_3 : wc.cell? ⟨gb263, 3, none⟩ = some (.int .i64 ((rd_T48 l0_0 x4_2).f3)) := (blk_cell BK263.out 3).trans rfl
              have hcz30_4 : wc.cell? ⟨gb263, 4, none⟩ = some (.int .i64 ((rd_T48 l0_0 x4_2).f4)) := (blk_cell BK263.out 4).trans rfl
              have hcz30_5 : wc.cell? ⟨gb263, 5, none⟩ = some (.int .i64 ((rd_T48 l0_0 x4_2).f5)) := (blk_cell BK263.out 5).trans rfl
              have hfz30_0 := blk_frozen BK263.out 0
              have hfz30_1 := blk_frozen BK263.out 1
              have hfz30_2 := blk_frozen BK263.out 2
              have hfz30_3 := blk_frozen BK263.out 3
              have hfz30_4 := blk_frozen BK263.out 4
              have hfz30_5 := blk_frozen BK263.out 5
              go_wp2
              go_meet
              case rel => exact ⟨_, (decide (((rd_T48 l0_0 x4_2).f2) < x4_2)), fib_, H', ⟨by have := HJ1.out; have := HK2.out; have := HJ9.out; have := HJ19.out; first | omega | exact Nat.le_refl _⟩, ⟨by (with_reducible repeat (first | apply Kd.R_alloc | apply Kd.R_drewN | apply Kd.R_drew)); exact HO_3.out⟩, ⟨by exact bkw_ BK261.out⟩, ⟨by exact bkw_ BK263.out⟩, ⟨bla_ HB.out⟩⟩
             ·rw [if_neg c28] at H
              have c28b0 : decide (0 ≤ ((rd_T48 l0_0 x4_2).f2)) = false := decide_eq_false c28
              clear c28
              (first | rw [c28b0] | (simp only [i64_w, i32_w]; rw [c28b0]) | skip)
              have H' := Aside0.mk H
              clear H
              have hnb31 := NB263_261.out
              have hnc31 := NB261_263.out
              have hcz32_0 : wc.cell? ⟨gb263, 0, none⟩ = some (.int .i64 ((rd_T48 l0_0 x4_2).f0)) := (blk_cell BK263.out 0).trans rfl
              have hcz32_1 : wc.cell? ⟨gb263, 1, none⟩ = some (.int .i64 ((rd_T48 l0_0 x4_2).f1)) := (blk_cell BK263.out 1).trans rfl
              have hcz32_2 : wc.cell? ⟨gb263, 2, none⟩ = some (.int .i64 ((rd_T48 l0_0 x4_2).f2)) := (blk_cell BK263.out 2).trans rfl
              have hcz32_3 : wc.cell? ⟨gb263, 3, none⟩ = some (.int .i64 ((rd_T48 l0_0 x4_2).f3)) := (blk_cell BK263.out 3).trans rfl
              have hcz32_4 : wc.cell? ⟨gb263, 4, none⟩ = some (.int .i64 ((rd_T48 l0_0 x4_2).f4)) := (blk_cell BK263.out 4).trans rfl
              have hcz32_5 : wc.cell? ⟨gb263, 5, none⟩ = some (.int .i64 ((rd_T48 l0_0 x4_2).f5)) := (blk_cell BK263.out 5).trans rfl
              have hfz32_0 := blk_frozen BK263.out 0
              have hfz32_1 := blk_frozen BK263.out 1
              have hfz32_2 := blk_frozen BK263.out 2
              have hfz32_3 := blk_frozen BK263.out 3
              have hfz32_4 := blk_frozen BK263.out 4
              have hfz32_5 := blk_frozen BK263.out 5
              go_wp2
              go_meet
              case rel => exact ⟨_, (false), fib_, H', ⟨by have := HJ1.out; have := HK2.out; have := HJ9.out; have := HJ19.out; first | omega | exact Nat.le_refl _⟩, ⟨by (with_reducible repeat (first | apply Kd.R_alloc | apply Kd.R_drewN | apply Kd.R_drew)); exact HO_3.out⟩, ⟨by exact bkw_ BK261.out⟩, ⟨by exact bkw_ BK263.out⟩, ⟨bla_ HB.out⟩⟩
            case rest =>
             clear HC27
             try clear c1
             try clear c2
             try clear p2
             try clear q2
             try clear hx2
             try clear c3
             try clear c4
             try clear c4b0
             try clear c4b1
             try clear p6
             try clear c7
             try clear c8
             try clear c8b0
             try clear c9
             try clear c9b0
             try clear c11
             try clear c13
             try clear c15
             try clear c15b0
             try clear c16
             try clear c18
             try clear c21
             try clear c22
             try clear c22b0
             try clear c23
             try clear c23b0
             try clear c24
             try clear p26
             try clear q26
             try clear hx26
             try clear c28
             try clear c28b0
             try clear c29
             try clear c31
             try clear hcz11_0
             try clear hcz11_1
             try clear hcz11_2
             try clear hcz14_0
             try clear hcz14_1
             try clear hcz14_2
             try clear hcz14_3
             try clear hcz14_4
             try clear hcz14_5
             try clear hcz17_0
             try clear hcz17_1
             try clear hcz17_2
             try clear hcz17_3
             try clear hcz17_4
             try clear hcz17_5
             try clear hcz19_0
             try clear hcz19_1
             try clear hcz19_2
             try clear hcz19_3
             try clear hcz19_4
             try clear hcz19_5
             try clear hcz25_0
             try clear hcz25_1
             try clear hcz25_2
             try clear hcz25_3
             try clear hcz25_4
             try clear hcz25_5
             try clear hcz30_0
             try clear hcz30_1
             try clear hcz30_2
             try clear hcz30_3
             try clear hcz30_4
             try clear hcz30_5
             try clear hcz32_0
             try clear hcz32_1
             try clear hcz32_2
             try clear hcz32_3
             try clear hcz32_4
             try clear hcz32_5
             try clear hcz5_0
             try clear hcz5_1
             try clear hcz5_2
             try clear hcz6_0
             try clear hcz6_1
             try clear hcz6_2
             try clear hfz11_0
             try clear hfz11_1
             try clear hfz11_2
             try clear hfz14_0
             try clear hfz14_1
             try clear hfz14_2
             try clear hfz14_3
             try clear hfz14_4
             try clear hfz14_5
             try clear hfz17_0
             try clear hfz17_1
             try clear hfz17_2
             try clear hfz17_3
             try clear hfz17_4
             try clear hfz17_5
             try clear hfz19_0
             try clear hfz19_1
             try clear hfz19_2
             try clear hfz19_3
             try clear hfz19_4
             try clear hfz19_5
             try clear hfz25_0
             try clear hfz25_1
             try clear hfz25_2
             try clear hfz25_3
             try clear hfz25_4
             try clear hfz25_5
             try clear hfz30_0
             try clear hfz30_1
             try clear hfz30_2
             try clear hfz30_3
             try clear hfz30_4
             try clear hfz30_5
             try clear hfz32_0
             try clear hfz32_1
             try clear hfz32_2
             try clear hfz32_3
             try clear hfz32_4
             try clear hfz32_5
             try clear hfz5_0
             try clear hfz5_1
             try clear hfz5_2
             try clear hfz6_0
             try clear hfz6_1
             try clear hfz6_2
             try clear hx262_0
             try clear hx262_1
             try clear hx262_2
             try clear hx262_3
             try clear hx262_4
             try clear hx262_5
             try clear hx264_0
             try clear p2
             try clear p26
             try clear p262
             try clear p264
             try clear p6
             try clear q2
             try clear q26
             try clear q262
             try clear q264
             obtain ⟨kq, x54_26, rfl, HA, HJ26, HO_3, BK261, BK263, HB⟩ := hcut
             cases kq with
             | zero => exact absurd HA.out (by simp [spoolref10_Far.j4])
             | succ kj26 =>
              have H := HA.out
              clear HA
              simp only [spoolref10_Far.j4] at H
              by_cases c33 : x54_26 = true
              ·subst c33
               have H1 : (if 0 ≤ ((rd_T48 l0_0 x4_2).f2) then (if ((rd_T48 l0_0 x4_2).f2) < (x3_2.length : Int) then (if (wrap64 (x5_19 + (rd x3_2 ((rd_T48 l0_0 x4_2).f2)))) > 3000 then (some true) else (if x3_2.length < 17592186044416 then (spoolref10_Far.l0 kj26 (x3_2 ++ [wrap64 (x5_19 + (rd x3_2 ((rd_T48 l0_0 x4_2).f2)))]) (wrap64 (x4_2 + 1)) l0_0 l0_1 a0_2) else (none))) else (none)) else (none)) = some r := by rw [if_pos rfl] at H; exact H
               clear H
               have H := H1
               clear H1
               by_cases c34 : 0 ≤ ((rd_T48 l0_0 x4_2).f2)
               ·rw [if_pos c34] at H
                have c34b0 : decide (0 ≤ ((rd_T48 l0_0 x4_2).f2)) = true := decide_eq_true c34
                clear c34
                by_cases c35 : ((rd_T48 l0_0 x4_2).f2) < (x3_2.length : Int)
                ·rw [if_pos c35] at H
                 have c35b0 : decide (((rd_T48 l0_0 x4_2).f2) < (x3_2.length : Int)) = true := decide_eq_true c35
                 clear c35
                 by_cases c36 : (wrap64 (x5_19 + (rd x3_2 ((rd_T48 l0_0 x4_2).f2)))) > 3000
                 ·rw [if_pos c36] at H
                  have c36b0 : decide (3000 < (wrap64 (x5_19 + (rd x3_2 ((rd_T48 l0_0 x4_2).f2))))) = true := decide_eq_true c36
                  clear c36
                  obtain rfl := Option.some.inj H
                  have hnb37 := NB263_261.out
                  have hnc37 := NB261_263.out
                  have hcz38_0 : wc.cell? ⟨gb263, 0, none⟩ = some (.int .i64 ((rd_T48 l0_0 x4_2).f0)) := (blk_cell BK263.out 0).trans rfl
                  have hcz38_1 : wc.cell? ⟨gb263, 1, none⟩ = some (.int .i64 ((rd_T48 l0_0 x4_2).f1)) := (blk_cell BK263.out 1).trans rfl
                  have hcz38_2 : wc.cell? ⟨gb263, 2, none⟩ = some (.int .i64 ((rd_T48 l0_0 x4_2).f2)) := (blk_cell BK263.out 2).trans rfl
                  have hcz38_3 : wc.cell? ⟨gb263, 3, none⟩ = some (.int .i64 ((rd_T48 l0_0 x4_2).f3)) := (blk_cell BK263.out 3).trans rfl
                  have hcz38_4 : wc.cell? ⟨gb263, 4, none⟩ = some (.int .i64 ((rd_T48 l0_0 x4_2).f4)) := (blk_cell BK263.out 4).trans rfl
                  have hcz38_5 : wc.cell? ⟨gb263, 5, none⟩ = some (.int .i64 ((rd_T48 l0_0 x4_2).f5)) := (blk_cell BK263.out 5).trans rfl
                  have hfz38_0 := blk_frozen BK263.out 0
                  have hfz38_1 := blk_frozen BK263.out 1
                  have hfz38_2 := blk_frozen BK263.out 2
                  have hfz38_3 := blk_frozen BK263.out 3
                  have hfz38_4 := blk_frozen BK263.out 4
                  have hfz38_5 := blk_frozen BK263.out 5
                  obtain ⟨Ao39, co39, eo39⟩ := Kd.R_slice HO_3.out
                  subst eo39
                  have p265 : 0 ≤ (((rd_T48 l0_0 x4_2).f2) : Int) := of_decide_eq_true asa_
                  have q265 : ((rd_T48 l0_0 x4_2).f2) < (x3_2.length : Int) := of_decide_eq_true asa_
                  obtain ⟨ad265, e265, hx265_0⟩ := Kd.at_int (Kd.R_reads' HO_3.out).2.2 ((rd_T48 l0_0 x4_2).f2) p265 q265
                  cases e265
                  replace p265 := eq_true p265
                  replace q265 := eq_true q265
                  go_wp2
                  go_ret
                  exact ⟨fia_, bla_ HB.out⟩
                 ·rw [if_neg c36] at H
                  have c36b0 : decide (3000 < (wrap64 (x5_19 + (rd x3_2 ((rd_T48 l0_0 x4_2).f2))))) = false := decide_eq_false c36
                  clear c36
                  by_cases c40 : x3_2.length < 17592186044416
                  ·rw [if_pos c40] at H
                   have LMc40 := Aside0.mk c40
                   clear c40
                   obtain ⟨y266, hy266⟩ : ∃ y_ : List Int, y_ = (x3_2 ++ [wrap64 (x5_19 + (rd x3_2 ((rd_T48 l0_0 x4_2).f2)))]) := ⟨_, rfl⟩
                   replace H : (spoolref10_Far.l0 kj26 y266 (wrap64 (x4_2 + 1)) l0_0 l0_1 a0_2) = some r := by first | (rw [hy266]; with_reducible exact H) | (have H2_ := (Option.bind_some _ _).symm.trans H; rw [hy266]; with_reducible exact H2_) | (have H2_ := (Option.bind_some _ _).symm.trans H; with_reducible exact H2_) | with_reducible exact H | (rw [hy266]; exact H) | exact H
                   have Ny266 := Aside0.mk hy266
                   clear hy266
                   have H' := Aside0.mk H
                   clear H
                   have hnb41 := NB263_261.out
                   have hnc41 := NB261_263.out
                   have hcz42_0 : wc.cell? ⟨gb263, 0, none⟩ = some (.int .i64 ((rd_T48 l0_0 x4_2).f0)) := (blk_cell BK263.out 0).trans rfl
                   have hcz42_1 : wc.cell? ⟨gb263, 1, none⟩ = some (.int .i64 ((rd_T48 l0_0 x4_2).f1)) := (blk_cell BK263.out 1).trans rfl
                   have hcz42_2 : wc.cell? ⟨gb263, 2, none⟩ = some (.int .i64 ((rd_T48 l0_0 x4_2).f2)) := (blk_cell BK263.out 2).trans rfl
                   have hcz42_3 : wc.cell? ⟨gb263, 3, none⟩ = some (.int .i64 ((rd_T48 l0_0 x4_2).f3)) := (blk_cell BK263.out 3).trans rfl
                   have hcz42_4 : wc.cell? ⟨gb263, 4, none⟩ = some (.int .i64 ((rd_T48 l0_0 x4_2).f4)) := (blk_cell BK263.out 4).trans rfl
                   have hcz42_5 : wc.cell? ⟨gb263, 5, none⟩ = some (.int .i64 ((rd_T48 l0_0 x4_2).f5)) := (blk_cell BK263.out 5).trans rfl
                   have hfz42_0 := blk_frozen BK263.out 0
                   have hfz42_1 := blk_frozen BK263.out 1
                   have hfz42_2 := blk_frozen BK263.out 2
                   have hfz42_3 := blk_frozen BK263.out 3
                   have hfz42_4 := blk_frozen BK263.out 4
                   have hfz42_5 := blk_frozen BK263.out 5
                   obtain ⟨Ao43, co43, eo43⟩ := Kd.R_slice HO_3.out
                   subst eo43
                   have p265 : 0 ≤ (((rd_T48 l0_0 x4_2).f2) : Int) := of_decide_eq_true asa_
                   have q265 : ((rd_T48 l0_0 x4_2).f2) < (x3_2.length : Int) := of_decide_eq_true asa_
                   obtain ⟨ad265, e265, hx265_0⟩ := Kd.at_int (Kd.R_reads' HO_3.out).2.2 ((rd_T48 l0_0 x4_2).f2) p265 q265
                   cases e265
                   replace p265 := eq_true p265
                   replace q265 := eq_true q265
                   go_wp2_with (first | ((with_reducible refine gate_builtin (b := .append) (xs := #[.tmp 64, .tmp 66]) rfl ?_); (try (refine gate_guard (by rfl) ?_; dsimp only)); at_builtin; refine Kd.R_append (Kd.int .i64) (w0 := w) w.heap.size rfl (.tmp 64) (.tmp 66) 46 3 (.int .i64 0) 8 rfl Tryd.underlying46 info3 rfl (by decide) (by omega) (.slice (some ad265) x3_2.length co43) x3_2 (wrap64 (x5_19 + (rd x3_2 ((rd_T48 l0_0 x4_2).f2)))) [.int .i64 (wrap64 (x5_19 + (rd x3_2 ((rd_T48 l0_0 x4_2).f2))))] (fun _ => True) (fun _ => False) rfl rfl ?aP (fun _ hk => hk.elim) ?aF ?aO ?aB ?aS ?aL ?_; (case aP => exact rfl); (case aB => exact (bla_ HB.out)); (case aF => exact (fun _ _ => trivial)); (case aO => exact (by (with_reducible repeat (first | apply Kd.R_alloc | apply Kd.R_drewN | apply Kd.R_drew)); exact HO_3.out)); (case aS => exact (below_size (bla_ HB.out))); (case aL => have := LMc40.out; omega); intro v267 w44 ho hb hg hat; rw [← Ny266.out] at ho; have n0_ := Aside0.mk (blk_grown (g := gb261) (o := .cells #[.slice (some ad262) l0_0.length c0_0, .slice A0_1 l0_1.length c0_1, .int .i64 a0_2] 25 (0, 0)) (by exact bkw_ BK261.out) hg (Kd.R_ne HO_3.out BK261.out (by decide))); have n1_ := Aside0.mk (blk_grown (g := gb263) (o := .cells #[.int .i64 ((rd_T48 l0_0 x4_2).f0), .int .i64 ((rd_T48 l0_0 x4_2).f1), .int .i64 ((rd_T48 l0_0 x4_2).f2), .int .i64 ((rd_T48 l0_0 x4_2).f3), .int .i64 ((rd_T48 l0_0 x4_2).f4), .int .i64 ((rd_T48 l0_0 x4_2).f5)] 48 (0, 0)) (by exact bkw_ BK263.out) hg (Kd.R_ne HO_3.out BK263.out (by decide))); have n2_ := Aside0.mk (hb); have n3_ := Aside0.mk (ho); clear BK261; clear BK263; clear HB; clear HO_3; have BK261 := n0_; have BK263 := n1_; have HB := n2_; have HO268 := n3_; clear n0_ n1_ n2_ n3_; clear ho hb hg hat))
                   go_roundg kj26
                   case measure => have := HJ1.out; have := HK2.out; have := HJ9.out; have := HJ19.out; have := HJ26.out; omega
                   case rel => exact ⟨(y266), (wrap64 (x4_2 + 1)), fib_, H', ⟨by have := HJ1.out; have := HK2.out; have := HJ9.out; have := HJ19.out; have := HJ26.out; omega⟩, ⟨by (with_reducible repeat (first | apply Kd.R_alloc | apply Kd.R_drewN | apply Kd.R_drew)); exact HO268.out⟩, ⟨by exact bkw_ BK261.out⟩, ⟨bla_ HB.out⟩⟩
                  ·rw [if_neg c40] at H
                   exact absurd H (by simp)
                ·rw [if_neg c35] at H
                 exact absurd H (by simp)
               ·rw [if_neg c34] at H
                exact absurd H (by simp)
              ·replace c33 := Bool.eq_false_iff.mpr c33
               subst c33
               have H1 : (if x5_19 > 3000 then (some true) else (if x3_2.length < 17592186044416 then (spoolref10_Far.l0 kj26 (x3_2 ++ [x5_19]) (wrap64 (x4_2 + 1)) l0_0 l0_1 a0_2) else (none))) = some r := by rw [if_neg (show ¬ (false = true) by decide)] at H; exact H
               clear H
               have H := H1
               clear H1
               by_cases c45 : x5_19 > 3000
               ·rw [if_pos c45] at H
                have c45b0 : decide (3000 < x5_19) = true := decide_eq_true c45
                clear c45
                obtain rfl := Option.some.inj H
                go_wp2
                go_ret
                exact ⟨fia_, bla_ HB.out⟩
               ·rw [if_neg c45] at H
                have c45b0 : decide (3000 < x5_19) = false := decide_eq_false c45
                clear c45
                by_cases c46 : x3_2.length < 17592186044416
                ·rw [if_pos c46] at H
                 have LMc46 := Aside0.mk c46
                 clear c46
                 obtain ⟨y269, hy269⟩ : ∃ y_ : List Int, y_ = (x3_2 ++ [x5_19]) := ⟨_, rfl⟩
                 replace H : (spoolref10_Far.l0 kj26 y269 (wrap64 (x4_2 + 1)) l0_0 l0_1 a0_2) = some r := by first | (rw [hy269]; with_reducible exact H) | (have H2_ := (Option.bind_some _ _).symm.trans H; rw [hy269]; with_reducible exact H2_) | (have H2_ := (Option.bind_some _ _).symm.trans H; with_reducible exact H2_) | with_reducible exact H | (rw [hy269]; exact H) | exact H
                 have Ny269 := Aside0.mk hy269
                 clear hy269
                 have H' := Aside0.mk H
                 clear H
                 go_wp2_with (first | ((with_reducible refine gate_builtin (b := .append) (xs := #[.tmp 64, .tmp 66]) rfl ?_); (try (refine gate_guard (by rfl) ?_; dsimp only)); at_builtin; refine Kd.R_append (Kd.int .i64) (w0 := w) w.heap.size rfl (.tmp 64) (.tmp 66) 46 3 (.int .i64 0) 8 rfl Tryd.underlying46 info3 rfl (by decide) (by omega) u3 x3_2 x5_19 [.int .i64 x5_19] (fun _ => True) (fun _ => False) rfl rfl ?aP (fun _ hk => hk.elim) ?aF ?aO ?aB ?aS ?aL ?_; (case aP => exact rfl); (case aB => exact (bla_ HB.out)); (case aF => exact (fun _ _ => trivial)); (case aO => exact (by (with_reducible repeat (first | apply Kd.R_alloc | apply Kd.R_drewN | apply Kd.R_drew)); exact HO_3.out)); (case aS => exact (below_size (bla_ HB.out))); (case aL => have := LMc46.out; omega); intro v270 w47 ho hb hg hat; rw [← Ny269.out] at ho; have n0_ := Aside0.mk (blk_grown (g := gb261) (o := .cells #[.slice (some ad262) l0_0.length c0_0, .slice A0_1 l0_1.length c0_1, .int .i64 a0_2] 25 (0, 0)) (by exact bkw_ BK261.out) hg (Kd.R_ne HO_3.out BK261.out (by decide))); have n1_ := Aside0.mk (blk_grown (g := gb263) (o := .cells #[.int .i64 ((rd_T48 l0_0 x4_2).f0), .int .i64 ((rd_T48 l0_0 x4_2).f1), .int .i64 ((rd_T48 l0_0 x4_2).f2), .int .i64 ((rd_T48 l0_0 x4_2).f3), .int .i64 ((rd_T48 l0_0 x4_2).f4), .int .i64 ((rd_T48 l0_0 x4_2).f5)] 48 (0, 0)) (by exact bkw_ BK263.out) hg (Kd.R_ne HO_3.out BK263.out (by decide))); have n2_ := Aside0.mk (hb); have n3_ := Aside0.mk (ho); clear BK261; clear BK263; clear HB; clear HO_3; have BK261 := n0_; have BK263 := n1_; have HB := n2_; have HO271 := n3_; clear n0_ n1_ n2_ n3_; clear ho hb hg hat))
                 go_roundg kj26
                 case measure => have := HJ1.out; have := HK2.out; have := HJ9.out; have := HJ19.out; have := HJ26.out; omega
                 case rel => exact ⟨(y269), (wrap64 (x4_2 + 1)), fib_, H', ⟨by have := HJ1.out; have := HK2.out; have := HJ9.out; have := HJ19.out; have := HJ26.out; omega⟩, ⟨by (with_reducible repeat (first | apply Kd.R_alloc | apply Kd.R_drewN | apply Kd.R_drew)); exact HO271.out⟩, ⟨by exact bkw_ BK261.out⟩, ⟨bla_ HB.out⟩⟩
                ·rw [if_neg c46] at H
                 exact absurd H (by simp)
       ·rw [if_neg c9] at H
        exact absurd H (by simp)
      ·rw [if_neg c8] at H
       have c8b0 : decide (x4_2 < (l0_0.length : Int)) = false := decide_eq_false c8
       clear c8
       have H' := Aside0.mk H
       clear H
       have hcz48_0 : wr.cell? ⟨gb261, 0, none⟩ = some (.slice A0_0 l0_0.length c0_0) := (blk_cell BK261.out 0).trans rfl
       have hcz48_1 : wr.cell? ⟨gb261, 1, none⟩ = some (.slice A0_1 l0_1.length c0_1) := (blk_cell BK261.out 1).trans rfl
       have hcz48_2 : wr.cell? ⟨gb261, 2, none⟩ = some (.int .i64 a0_2) := (blk_cell BK261.out 2).trans rfl
       have hfz48_0 := blk_frozen BK261.out 0
       have hfz48_1 := blk_frozen BK261.out 1
       have hfz48_2 := blk_frozen BK261.out 2
       go_wp2
       go_loopg [7] k2 (fun kq v7 w' => ∃ (x7_3 : Int), v7 = .int .i64 x7_3 ∧ Aside0 (spoolref10_Far.l1 kq x7_3 l0_0 l0_1 a0_2 = some r) ∧ Aside0 (kq ≤ k2) ∧ Aside0 (w'.heap[gb261]? = some (.cells #[(.slice A0_0 l0_0.length c0_0), (.slice A0_1 l0_1.length c0_1), .int .i64 a0_2] 25 (0, 0))) ∧ Aside0 (Below w.heap.size w w'))
       case atStart => exact ⟨(0), fib_, H', ⟨Nat.le_refl _⟩, ⟨by exact bkw_ BK261.out⟩, ⟨blg_ HB.out GE261.out⟩⟩
       case round =>
        clear H'
        try clear c1
        try clear c2
        try clear p2
        try clear q2
        try clear hx2
        try clear c3
        try clear c4
        try clear c4b0
        try clear c4b1
        try clear p6
        try clear c7
        try clear c8
        try clear c8b0
        try clear c9
        try clear c9b0
        try clear c11
        try clear c13
        try clear c15
        try clear c15b0
        try clear c16
        try clear c18
        try clear c21
        try clear c22
        try clear c22b0
        try clear c23
        try clear c23b0
        try clear c24
        try clear p26
        try clear q26
        try clear hx26
        try clear c28
        try clear c28b0
        try clear c29
        try clear c31
        try clear c33
        try clear c34
        try clear c34b0
        try clear c35
        try clear c35b0
        try clear c36
        try clear c36b0
        try clear c37
        try clear c40
        try clear c41
        try clear c45
        try clear c45b0
        try clear c46
        try clear hcz11_0
        try clear hcz11_1
        try clear hcz11_2
        try clear hcz14_0
        try clear hcz14_1
        try clear hcz14_2
        try clear hcz14_3
        try clear hcz14_4
        try clear hcz14_5
        try clear hcz17_0
        try clear hcz17_1
        try clear hcz17_2
        try clear hcz17_3
        try clear hcz17_4
        try clear hcz17_5
        try clear hcz19_0
        try clear hcz19_1
        try clear hcz19_2
        try clear hcz19_3
        try clear hcz19_4
        try clear hcz19_5
        try clear hcz25_0
        try clear hcz25_1
        try clear hcz25_2
        try clear hcz25_3
        try clear hcz25_4
        try clear hcz25_5
        try clear hcz30_0
        try clear hcz30_1
        try clear hcz30_2
        try clear hcz30_3
        try clear hcz30_4
        try clear hcz30_5
        try clear hcz32_0
        try clear hcz32_1
        try clear hcz32_2
        try clear hcz32_3
        try clear hcz32_4
        try clear hcz32_5
        try clear hcz38_0
        try clear hcz38_1
        try clear hcz38_2
        try clear hcz38_3
        try clear hcz38_4
        try clear hcz38_5
        try clear hcz42_0
        try clear hcz42_1
        try clear hcz42_2
        try clear hcz42_3
        try clear hcz42_4
        try clear hcz42_5
        try clear hcz48_0
        try clear hcz48_1
        try clear hcz48_2
        try clear hcz5_0
        try clear hcz5_1
        try clear hcz5_2
        try clear hcz6_0
        try clear hcz6_1
        try clear hcz6_2
        try clear hfz11_0
        try clear hfz11_1
        try clear hfz11_2
        try clear hfz14_0
        try clear hfz14_1
        try clear hfz14_2
        try clear hfz14_3
        try clear hfz14_4
        try clear hfz14_5
        try clear hfz17_0
        try clear hfz17_1
        try clear hfz17_2
        try clear hfz17_3
        try clear hfz17_4
        try clear hfz17_5
        try clear hfz19_0
        try clear hfz19_1
        try clear hfz19_2
        try clear hfz19_3
        try clear hfz19_4
        try clear hfz19_5
        try clear hfz25_0
        try clear hfz25_1
        try clear hfz25_2
        try clear hfz25_3
        try clear hfz25_4
        try clear hfz25_5
        try clear hfz30_0
        try clear hfz30_1
        try clear hfz30_2
        try clear hfz30_3
        try clear hfz30_4
        try clear hfz30_5
        try clear hfz32_0
        try clear hfz32_1
        try clear hfz32_2
        try clear hfz32_3
        try clear hfz32_4
        try clear hfz32_5
        try clear hfz38_0
        try clear hfz38_1
        try clear hfz38_2
        try clear hfz38_3
        try clear hfz38_4
        try clear hfz38_5
        try clear hfz42_0
        try clear hfz42_1
        try clear hfz42_2
        try clear hfz42_3
        try clear hfz42_4
        try clear hfz42_5
        try clear hfz48_0
        try clear hfz48_1
        try clear hfz48_2
        try clear hfz5_0
        try clear hfz5_1
        try clear hfz5_2
        try clear hfz6_0
        try clear hfz6_1
        try clear hfz6_2
        try clear hx262_0
        try clear hx262_1
        try clear hx262_2
        try clear hx262_3
        try clear hx262_4
        try clear hx262_5
        try clear hx264_0
        try clear hx265_0
        try clear p2
        try clear p26
        try clear p262
        try clear p264
        try clear p265
        try clear p6
        try clear q2
        try clear q26
        try clear q262
        try clear q264
        try clear q265
        obtain ⟨x7_3, rfl, HA, HK3, BK261, HB⟩ := hrel
        cases gk with
        | zero => exact absurd HA.out (by simp [spoolref10_Far.l1])
        | succ k3 =>
         have H := HA.out
         clear HA
         simp only [spoolref10_Far.l1] at H
         by_cases c49 : x7_3 < (l0_1.length : Int)
         ·rw [if_pos c49] at H
          have c49b0 : decide (x7_3 < (l0_1.length : Int)) = true := decide_eq_true c49
          clear c49
          by_cases c50 : 0 ≤ x7_3
          ·rw [if_pos c50] at H
           have c50b0 : decide (0 ≤ x7_3) = true := decide_eq_true c50
           clear c50
           by_cases c51 : ((rd_L4 l0_1 x7_3).length : Int) > 30
           ·rw [if_pos c51] at H
            have c51b0 : decide (30 < ((rd_L4 l0_1 x7_3).length : Int)) = true := decide_eq_true c51
            have c51b1 : decide (30 < (rd_L4 l0_1 x7_3).length) = true := decide_eq_true (by omega)
            clear c51
            obtain rfl := Option.some.inj H
            have hcz52_0 : wr.cell? ⟨gb261, 0, none⟩ = some (.slice A0_0 l0_0.length c0_0) := (blk_cell BK261.out 0).trans rfl
            have hcz52_1 : wr.cell? ⟨gb261, 1, none⟩ = some (.slice A0_1 l0_1.length c0_1) := (blk_cell BK261.out 1).trans rfl
            have hcz52_2 : wr.cell? ⟨gb261, 2, none⟩ = some (.int .i64 a0_2) := (blk_cell BK261.out 2).trans rfl
            have hfz52_0 := blk_frozen BK261.out 0
            have hfz52_1 := blk_frozen BK261.out 1
            have hfz52_2 := blk_frozen BK261.out 2
            have p272 : 0 ≤ (x7_3 : Int) := of_decide_eq_true asa_
            have q272 : x7_3 < (l0_1.length : Int) := of_decide_eq_true asa_
            obtain ⟨ad272, A272_0, c272_0, e272, hx272_0, hl272_0, hi272_0⟩ := at_L4 HR0_1.out x7_3 p272 q272
            cases e272
            replace hx272_0 := (HB.out.cell (World.block_lt_of_cell? w _ hx272_0)).trans hx272_0
            have HR272_0 := Aside0.mk hi272_0
            have HC272_0 := Aside0.mk hl272_0
            clear hi272_0 hl272_0
            replace p272 := eq_true p272
            replace q272 := eq_true q272
            go_wp2
            go_ret
            exact ⟨fia_, blg_ HB.out GE261.out⟩
           ·rw [if_neg c51] at H
            have c51b0 : decide (30 < ((rd_L4 l0_1 x7_3).length : Int)) = false := decide_eq_false c51
            have c51b1 : decide (30 < (rd_L4 l0_1 x7_3).length) = false := decide_eq_false (by omega)
            clear c51
            have H' := Aside0.mk H
            clear H
            have hcz53_0 : wr.cell? ⟨gb261, 0, none⟩ = some (.slice A0_0 l0_0.length c0_0) := (blk_cell BK261.out 0).trans rfl
            have hcz53_1 : wr.cell? ⟨gb261, 1, none⟩ = some (.slice A0_1 l0_1.length c0_1) := (blk_cell BK261.out 1).trans rfl
            have hcz53_2 : wr.cell? ⟨gb261, 2, none⟩ = some (.int .i64 a0_2) := (blk_cell BK261.out 2).trans rfl
            have hfz53_0 := blk_frozen BK261.out 0
            have hfz53_1 := blk_frozen BK261.out 1
            have hfz53_2 := blk_frozen BK261.out 2
            have p272 : 0 ≤ (x7_3 : Int) := of_decide_eq_true asa_
            have q272 : x7_3 < (l0_1.length : Int) := of_decide_eq_true asa_
            obtain ⟨ad272, A272_0, c272_0, e272, hx272_0, hl272_0, hi272_0⟩ := at_L4 HR0_1.out x7_3 p272 q272
            cases e272
            replace hx272_0 := (HB.out.cell (World.block_lt_of_cell? w _ hx272_0)).trans hx272_0
            have HR272_0 := Aside0.mk hi272_0
            have HC272_0 := Aside0.mk hl272_0
            clear hi272_0 hl272_0
            replace p272 := eq_true p272
            replace q272 := eq_true q272
            go_wp2
            go_roundg k3
            case measure => have := HJ1.out; have := HK2.out; have := HK3.out; omega
            case rel => exact ⟨(wrap64 (x7_3 + 1)), fib_, H', ⟨by have := HJ1.out; have := HK2.out; have := HK3.out; omega⟩, ⟨by exact bkw_ BK261.out⟩, ⟨blg_ HB.out GE261.out⟩⟩
          ·rw [if_neg c50] at H
           exact absurd H (by simp)
         ·rw [if_neg c49] at H
          have c49b0 : decide (x7_3 < (l0_1.length : Int)) = false := decide_eq_false c49
          clear c49
          obtain rfl := Option.some.inj H
          have hcz54_0 : wr.cell? ⟨gb261, 0, none⟩ = some (.slice A0_0 l0_0.length c0_0) := (blk_cell BK261.out 0).trans rfl
          have hcz54_1 : wr.cell? ⟨gb261, 1, none⟩ = some (.slice A0_1 l0_1.length c0_1) := (blk_cell BK261.out 1).trans rfl
          have hcz54_2 : wr.cell? ⟨gb261, 2, none⟩ = some (.int .i64 a0_2) := (blk_cell BK261.out 2).trans rfl
          have hfz54_0 := blk_frozen BK261.out 0
          have hfz54_1 := blk_frozen BK261.out 1
          have hfz54_2 := blk_frozen BK261.out 2
          go_wp2
          go_ret
          exact ⟨fia_, blg_ HB.out GE261.out⟩
end Go.Proofs.YtlihkebmonfefaaDoor.PG

-- WRITTEN BY A PROGRAM OF THIS SESSION (patchprint.py over the kit's print)
import Derived.Test.YtbgoaigbkfibbaaPAx0
import Derived.Test.YtbgoaigbkfibbaaPAx13
import Derived.Test.YtbgoaigbkfibbaaPAx14
namespace Go.Proofs.Ytbgoaigbkfibbaa.PA
open Go.RowKit Go.Proofs.YtbgoaigbkfibbaaW.PrintWords Go.Proofs.YtbgoaigbkfibbaaW.PrintLast Go.Proofs.YtbgoaigbkfibbaaW.PrintMore
attribute [local go_sem] max2_int min2_int max_two min_two max_three min_three max_four min_four   -- for this text's walks alone
set_option linter.unusedVariables false
set_option linter.unusedSimpArgs false

/-! ### spoolref10_Check: function 8 -/
mutual
def spoolref10_Check.j0 : Nat → Bool → List (S41) → List (List (S55)) → Int → Option (Int)
 | 0, _, _, _, _ => none
 | k + 1, x15, x306000, x306001, x306002 => if x15 = true then (some 6) else (if x306002 ≥ 0 then (spoolref10_Check.j1 k (decide (x306002 < (x306000.length : Int))) x306000 x306001 x306002) else (spoolref10_Check.j1 k false x306000 x306001 x306002))
def spoolref10_Check.j1 : Nat → Bool → List (S41) → List (List (S55)) → Int → Option (Int)
 | 0, _, _, _, _ => none
 | k + 1, x3, x306000, x306001, x306002 => spoolref10_Check.l0 k x3 0 x306000 x306001 x306002
def spoolref10_Check.l0 : Nat → Bool → Int → List (S41) → List (List (S55)) → Int → Option (Int)
 | 0, _, _, _, _, _ => none
 | k + 1, x3, x4, x306000, x306001, x306002 => if x4 < (x306001.length : Int) then (if x3 = true then (if 0 ≤ x4 then ((spoolref05_Right.f k (rd_L3 x306001 x4)).bind fun t307 => (spoolref10_Check.l0 k t307 (wrap64 (x4 + 1)) x306000 x306001 x306002)) else (none)) else (spoolref10_Check.l0 k false (wrap64 (x4 + 1)) x306000 x306001 x306002)) else (spoolref10_Check.l1 k x3 0 x306000 x306001 x306002)
def spoolref10_Check.l1 : Nat → Bool → Int → List (S41) → List (List (S55)) → Int → Option (Int)
 | 0, _, _, _, _, _ => none
 | k + 1, x3, x5, x306000, x306001, x306002 => if x5 < (x306000.length : Int) then (if x3 = true then ((spoolref10_Node.f k x306000 x306001 x306002 x5).bind fun t308 => (spoolref10_Check.l1 k t308 (wrap64 (x5 + 1)) x306000 x306001 x306002)) else (spoolref10_Check.l1 k false (wrap64 (x5 + 1)) x306000 x306001 x306002)) else (if x3 = true then (some 0) else (some 3))
end
def spoolref10_Check.f (k : Nat) (l0_0 : List (S41)) (l0_1 : List (List (S55))) (a0_2 : Int) : Option (Int) := if (l0_0.length : Int) > 4096 then (spoolref10_Check.j0 k true l0_0 l0_1 a0_2) else (spoolref10_Check.j0 k (decide ((l0_1.length : Int) > 4096)) l0_0 l0_1 a0_2)
set_option maxHeartbeats 8000000 in
set_option maxRecDepth 100000 in
theorem spoolref10_Check.calls (k : Nat) (A0_0 : Option Addr) (c0_0 : Nat) (l0_0 : List (S41)) (A0_1 : Option Addr) (c0_1 : Nat) (l0_1 : List (List (S55))) (a0_2 : Int) (r : Int) (w : World) (hr0_0 : Kd.C k41 w A0_0 l0_0.length l0_0) (hc0_0 : l0_0.length ≤ c0_0) (hr0_1 : Kd.C (Kd.slice 55 k55) w A0_1 l0_1.length l0_1) (hc0_1 : l0_1.length ≤ c0_1) (h : spoolref10_Check.f k l0_0 l0_1 a0_2 = some r) :
  Calls Try.prog 8 #[.agg #[.slice A0_0 l0_0.length c0_0, .slice A0_1 l0_1.length c0_1, .int .i64 a0_2]] w fun e w' => e = .returned (.int .i64 r) ∧ Below w.heap.size w w' := by
 have hu25 := Try.underlying25
 have HR0_0 := Aside0.mk hr0_0
 have HC0_0 := Aside0.mk hc0_0
 clear hr0_0 hc0_0
 have HR0_1 := Aside0.mk hr0_1
 have HC0_1 := Aside0.mk hc0_1
 clear hr0_1 hc0_1
 have HB := Aside0.mk (Below.refl w.heap.size w)
 have H : (if (l0_0.length : Int) > 4096 then (spoolref10_Check.j0 k true l0_0 l0_1 a0_2) else (spoolref10_Check.j0 k (decide ((l0_1.length : Int) > 4096)) l0_0 l0_1 a0_2)) = some r := h
 clear h
 have HC2 := Aside0.mk H
 clear H
 go_enter Try.func8, Try.ntmps8
 go_upto_region 1 with (first | ((with_reducible refine gate_dst (N := 1) rfl ?_); (try (refine gate_guard (by rfl) ?_; dsimp only)); refine box_event ?hg (N := 1) ?hd (cs := #[.slice A0_0 l0_0.length c0_0, .slice A0_1 l0_1.length c0_1, .int .i64 a0_2]) (t := 25) ?hr ?_; (case hd => rfl); (case hg => rfl); (case hr => first | (go_simp; done) | (go_simp; rfl)); intro gb305 hg w3 hbox hb; have n0_ := Aside0.mk (below_step (blw_ HB.out) hb); have n1_ := Aside0.mk (hbox); have n2_ := Aside0.mk ((by rw [hg]; exact (below_size (blw_ HB.out)) : w.heap.size ≤ gb305)); have n3_ := Aside0.mk ((by rw [hg]; exact (below_size (blw_ HB.out)) : w.heap.size ≤ gb305)); clear HB; have HB := n0_; have BK305 := n1_; have GW305 := n2_; have GE305 := n3_; clear n0_ n1_ n2_ n3_; clear hb hbox hg))
 (try simp only [Act.put, List.setIfInBounds_toArray, List.set_cons_zero, List.set_cons_succ])
 go_cut [15] (fun v15 wc => ∃ (kq : Nat) (x15_1 : Bool), v15 = .bool x15_1 ∧ Aside0 (spoolref10_Check.j0 kq x15_1 l0_0 l0_1 a0_2 = some r) ∧ Aside0 (kq ≤ k) ∧ Aside0 (wc.heap[gb305]? = some (.cells #[(.slice A0_0 l0_0.length c0_0), (.slice A0_1 l0_1.length c0_1), .int .i64 a0_2] 25 (0, 0))) ∧ Aside0 (Below w.heap.size w wc))
 case first =>
  have H := HC2.out
  clear HC2
  by_cases c4 : (l0_0.length : Int) > 4096
  ·rw [if_pos c4] at H
   have c4b0 : decide (4096 < (l0_0.length : Int)) = true := decide_eq_true c4
   have c4b1 : decide (4096 < l0_0.length) = true := decide_eq_true (by omega)
   clear c4
   (first | rw [c4b0] | (simp only [i64_w, i32_w]; rw [c4b0]) | skip)
   have H' := Aside0.mk H
   clear H
   have hcz5_0 : w3.cell? ⟨gb305, 0, none⟩ = some (.slice A0_0 l0_0.length c0_0) := (blk_cell BK305.out 0).trans rfl
   have hcz5_1 : w3.cell? ⟨gb305, 1, none⟩ = some (.slice A0_1 l0_1.length c0_1) := (blk_cell BK305.out 1).trans rfl
   have hcz5_2 : w3.cell? ⟨gb305, 2, none⟩ = some (.int .i64 a0_2) := (blk_cell BK305.out 2).trans rfl
   have hfz5_0 := blk_frozen BK305.out 0
   have hfz5_1 := blk_frozen BK305.out 1
   have hfz5_2 := blk_frozen BK305.out 2
   go_wp2
   go_meet
   case rel => exact ⟨_, (true), fib_, H', ⟨by first | omega | exact Nat.le_refl _⟩, ⟨by exact bkw_ BK305.out⟩, ⟨blg_ HB.out GE305.out⟩⟩
  ·rw [if_neg c4] at H
   have c4b0 : decide (4096 < (l0_0.length : Int)) = false := decide_eq_false c4
   have c4b1 : decide (4096 < l0_0.length) = false := decide_eq_false (by omega)
   clear c4
   (first | rw [c4b0] | (simp only [i64_w, i32_w]; rw [c4b0]) | skip)
   have H' := Aside0.mk H
   clear H
   have hcz6_0 : w3.cell? ⟨gb305, 0, none⟩ = some (.slice A0_0 l0_0.length c0_0) := (blk_cell BK305.out 0).trans rfl
   have hcz6_1 : w3.cell? ⟨gb305, 1, none⟩ = some (.slice A0_1 l0_1.length c0_1) := (blk_cell BK305.out 1).trans rfl
   have hcz6_2 : w3.cell? ⟨gb305, 2, none⟩ = some (.int .i64 a0_2) := (blk_cell BK305.out 2).trans rfl
   have hfz6_0 := blk_frozen BK305.out 0
   have hfz6_1 := blk_frozen BK305.out 1
   have hfz6_2 := blk_frozen BK305.out 2
   go_wp2
   go_meet
   case rel => exact ⟨_, (decide ((l0_1.length : Int) > 4096)), fib_, H', ⟨by first | omega | exact Nat.le_refl _⟩, ⟨by exact bkw_ BK305.out⟩, ⟨blg_ HB.out GE305.out⟩⟩
 case rest =>
  clear HC2
  try clear p2
  try clear c4
  try clear c4b0
  try clear c4b1
  try clear hcz5_0
  try clear hcz5_1
  try clear hcz5_2
  try clear hcz6_0
  try clear hcz6_1
  try clear hcz6_2
  try clear hfz5_0
  try clear hfz5_1
  try clear hfz5_2
  try clear hfz6_0
  try clear hfz6_1
  try clear hfz6_2
  obtain ⟨kq, x15_1, rfl, HA, HJ1, BK305, HB⟩ := hcut
  cases kq with
  | zero => exact absurd HA.out (by simp [spoolref10_Check.j0])
  | succ kj1 =>
   have H := HA.out
   clear HA
   simp only [spoolref10_Check.j0] at H
   by_cases c7 : x15_1 = true
   ·subst c7
    have H1 : (some 6) = some r := by rw [if_pos rfl] at H; exact H
    clear H
    have H := H1
    clear H1
    obtain rfl := Option.some.inj H
    go_wp2
    go_ret
    exact ⟨fia_, blg_ HB.out GE305.out⟩
   ·replace c7 := Bool.eq_false_iff.mpr c7
    subst c7
    have H1 : (if a0_2 ≥ 0 then (spoolref10_Check.j1 kj1 (decide (a0_2 < (l0_0.length : Int))) l0_0 l0_1 a0_2) else (spoolref10_Check.j1 kj1 false l0_0 l0_1 a0_2)) = some r := by rw [if_neg (show ¬ (false = true) by decide)] at H; exact H
    clear H
    have H := H1
    clear H1
    have HC8 := Aside0.mk H
    clear H
    go_upto_region 3 with (fail)
    go_cut [3] (fun v3 wc => ∃ (kq : Nat) (x3_7 : Bool), v3 = .bool x3_7 ∧ Aside0 (spoolref10_Check.j1 kq x3_7 l0_0 l0_1 a0_2 = some r) ∧ Aside0 (kq ≤ kj1) ∧ Aside0 (wc.heap[gb305]? = some (.cells #[(.slice A0_0 l0_0.length c0_0), (.slice A0_1 l0_1.length c0_1), .int .i64 a0_2] 25 (0, 0))) ∧ Aside0 (Below w.heap.size w wc))
    case first =>
     have H := HC8.out
     clear HC8
     by_cases c9 : a0_2 ≥ 0
     ·rw [if_pos c9] at H
      have c9b0 : decide (0 ≤ a0_2) = true := decide_eq_true c9
      clear c9
      (first | rw [c9b0] | (simp only [i64_w, i32_w]; rw [c9b0]) | skip)
      have H' := Aside0.mk H
      clear H
      have hcz10_0 : wc.cell? ⟨gb305, 0, none⟩ = some (.slice A0_0 l0_0.length c0_0) := (blk_cell BK305.out 0).trans rfl
      have hcz10_1 : wc.cell? ⟨gb305, 1, none⟩ = some (.slice A0_1 l0_1.length c0_1) := (blk_cell BK305.out 1).trans rfl
      have hcz10_2 : wc.cell? ⟨gb305, 2, none⟩ = some (.int .i64 a0_2) := (blk_cell BK305.out 2).trans rfl
      have hfz10_0 := blk_frozen BK305.out 0
      have hfz10_1 := blk_frozen BK305.out 1
      have hfz10_2 := blk_frozen BK305.out 2
      go_wp2
      go_meet
      case rel => exact ⟨_, (decide (a0_2 < (l0_0.length : Int))), fib_, H', ⟨by have := HJ1.out; first | omega | exact Nat.le_refl _⟩, ⟨by exact bkw_ BK305.out⟩, ⟨blg_ HB.out GE305.out⟩⟩
     ·rw [if_neg c9] at H
      have c9b0 : decide (0 ≤ a0_2) = false := decide_eq_false c9
      clear c9
      (first | rw [c9b0] | (simp only [i64_w, i32_w]; rw [c9b0]) | skip)
      have H' := Aside0.mk H
      clear H
      have hcz11_0 : wc.cell? ⟨gb305, 0, none⟩ = some (.slice A0_0 l0_0.length c0_0) := (blk_cell BK305.out 0).trans rfl
      have hcz11_1 : wc.cell? ⟨gb305, 1, none⟩ = some (.slice A0_1 l0_1.length c0_1) := (blk_cell BK305.out 1).trans rfl
      have hcz11_2 : wc.cell? ⟨gb305, 2, none⟩ = some (.int .i64 a0_2) := (blk_cell BK305.out 2).trans rfl
      have hfz11_0 := blk_frozen BK305.out 0
      have hfz11_1 := blk_frozen BK305.out 1
      have hfz11_2 := blk_frozen BK305.out 2
      go_wp2
      go_meet
      case rel => exact ⟨_, (false), fib_, H', ⟨by have := HJ1.out; first | omega | exact Nat.le_refl _⟩, ⟨by exact bkw_ BK305.out⟩, ⟨blg_ HB.out GE305.out⟩⟩
    case rest =>
     clear HC8
     try clear p2
     try clear c4
     try clear c4b0
     try clear c4b1
     try clear c7
     try clear c8
     try clear c9
     try clear c9b0
     try clear hcz10_0
     try clear hcz10_1
     try clear hcz10_2
     try clear hcz11_0
     try clear hcz11_1
     try clear hcz11_2
     try clear hcz5_0
     try clear hcz5_1
     try clear hcz5_2
     try clear hcz6_0
     try clear hcz6_1
     try clear hcz6_2
     try clear hfz10_0
     try clear hfz10_1
     try clear hfz10_2
     try clear hfz11_0
     try clear hfz11_1
     try clear hfz11_2
     try clear hfz5_0
     try clear hfz5_1
     try clear hfz5_2
     try clear hfz6_0
     try clear hfz6_1
     try clear hfz6_2
     try clear p2
     obtain ⟨kq, x3_7, rfl, HA, HJ7, BK305, HB⟩ := hcut
     cases kq with
     | zero => exact absurd HA.out (by simp [spoolref10_Check.j1])
     | succ kj7 =>
      have H := HA.out
      clear HA
      simp only [spoolref10_Check.j1] at H
      have H' := Aside0.mk H
      clear H
      go_wp2
      go_loopg [3, 4] kj7 (fun kq v3 v4 w' => ∃ (x3_3 : Bool) (x4_3 : Int), v3 = .bool x3_3 ∧ v4 = .int .i64 x4_3 ∧ Aside0 (spoolref10_Check.l0 kq x3_3 x4_3 l0_0 l0_1 a0_2 = some r) ∧ Aside0 (kq ≤ kj7) ∧ Aside0 (w'.heap[gb305]? = some (.cells #[(.slice A0_0 l0_0.length c0_0), (.slice A0_1 l0_1.length c0_1), .int .i64 a0_2] 25 (0, 0))) ∧ Aside0 (Below w.heap.size w w'))
      case atStart => exact ⟨(x3_7), (0), fib_, fib_, H', ⟨Nat.le_refl _⟩, ⟨by exact bkw_ BK305.out⟩, ⟨blg_ HB.out GE305.out⟩⟩
      case round =>
       clear H'
       try clear p2
       try clear c4
       try clear c4b0
       try clear c4b1
       try clear c7
       try clear c8
       try clear c9
       try clear c9b0
       try clear hcz10_0
       try clear hcz10_1
       try clear hcz10_2
       try clear hcz11_0
       try clear hcz11_1
       try clear hcz11_2
       try clear hcz5_0
       try clear hcz5_1
       try clear hcz5_2
       try clear hcz6_0
       try clear hcz6_1
       try clear hcz6_2
       try clear hfz10_0
       try clear hfz10_1
       try clear hfz10_2
       try clear hfz11_0
       try clear hfz11_1
       try clear hfz11_2
       try clear hfz5_0
       try clear hfz5_1
       try clear hfz5_2
       try clear hfz6_0
       try clear hfz6_1
       try clear hfz6_2
       try clear p2
       obtain ⟨x3_3, x4_3, rfl, rfl, HA, HK3, BK305, HB⟩ := hrel
       cases gk with
       | zero => exact absurd HA.out (by simp [spoolref10_Check.l0])
       | succ k3 =>
        have H := HA.out
        clear HA
        simp only [spoolref10_Check.l0] at H
        by_cases c12 : x4_3 < (l0_1.length : Int)
        ·rw [if_pos c12] at H
         have c12b0 : decide (x4_3 < (l0_1.length : Int)) = true := decide_eq_true c12
         clear c12
         by_cases c13 : x3_3 = true
         ·subst c13
          have H1 : (if 0 ≤ x4_3 then ((spoolref05_Right.f k3 (rd_L3 l0_1 x4_3)).bind fun t307 => (spoolref10_Check.l0 k3 t307 (wrap64 (x4_3 + 1)) l0_0 l0_1 a0_2)) else (none)) = some r := by rw [if_pos rfl] at H; exact H
          clear H
          have H := H1
          clear H1
          by_cases c14 : 0 ≤ x4_3
          ·rw [if_pos c14] at H
           have c14b0 : decide (0 ≤ x4_3) = true := decide_eq_true c14
           clear c14
           replace H := Option.bind_eq_some_iff.mp H
           obtain ⟨t307, A150, H⟩ := H
           replace H : (spoolref10_Check.l0 k3 t307 (wrap64 (x4_3 + 1)) l0_0 l0_1 a0_2) = some r := H
           have A15 := Aside0.mk A150
           clear A150
           have H' := Aside0.mk H
           clear H
           have hcz16_0 : wr.cell? ⟨gb305, 0, none⟩ = some (.slice A0_0 l0_0.length c0_0) := (blk_cell BK305.out 0).trans rfl
           have hcz16_1 : wr.cell? ⟨gb305, 1, none⟩ = some (.slice A0_1 l0_1.length c0_1) := (blk_cell BK305.out 1).trans rfl
           have hcz16_2 : wr.cell? ⟨gb305, 2, none⟩ = some (.int .i64 a0_2) := (blk_cell BK305.out 2).trans rfl
           have hfz16_0 := blk_frozen BK305.out 0
           have hfz16_1 := blk_frozen BK305.out 1
           have hfz16_2 := blk_frozen BK305.out 2
           have p306 : 0 ≤ (x4_3 : Int) := of_decide_eq_true asa_
           have q306 : x4_3 < (l0_1.length : Int) := of_decide_eq_true asa_
           obtain ⟨ad306, A306_0, c306_0, e306, hx306_0, hl306_0, hi306_0⟩ := at_L3 HR0_1.out x4_3 p306 q306
           cases e306
           replace hx306_0 := (HB.out.cell (World.block_lt_of_cell? w _ hx306_0)).trans hx306_0
           have HR306_0 := Aside0.mk hi306_0
           have HC306_0 := Aside0.mk hl306_0
           clear hi306_0 hl306_0
           replace p306 := eq_true p306
           replace q306 := eq_true q306
           go_wp2_with (first | (go_at_call 28; (with_reducible refine (spoolref05_Right.calls k3 _ _ (rd_L3 l0_1 x4_3) t307 _ ?side1 ?side2 A15.out).mono ?_); (case side1 => repeat (first | exact (Kd.C_below HR306_0.out HB.out) | (with_reducible refine Kd.C_alloc ?_ _) | (with_reducible refine Kd.C_drewN ?_ _) | (with_reducible refine Kd.C_drew ?_))); (case side2 => exact HC306_0.out); rintro e w17 ⟨rfl, hb⟩; have n0_ := Aside0.mk (blk_below (g := gb305) (o := .cells #[.slice A0_0 l0_0.length c0_0, .slice (some ad306) l0_1.length c0_1, .int .i64 a0_2] 25 (0, 0)) (by exact bkw_ BK305.out) hb); have n1_ := Aside0.mk (below_step (blg_ HB.out GE305.out) hb); clear BK305; clear HB; have BK305 := n0_; have HB := n1_; clear n0_ n1_; (try clear hb); (try clear hb2); (try clear hk); (try clear hi)))
           go_roundg k3
           case measure => have := HJ1.out; have := HJ7.out; have := HK3.out; omega
           case rel => exact ⟨(t307), (wrap64 (x4_3 + 1)), fib_, fib_, H', ⟨by have := HJ1.out; have := HJ7.out; have := HK3.out; omega⟩, ⟨by exact bkw_ BK305.out⟩, ⟨blg_ HB.out GE305.out⟩⟩
          ·rw [if_neg c14] at H
           exact absurd H (by simp)
         ·replace c13 := Bool.eq_false_iff.mpr c13
          subst c13
          have H1 : (spoolref10_Check.l0 k3 false (wrap64 (x4_3 + 1)) l0_0 l0_1 a0_2) = some r := by rw [if_neg (show ¬ (false = true) by decide)] at H; exact H
          clear H
          have H := H1
          clear H1
          have H' := Aside0.mk H
          clear H
          have hcz18_0 : wr.cell? ⟨gb305, 0, none⟩ = some (.slice A0_0 l0_0.length c0_0) := (blk_cell BK305.out 0).trans rfl
          have hcz18_1 : wr.cell? ⟨gb305, 1, none⟩ = some (.slice A0_1 l0_1.length c0_1) := (blk_cell BK305.out 1).trans rfl
          have hcz18_2 : wr.cell? ⟨gb305, 2, none⟩ = some (.int .i64 a0_2) := (blk_cell BK305.out 2).trans rfl
          have hfz18_0 := blk_frozen BK305.out 0
          have hfz18_1 := blk_frozen BK305.out 1
          have hfz18_2 := blk_frozen BK305.out 2
          go_wp2
          go_roundg k3
          case measure => have := HJ1.out; have := HJ7.out; have := HK3.out; omega
          case rel => exact ⟨(false), (wrap64 (x4_3 + 1)), fib_, fib_, H', ⟨by have := HJ1.out; have := HJ7.out; have := HK3.out; omega⟩, ⟨by exact bkw_ BK305.out⟩, ⟨blg_ HB.out GE305.out⟩⟩
        ·rw [if_neg c12] at H
         have c12b0 : decide (x4_3 < (l0_1.length : Int)) = false := decide_eq_false c12
         clear c12
         have H' := Aside0.mk H
         clear H
         have hcz19_0 : wr.cell? ⟨gb305, 0, none⟩ = some (.slice A0_0 l0_0.length c0_0) := (blk_cell BK305.out 0).trans rfl
         have hcz19_1 : wr.cell? ⟨gb305, 1, none⟩ = some (.slice A0_1 l0_1.length c0_1) := (blk_cell BK305.out 1).trans rfl
         have hcz19_2 : wr.cell? ⟨gb305, 2, none⟩ = some (.int .i64 a0_2) := (blk_cell BK305.out 2).trans rfl
         have hfz19_0 := blk_frozen BK305.out 0
         have hfz19_1 := blk_frozen BK305.out 1
         have hfz19_2 := blk_frozen BK305.out 2
         go_wp2
         go_loopg [3, 5] k3 (fun kq v3 v5 w' => ∃ (x3_4 : Bool) (x5_4 : Int), v3 = .bool x3_4 ∧ v5 = .int .i64 x5_4 ∧ Aside0 (spoolref10_Check.l1 kq x3_4 x5_4 l0_0 l0_1 a0_2 = some r) ∧ Aside0 (kq ≤ k3) ∧ Aside0 (w'.heap[gb305]? = some (.cells #[(.slice A0_0 l0_0.length c0_0), (.slice A0_1 l0_1.length c0_1), .int .i64 a0_2] 25 (0, 0))) ∧ Aside0 (Below w.heap.size w w'))
         case atStart => exact ⟨(x3_3), (0), fib_, fib_, H', ⟨Nat.le_refl _⟩, ⟨by exact bkw_ BK305.out⟩, ⟨blg_ HB.out GE305.out⟩⟩
         case round =>
          clear H'
          try clear c1
          try clear p2
          try clear c3
          try clear p3
          try clear q3
          try clear hx3
          try clear c4
          try clear c4b0
          try clear c4b1
          try clear p6
          try clear c7
          try clear c8
          try clear c9
          try clear c9b0
          try clear c12
          try clear c12b0
          try clear c13
          try clear c14
          try clear c14b0
          try clear hcz10_0
          try clear hcz10_1
          try clear hcz10_2
          try clear hcz11_0
          try clear hcz11_1
          try clear hcz11_2
          try clear hcz16_0
          try clear hcz16_1
          try clear hcz16_2
          try clear hcz18_0
          try clear hcz18_1
          try clear hcz18_2
          try clear hcz19_0
          try clear hcz19_1
          try clear hcz19_2
          try clear hcz5_0
          try clear hcz5_1
          try clear hcz5_2
          try clear hcz6_0
          try clear hcz6_1
          try clear hcz6_2
          try clear hfz10_0
          try clear hfz10_1
          try clear hfz10_2
          try clear hfz11_0
          try clear hfz11_1
          try clear hfz11_2
          try clear hfz16_0
          try clear hfz16_1
          try clear hfz16_2
          try clear hfz18_0
          try clear hfz18_1
          try clear hfz18_2
          try clear hfz19_0
          try clear hfz19_1
          try clear hfz19_2
          try clear hfz5_0
          try clear hfz5_1
          try clear hfz5_2
          try clear hfz6_0
          try clear hfz6_1
          try clear hfz6_2
          try clear hx306_0
          try clear p2
          try clear p306
          try clear q306
          obtain ⟨x3_4, x5_4, rfl, rfl, HA, HK4, BK305, HB⟩ := hrel
          cases gk with
          | zero => exact absurd HA.out (by simp [spoolref10_Check.l1])
          | succ k4 =>
           have H := HA.out
           clear HA
           simp only [spoolref10_Check.l1] at H
           by_cases c20 : x5_4 < (l0_0.length : Int)
           ·rw [if_pos c20] at H
            have c20b0 : decide (x5_4 < (l0_0.length : Int)) = true := decide_eq_true c20
            clear c20
            by_cases c21 : x3_4 = true
            ·subst c21
             have H1 : ((spoolref10_Node.f k4 l0_0 l0_1 a0_2 x5_4).bind fun t308 => (spoolref10_Check.l1 k4 t308 (wrap64 (x5_4 + 1)) l0_0 l0_1 a0_2)) = some r := by rw [if_pos rfl] at H; exact H
             clear H
             have H := H1
             clear H1
             replace H := Option.bind_eq_some_iff.mp H
             obtain ⟨t308, A220, H⟩ := H
             replace H : (spoolref10_Check.l1 k4 t308 (wrap64 (x5_4 + 1)) l0_0 l0_1 a0_2) = some r := H
             have A22 := Aside0.mk A220
             clear A220
             have H' := Aside0.mk H
             clear H
             have hcz23_0 : wr.cell? ⟨gb305, 0, none⟩ = some (.slice A0_0 l0_0.length c0_0) := (blk_cell BK305.out 0).trans rfl
             have hcz23_1 : wr.cell? ⟨gb305, 1, none⟩ = some (.slice A0_1 l0_1.length c0_1) := (blk_cell BK305.out 1).trans rfl
             have hcz23_2 : wr.cell? ⟨gb305, 2, none⟩ = some (.int .i64 a0_2) := (blk_cell BK305.out 2).trans rfl
             have hfz23_0 := blk_frozen BK305.out 0
             have hfz23_1 := blk_frozen BK305.out 1
             have hfz23_2 := blk_frozen BK305.out 2
             go_wp2_with (first | (go_at_call 29; (with_reducible refine (spoolref10_Node.calls k4 _ _ l0_0 _ _ l0_1 a0_2 x5_4 t308 _ ?side1 ?side2 ?side3 ?side4 A22.out).mono ?_); (case side1 => repeat (first | exact (Kd.C_below HR0_0.out HB.out) | (with_reducible refine Kd.C_alloc ?_ _) | (with_reducible refine Kd.C_drewN ?_ _) | (with_reducible refine Kd.C_drew ?_))); (case side2 => exact HC0_0.out); (case side3 => repeat (first | exact (Kd.C_below HR0_1.out HB.out) | (with_reducible refine Kd.C_alloc ?_ _) | (with_reducible refine Kd.C_drewN ?_ _) | (with_reducible refine Kd.C_drew ?_))); (case side4 => exact HC0_1.out); rintro e w24 ⟨rfl, hb⟩; have n0_ := Aside0.mk (blk_below (g := gb305) (o := .cells #[.slice A0_0 l0_0.length c0_0, .slice A0_1 l0_1.length c0_1, .int .i64 a0_2] 25 (0, 0)) (by exact bkw_ BK305.out) hb); have n1_ := Aside0.mk (below_step (blg_ HB.out GE305.out) hb); clear BK305; clear HB; have BK305 := n0_; have HB := n1_; clear n0_ n1_; (try clear hb); (try clear hb2); (try clear hk); (try clear hi)))
             go_roundg k4
             case measure => have := HJ1.out; have := HJ7.out; have := HK3.out; have := HK4.out; omega
             case rel => exact ⟨(t308), (wrap64 (x5_4 + 1)), fib_, fib_, H', ⟨by have := HJ1.out; have := HJ7.out; have := HK3.out; have := HK4.out; omega⟩, ⟨by exact bkw_ BK305.out⟩, ⟨blg_ HB.out GE305.out⟩⟩
            ·replace c21 := Bool.eq_false_iff.mpr c21
             subst c21
             have H1 : (spoolref10_Check.l1 k4 false (wrap64 (x5_4 + 1)) l0_0 l0_1 a0_2) = some r := by rw [if_neg (show ¬ (false = true) by decide)] at H; exact H
             clear H
             have H := H1
             clear H1
             have H' := Aside0.mk H
             clear H
             have hcz25_0 : wr.cell? ⟨gb305, 0, none⟩ = some (.slice A0_0 l0_0.length c0_0) := (blk_cell BK305.out 0).trans rfl
             have hcz25_1 : wr.cell? ⟨gb305, 1, none⟩ = some (.slice A0_1 l0_1.length c0_1) := (blk_cell BK305.out 1).trans rfl
             have hcz25_2 : wr.cell? ⟨gb305, 2, none⟩ = some (.int .i64 a0_2) := (blk_cell BK305.out 2).trans rfl
             have hfz25_0 := blk_frozen BK305.out 0
             have hfz25_1 := blk_frozen BK305.out 1
             have hfz25_2 := blk_frozen BK305.out 2
             go_wp2
             go_roundg k4
             case measure => have := HJ1.out; have := HJ7.out; have := HK3.out; have := HK4.out; omega
             case rel => exact ⟨(false), (wrap64 (x5_4 + 1)), fib_, fib_, H', ⟨by have := HJ1.out; have := HJ7.out; have := HK3.out; have := HK4.out; omega⟩, ⟨by exact bkw_ BK305.out⟩, ⟨blg_ HB.out GE305.out⟩⟩
           ·rw [if_neg c20] at H
            have c20b0 : decide (x5_4 < (l0_0.length : Int)) = false := decide_eq_false c20
            clear c20
            by_cases c26 : x3_4 = true
            ·subst c26
             have H1 : (some 0) = some r := by rw [if_pos rfl] at H; exact H
             clear H
             have H := H1
             clear H1
             obtain rfl := Option.some.inj H
             have hcz27_0 : wr.cell? ⟨gb305, 0, none⟩ = some (.slice A0_0 l0_0.length c0_0) := (blk_cell BK305.out 0).trans rfl
             have hcz27_1 : wr.cell? ⟨gb305, 1, none⟩ = some (.slice A0_1 l0_1.length c0_1) := (blk_cell BK305.out 1).trans rfl
             have hcz27_2 : wr.cell? ⟨gb305, 2, none⟩ = some (.int .i64 a0_2) := (blk_cell BK305.out 2).trans rfl
             have hfz27_0 := blk_frozen BK305.out 0
             have hfz27_1 := blk_frozen BK305.out 1
             have hfz27_2 := blk_frozen BK305.out 2
             go_wp2
             go_ret
             exact ⟨fia_, blg_ HB.out GE305.out⟩
            ·replace c26 := Bool.eq_false_iff.mpr c26
             subst c26
             have H1 : (some 3) = some r := by rw [if_neg (show ¬ (false = true) by decide)] at H; exact H
             clear H
             have H := H1
             clear H1
             obtain rfl := Option.some.inj H
             have hcz28_0 : wr.cell? ⟨gb305, 0, none⟩ = some (.slice A0_0 l0_0.length c0_0) := (blk_cell BK305.out 0).trans rfl
             have hcz28_1 : wr.cell? ⟨gb305, 1, none⟩ = some (.slice A0_1 l0_1.length c0_1) := (blk_cell BK305.out 1).trans rfl
             have hcz28_2 : wr.cell? ⟨gb305, 2, none⟩ = some (.int .i64 a0_2) := (blk_cell BK305.out 2).trans rfl
             have hfz28_0 := blk_frozen BK305.out 0
             have hfz28_1 := blk_frozen BK305.out 1
             have hfz28_2 := blk_frozen BK305.out 2
             go_wp2
             go_ret
             exact ⟨fia_, blg_ HB.out GE305.out⟩

-- BY HAND: function 13 (spoolref10_Same)

/-! ### spoolref10_Depth: function 14 -/
mutual
def spoolref10_Depth.j0 : Nat → Int → Bool → List (S41) → List (List (S55)) → Int → Int → Int → Int → Int → Int → Int → Option (Int)
 | 0, _, _, _, _, _, _, _, _, _, _, _ => none
 | k + 1, x14, x15, x310000, x310001, x310002, x312000, x312001, x312002, x312003, x312004, x312005 => if x15 = true then ((spoolref10_Depth.f k x310000 x310001 x310002 x312001).bind fun t312 => ((spoolref10_Depth.f k x310000 x310001 x310002 x312002).bind fun t313 => (if t312 < t313 then (some (wrap64 (t313 + 1))) else (some (wrap64 (t312 + 1)))))) else (if x14 = 5 then ((spoolref10_Depth.f k x310000 x310001 x310002 x312001).bind fun t314 => (some (wrap64 (t314 + 1)))) else (some 1))
def spoolref10_Depth.f : Nat → List (S41) → List (List (S55)) → Int → Int → Option (Int)
 | 0, _, _, _, _ => none
 | k + 1, l0_0, l0_1, a0_2, a1 => if 0 ≤ a1 then (if a1 < (l0_0.length : Int) then (if ((rd_T41 l0_0 a1).f0) = 3 then (spoolref10_Depth.j0 k ((rd_T41 l0_0 a1).f0) (((rd_T41 l0_0 a1).f0) == 3) l0_0 l0_1 a0_2 ((rd_T41 l0_0 a1).f0) ((rd_T41 l0_0 a1).f1) ((rd_T41 l0_0 a1).f2) ((rd_T41 l0_0 a1).f3) ((rd_T41 l0_0 a1).f4) ((rd_T41 l0_0 a1).f5)) else (spoolref10_Depth.j0 k ((rd_T41 l0_0 a1).f0) (((rd_T41 l0_0 a1).f0) == 4) l0_0 l0_1 a0_2 ((rd_T41 l0_0 a1).f0) ((rd_T41 l0_0 a1).f1) ((rd_T41 l0_0 a1).f2) ((rd_T41 l0_0 a1).f3) ((rd_T41 l0_0 a1).f4) ((rd_T41 l0_0 a1).f5))) else (none)) else (none)
end
set_option maxHeartbeats 8000000 in
set_option maxRecDepth 100000 in
theorem spoolref10_Depth.calls (k : Nat) : ∀ (A0_0 : Option Addr) (c0_0 : Nat) (l0_0 : List (S41)) (A0_1 : Option Addr) (c0_1 : Nat) (l0_1 : List (List (S55))) (a0_2 : Int) (a1 : Int) (r : Int) (w : World) (hr0_0 : Kd.C k41 w A0_0 l0_0.length l0_0) (hc0_0 : l0_0.length ≤ c0_0) (hr0_1 : Kd.C (Kd.slice 55 k55) w A0_1 l0_1.length l0_1) (hc0_1 : l0_1.length ≤ c0_1) (h : spoolref10_Depth.f k l0_0 l0_1 a0_2 a1 = some r),
  Calls Try.prog 14 #[.agg #[.slice A0_0 l0_0.length c0_0, .slice A0_1 l0_1.length c0_1, .int .i64 a0_2], .int .i64 a1] w fun e w' => e = .returned (.int .i64 r) ∧ Below w.heap.size w w' := by
 induction k using Nat.strongRecOn with
 | _ k ih =>
 intro A0_0 c0_0 l0_0 A0_1 c0_1 l0_1 a0_2 a1 r w hr0_0 hc0_0 hr0_1 hc0_1 h
 cases k with
 | zero => exact absurd h (by simp [spoolref10_Depth.f])
 | succ k =>
 simp only [spoolref10_Depth.f] at h
 have hu25 := Try.underlying25
 have hu41 := Try.underlying41
 have HR0_0 := Aside0.mk hr0_0
 have HC0_0 := Aside0.mk hc0_0
 clear hr0_0 hc0_0
 have HR0_1 := Aside0.mk hr0_1
 have HC0_1 := Aside0.mk hc0_1
 clear hr0_1 hc0_1
 have HB := Aside0.mk (Below.refl w.heap.size w)
 have H : (if 0 ≤ a1 then (if a1 < (l0_0.length : Int) then (if ((rd_T41 l0_0 a1).f0) = 3 then (spoolref10_Depth.j0 k ((rd_T41 l0_0 a1).f0) (((rd_T41 l0_0 a1).f0) == 3) l0_0 l0_1 a0_2 ((rd_T41 l0_0 a1).f0) ((rd_T41 l0_0 a1).f1) ((rd_T41 l0_0 a1).f2) ((rd_T41 l0_0 a1).f3) ((rd_T41 l0_0 a1).f4) ((rd_T41 l0_0 a1).f5)) else (spoolref10_Depth.j0 k ((rd_T41 l0_0 a1).f0) (((rd_T41 l0_0 a1).f0) == 4) l0_0 l0_1 a0_2 ((rd_T41 l0_0 a1).f0) ((rd_T41 l0_0 a1).f1) ((rd_T41 l0_0 a1).f2) ((rd_T41 l0_0 a1).f3) ((rd_T41 l0_0 a1).f4) ((rd_T41 l0_0 a1).f5))) else (none)) else (none)) = some r := h
 clear h
 by_cases c3 : 0 ≤ a1
 ·rw [if_pos c3] at H
  have c3b0 : decide (0 ≤ a1) = true := decide_eq_true c3
  clear c3
  by_cases c4 : a1 < (l0_0.length : Int)
  ·rw [if_pos c4] at H
   have c4b0 : decide (a1 < (l0_0.length : Int)) = true := decide_eq_true c4
   clear c4
   have HC5 := Aside0.mk H
   clear H
   go_enter Try.func14, Try.ntmps14
   go_upto_if 15 with (first | ((with_reducible refine gate_dst (N := 2) rfl ?_); refine box_event ?hg (N := 2) ?hd (cs := #[.slice A0_0 l0_0.length c0_0, .slice A0_1 l0_1.length c0_1, .int .i64 a0_2]) (t := 25) ?hr ?_; (case hd => rfl); (case hg => rfl); (case hr => first | (go_simp; done) | (go_simp; rfl)); intro gb309 hg w6 hbox hb; have n0_ := Aside0.mk (below_step (blw_ HB.out) hb); have n1_ := Aside0.mk (hbox); have n2_ := Aside0.mk ((by rw [hg]; exact (below_size (blw_ HB.out)) : w.heap.size ≤ gb309)); have n3_ := Aside0.mk ((by rw [hg]; exact (below_size (blw_ HB.out)) : w.heap.size ≤ gb309)); clear HB; have HB := n0_; have BK309 := n1_; have GW309 := n2_; have GE309 := n3_; clear n0_ n1_ n2_ n3_; clear hb hbox hg; have hcz7_0 : w6.cell? ⟨gb309, 0, none⟩ = some (.slice A0_0 l0_0.length c0_0) := (blk_cell BK309.out 0).trans rfl; have hcz7_1 : w6.cell? ⟨gb309, 1, none⟩ = some (.slice A0_1 l0_1.length c0_1) := (blk_cell BK309.out 1).trans rfl; have hcz7_2 : w6.cell? ⟨gb309, 2, none⟩ = some (.int .i64 a0_2) := (blk_cell BK309.out 2).trans rfl; have hfz7_0 := blk_frozen BK309.out 0; have hfz7_1 := blk_frozen BK309.out 1; have hfz7_2 := blk_frozen BK309.out 2; have p310 : 0 ≤ (a1 : Int) := of_decide_eq_true asa_; have q310 : a1 < (l0_0.length : Int) := of_decide_eq_true asa_; obtain ⟨ad310, e310, hx310_0, hx310_1, hx310_2, hx310_3, hx310_4, hx310_5⟩ := at_T41 HR0_0.out a1 p310 q310; cases e310; replace hx310_0 := (HB.out.cell (World.block_lt_of_cell? w _ hx310_0)).trans hx310_0; replace hx310_1 := (HB.out.cell (World.block_lt_of_cell? w _ hx310_1)).trans hx310_1; replace hx310_2 := (HB.out.cell (World.block_lt_of_cell? w _ hx310_2)).trans hx310_2; replace hx310_3 := (HB.out.cell (World.block_lt_of_cell? w _ hx310_3)).trans hx310_3; replace hx310_4 := (HB.out.cell (World.block_lt_of_cell? w _ hx310_4)).trans hx310_4; replace hx310_5 := (HB.out.cell (World.block_lt_of_cell? w _ hx310_5)).trans hx310_5; replace p310 := eq_true p310; replace q310 := eq_true q310) | ((with_reducible refine gate_dst (N := 5) rfl ?_); refine box_event ?hg (N := 5) ?hd (cs := #[.int .i64 0, .int .i64 0, .int .i64 0, .int .i64 0, .int .i64 0, .int .i64 0]) (t := 41) ?hr ?_; (case hd => rfl); (case hg => rfl); (case hr => first | (go_simp; done) | (go_simp; rfl)); intro gb311 hg w8 hbox hb; have n0_ := Aside0.mk (blk_below (g := gb309) (o := .cells #[.slice (some ad310) l0_0.length c0_0, .slice A0_1 l0_1.length c0_1, .int .i64 a0_2] 25 (0, 0)) (by exact bkw_ BK309.out) hb); have n1_ := Aside0.mk (below_step (blg_ HB.out GE309.out) hb); have n2_ := Aside0.mk (hbox); have n3_ := Aside0.mk ((by rw [hg]; exact (below_size (blg_ HB.out GE309.out)) : w.heap.size ≤ gb311)); have n4_ := Aside0.mk ((by rw [hg]; exact (below_size (blg_ HB.out GE309.out)) : w.heap.size ≤ gb311)); have n5_ := Aside0.mk ((by rw [hg]; exact Nat.ne_of_lt (blk_lt (g := gb309) (o := .cells #[.slice (some ad310) l0_0.length c0_0, .slice A0_1 l0_1.length c0_1, .int .i64 a0_2] 25 (0, 0)) (by exact bkw_ BK309.out)) : gb309 ≠ gb311)); have n6_ := Aside0.mk ((by rw [hg]; exact Nat.ne_of_gt (blk_lt (g := gb309) (o := .cells #[.slice (some ad310) l0_0.length c0_0, .slice A0_1 l0_1.length c0_1, .int .i64 a0_2] 25 (0, 0)) (by exact bkw_ BK309.out)) : gb311 ≠ gb309)); clear BK309; clear HB; have BK309 := n0_; have HB := n1_; have BK311 := n2_; have GW311 := n3_; have GE311 := n4_; have NB309_311 := n5_; have NB311_309 := n6_; clear n0_ n1_ n2_ n3_ n4_ n5_ n6_; clear hb hbox hg; have hnb9 := NB311_309.out; have hnc9 := NB309_311.out; have hcz10_0 : w8.cell? ⟨gb311, 0, none⟩ = some (.int .i64 0) := (blk_cell BK311.out 0).trans rfl; have hcz10_1 : w8.cell? ⟨gb311, 1, none⟩ = some (.int .i64 0) := (blk_cell BK311.out 1).trans rfl; have hcz10_2 : w8.cell? ⟨gb311, 2, none⟩ = some (.int .i64 0) := (blk_cell BK311.out 2).trans rfl; have hcz10_3 : w8.cell? ⟨gb311, 3, none⟩ = some (.int .i64 0) := (blk_cell BK311.out 3).trans rfl; have hcz10_4 : w8.cell? ⟨gb311, 4, none⟩ = some (.int .i64 0) := (blk_cell BK311.out 4).trans rfl; have hcz10_5 : w8.cell? ⟨gb311, 5, none⟩ = some (.int .i64 0) := (blk_cell BK311.out 5).trans rfl; have hfz10_0 := blk_frozen BK311.out 0; have hfz10_1 := blk_frozen BK311.out 1; have hfz10_2 := blk_frozen BK311.out 2; have hfz10_3 := blk_frozen BK311.out 3; have hfz10_4 := blk_frozen BK311.out 4; have hfz10_5 := blk_frozen BK311.out 5))
   (try simp only [Act.put, List.setIfInBounds_toArray, List.set_cons_zero, List.set_cons_succ])
   go_cut [15] (fun v15 wc => ∃ (kq : Nat) (x15_4 : Bool), v15 = .bool x15_4 ∧ Aside0 (spoolref10_Depth.j0 kq ((rd_T41 l0_0 a1).f0) x15_4 l0_0 l0_1 a0_2 ((rd_T41 l0_0 a1).f0) ((rd_T41 l0_0 a1).f1) ((rd_T41 l0_0 a1).f2) ((rd_T41 l0_0 a1).f3) ((rd_T41 l0_0 a1).f4) ((rd_T41 l0_0 a1).f5) = some r) ∧ Aside0 (kq ≤ k) ∧ Aside0 (wc.heap[gb309]? = some (.cells #[(.slice (some ad310) l0_0.length c0_0), (.slice A0_1 l0_1.length c0_1), .int .i64 a0_2] 25 (0, 0))) ∧ Aside0 (wc.heap[gb311]? = some (.cells #[.int .i64 ((rd_T41 l0_0 a1).f0), .int .i64 ((rd_T41 l0_0 a1).f1), .int .i64 ((rd_T41 l0_0 a1).f2), .int .i64 ((rd_T41 l0_0 a1).f3), .int .i64 ((rd_T41 l0_0 a1).f4), .int .i64 ((rd_T41 l0_0 a1).f5)] 41 (0, 0))) ∧ Aside0 (Below w.heap.size w wc))
   case first =>
    have H := HC5.out
    clear HC5
    by_cases c11 : ((rd_T41 l0_0 a1).f0) = 3
    ·rw [if_pos c11] at H
     have c11b0 : (((rd_T41 l0_0 a1).f0) == 3) = true := beq_iff_eq.mpr c11
     have c11b1 : (((rd_T41 l0_0 a1).f0) != 3) = false := bne_eq_false_iff_eq.mpr c11
     clear c11
     (first | rw [c11b0] | (simp only [i64_w, i32_w]; rw [c11b0]) | skip)
     have H' := Aside0.mk H
     clear H
     go_wp2
     go_meet
     case rel => exact ⟨_, ((((rd_T41 l0_0 a1).f0) == 3)), fib_, H', ⟨by first | omega | exact Nat.le_refl _⟩, ⟨by (with_reducible repeat (first | refine blk_drewN ?_ _ | refine blk_drew ?_ | refine blk_alloc ?_ _)); refine blk_far ?_ NB309_311.out _; (with_reducible repeat (first | refine blk_drewN ?_ _ | refine blk_drew ?_ | refine blk_alloc ?_ _)); refine blk_far ?_ NB309_311.out _; (with_reducible repeat (first | refine blk_drewN ?_ _ | refine blk_drew ?_ | refine blk_alloc ?_ _)); refine blk_far ?_ NB309_311.out _; (with_reducible repeat (first | refine blk_drewN ?_ _ | refine blk_drew ?_ | refine blk_alloc ?_ _)); refine blk_far ?_ NB309_311.out _; (with_reducible repeat (first | refine blk_drewN ?_ _ | refine blk_drew ?_ | refine blk_alloc ?_ _)); refine blk_far ?_ NB309_311.out _; (with_reducible repeat (first | refine blk_drewN ?_ _ | refine blk_drew ?_ | refine blk_alloc ?_ _)); refine blk_far ?_ NB309_311.out _; exact bkw_ BK309.out⟩, ⟨by (with_reducible repeat (first | refine blk_drewN ?_ _ | refine blk_drew ?_ | refine blk_alloc ?_ _)); refine blk_put (cs := #[.int .i64 ((rd_T41 l0_0 a1).f0), .int .i64 ((rd_T41 l0_0 a1).f1), .int .i64 ((rd_T41 l0_0 a1).f2), .int .i64 ((rd_T41 l0_0 a1).f3), .int .i64 ((rd_T41 l0_0 a1).f4), .int .i64 0]) ?_ 5 _ rfl; (with_reducible repeat (first | refine blk_drewN ?_ _ | refine blk_drew ?_ | refine blk_alloc ?_ _)); refine blk_put (cs := #[.int .i64 ((rd_T41 l0_0 a1).f0), .int .i64 ((rd_T41 l0_0 a1).f1), .int .i64 ((rd_T41 l0_0 a1).f2), .int .i64 ((rd_T41 l0_0 a1).f3), .int .i64 0, .int .i64 0]) ?_ 4 _ rfl; (with_reducible repeat (first | refine blk_drewN ?_ _ | refine blk_drew ?_ | refine blk_alloc ?_ _)); refine blk_put (cs := #[.int .i64 ((rd_T41 l0_0 a1).f0), .int .i64 ((rd_T41 l0_0 a1).f1), .int .i64 ((rd_T41 l0_0 a1).f2), .int .i64 0, .int .i64 0, .int .i64 0]) ?_ 3 _ rfl; (with_reducible repeat (first | refine blk_drewN ?_ _ | refine blk_drew ?_ | refine blk_alloc ?_ _)); refine blk_put (cs := #[.int .i64 ((rd_T41 l0_0 a1).f0), .int .i64 ((rd_T41 l0_0 a1).f1), .int .i64 0, .int .i64 0, .int .i64 0, .int .i64 0]) ?_ 2 _ rfl; (with_reducible repeat (first | refine blk_drewN ?_ _ | refine blk_drew ?_ | refine blk_alloc ?_ _)); refine blk_put (cs := #[.int .i64 ((rd_T41 l0_0 a1).f0), .int .i64 0, .int .i64 0, .int .i64 0, .int .i64 0, .int .i64 0]) ?_ 1 _ rfl; (with_reducible repeat (first | refine blk_drewN ?_ _ | refine blk_drew ?_ | refine blk_alloc ?_ _)); refine blk_put (cs := #[.int .i64 0, .int .i64 0, .int .i64 0, .int .i64 0, .int .i64 0, .int .i64 0]) ?_ 0 _ rfl; exact bkw_ BK311.out⟩, ⟨bla_ HB.out⟩⟩
    ·rw [if_neg c11] at H
     have c11b0 : (((rd_T41 l0_0 a1).f0) == 3) = false := beq_eq_false_iff_ne.mpr c11
     have c11b1 : (((rd_T41 l0_0 a1).f0) != 3) = true := bne_iff_ne.mpr c11
     (first | rw [c11b0] | (simp only [i64_w, i32_w]; rw [c11b0]) | skip)
     have H' := Aside0.mk H
     clear H
     go_wp2
     go_meet
     case rel => exact ⟨_, ((((rd_T41 l0_0 a1).f0) == 4)), fib_, H', ⟨by first | omega | exact Nat.le_refl _⟩, ⟨by (with_reducible repeat (first | refine blk_drewN ?_ _ | refine blk_drew ?_ | refine blk_alloc ?_ _)); refine blk_far ?_ NB309_311.out _; (with_reducible repeat (first | refine blk_drewN ?_ _ | refine blk_drew ?_ | refine blk_alloc ?_ _)); refine blk_far ?_ NB309_311.out _; (with_reducible repeat (first | refine blk_drewN ?_ _ | refine blk_drew ?_ | refine blk_alloc ?_ _)); refine blk_far ?_ NB309_311.out _; (with_reducible repeat (first | refine blk_drewN ?_ _ | refine blk_drew ?_ | refine blk_alloc ?_ _)); refine blk_far ?_ NB309_311.out _; (with_reducible repeat (first | refine blk_drewN ?_ _ | refine blk_drew ?_ | refine blk_alloc ?_ _)); refine blk_far ?_ NB309_311.out _; (with_reducible repeat (first | refine blk_drewN ?_ _ | refine blk_drew ?_ | refine blk_alloc ?_ _)); refine blk_far ?_ NB309_311.out _; exact bkw_ BK309.out⟩, ⟨by (with_reducible repeat (first | refine blk_drewN ?_ _ | refine blk_drew ?_ | refine blk_alloc ?_ _)); refine blk_put (cs := #[.int .i64 ((rd_T41 l0_0 a1).f0), .int .i64 ((rd_T41 l0_0 a1).f1), .int .i64 ((rd_T41 l0_0 a1).f2), .int .i64 ((rd_T41 l0_0 a1).f3), .int .i64 ((rd_T41 l0_0 a1).f4), .int .i64 0]) ?_ 5 _ rfl; (with_reducible repeat (first | refine blk_drewN ?_ _ | refine blk_drew ?_ | refine blk_alloc ?_ _)); refine blk_put (cs := #[.int .i64 ((rd_T41 l0_0 a1).f0), .int .i64 ((rd_T41 l0_0 a1).f1), .int .i64 ((rd_T41 l0_0 a1).f2), .int .i64 ((rd_T41 l0_0 a1).f3), .int .i64 0, .int .i64 0]) ?_ 4 _ rfl; (with_reducible repeat (first | refine blk_drewN ?_ _ | refine blk_drew ?_ | refine blk_alloc ?_ _)); refine blk_put (cs := #[.int .i64 ((rd_T41 l0_0 a1).f0), .int .i64 ((rd_T41 l0_0 a1).f1), .int .i64 ((rd_T41 l0_0 a1).f2), .int .i64 0, .int .i64 0, .int .i64 0]) ?_ 3 _ rfl; (with_reducible repeat (first | refine blk_drewN ?_ _ | refine blk_drew ?_ | refine blk_alloc ?_ _)); refine blk_put (cs := #[.int .i64 ((rd_T41 l0_0 a1).f0), .int .i64 ((rd_T41 l0_0 a1).f1), .int .i64 0, .int .i64 0, .int .i64 0, .int .i64 0]) ?_ 2 _ rfl; (with_reducible repeat (first | refine blk_drewN ?_ _ | refine blk_drew ?_ | refine blk_alloc ?_ _)); refine blk_put (cs := #[.int .i64 ((rd_T41 l0_0 a1).f0), .int .i64 0, .int .i64 0, .int .i64 0, .int .i64 0, .int .i64 0]) ?_ 1 _ rfl; (with_reducible repeat (first | refine blk_drewN ?_ _ | refine blk_drew ?_ | refine blk_alloc ?_ _)); refine blk_put (cs := #[.int .i64 0, .int .i64 0, .int .i64 0, .int .i64 0, .int .i64 0, .int .i64 0]) ?_ 0 _ rfl; exact bkw_ BK311.out⟩, ⟨bla_ HB.out⟩⟩
   case rest =>
    clear HC5
    try clear c1
    try clear p2
    try clear c3
    try clear c3b0
    try clear p3
    try clear q3
    try clear hx3
    try clear c4
    try clear c4b0
    try clear c9
    try clear c11
    try clear c11b0
    try clear c11b1
    try clear hcz10_0
    try clear hcz10_1
    try clear hcz10_2
    try clear hcz10_3
    try clear hcz10_4
    try clear hcz10_5
    try clear hcz7_0
    try clear hcz7_1
    try clear hcz7_2
    try clear hfz10_0
    try clear hfz10_1
    try clear hfz10_2
    try clear hfz10_3
    try clear hfz10_4
    try clear hfz10_5
    try clear hfz7_0
    try clear hfz7_1
    try clear hfz7_2
    try clear hx310_0
    try clear hx310_1
    try clear hx310_2
    try clear hx310_3
    try clear hx310_4
    try clear hx310_5
    try clear p310
    try clear q310
    obtain ⟨kq, x15_4, rfl, HA, HJ4, BK309, BK311, HB⟩ := hcut
    cases kq with
    | zero => exact absurd HA.out (by simp [spoolref10_Depth.j0])
    | succ kj4 =>
     have H := HA.out
     clear HA
     simp only [spoolref10_Depth.j0] at H
     by_cases c12 : x15_4 = true
     ·subst c12
      have H1 : ((spoolref10_Depth.f kj4 l0_0 l0_1 a0_2 ((rd_T41 l0_0 a1).f1)).bind fun t312 => ((spoolref10_Depth.f kj4 l0_0 l0_1 a0_2 ((rd_T41 l0_0 a1).f2)).bind fun t313 => (if t312 < t313 then (some (wrap64 (t313 + 1))) else (some (wrap64 (t312 + 1)))))) = some r := by rw [if_pos rfl] at H; exact H
      clear H
      have H := H1
      clear H1
      replace H := Option.bind_eq_some_iff.mp H
      obtain ⟨t312, A130, H⟩ := H
      replace H : ((spoolref10_Depth.f kj4 l0_0 l0_1 a0_2 ((rd_T41 l0_0 a1).f2)).bind fun t313 => (if t312 < t313 then (some (wrap64 (t313 + 1))) else (some (wrap64 (t312 + 1))))) = some r := H
      have A13 := Aside0.mk A130
      clear A130
      replace H := Option.bind_eq_some_iff.mp H
      obtain ⟨t313, A140, H⟩ := H
      replace H : (if t312 < t313 then (some (wrap64 (t313 + 1))) else (some (wrap64 (t312 + 1)))) = some r := H
      have A14 := Aside0.mk A140
      clear A140
      by_cases c15 : t312 < t313
      ·rw [if_pos c15] at H
       have c15b0 : decide (t312 < t313) = true := decide_eq_true c15
       clear c15
       obtain rfl := Option.some.inj H
       have hnb16 := NB309_311.out
       have hnc16 := NB311_309.out
       have hcz17_0 : wc.cell? ⟨gb309, 0, none⟩ = some (.slice (some ad310) l0_0.length c0_0) := (blk_cell BK309.out 0).trans rfl
       have hcz17_1 : wc.cell? ⟨gb309, 1, none⟩ = some (.slice A0_1 l0_1.length c0_1) := (blk_cell BK309.out 1).trans rfl
       have hcz17_2 : wc.cell? ⟨gb309, 2, none⟩ = some (.int .i64 a0_2) := (blk_cell BK309.out 2).trans rfl
       have hfz17_0 := blk_frozen BK309.out 0
       have hfz17_1 := blk_frozen BK309.out 1
       have hfz17_2 := blk_frozen BK309.out 2
       have hcz18_0 : wc.cell? ⟨gb311, 0, none⟩ = some (.int .i64 ((rd_T41 l0_0 a1).f0)) := (blk_cell BK311.out 0).trans rfl
       have hcz18_1 : wc.cell? ⟨gb311, 1, none⟩ = some (.int .i64 ((rd_T41 l0_0 a1).f1)) := (blk_cell BK311.out 1).trans rfl
       have hcz18_2 : wc.cell? ⟨gb311, 2, none⟩ = some (.int .i64 ((rd_T41 l0_0 a1).f2)) := (blk_cell BK311.out 2).trans rfl
       have hcz18_3 : wc.cell? ⟨gb311, 3, none⟩ = some (.int .i64 ((rd_T41 l0_0 a1).f3)) := (blk_cell BK311.out 3).trans rfl
       have hcz18_4 : wc.cell? ⟨gb311, 4, none⟩ = some (.int .i64 ((rd_T41 l0_0 a1).f4)) := (blk_cell BK311.out 4).trans rfl
       have hcz18_5 : wc.cell? ⟨gb311, 5, none⟩ = some (.int .i64 ((rd_T41 l0_0 a1).f5)) := (blk_cell BK311.out 5).trans rfl
       have hfz18_0 := blk_frozen BK311.out 0
       have hfz18_1 := blk_frozen BK311.out 1
       have hfz18_2 := blk_frozen BK311.out 2
       have hfz18_3 := blk_frozen BK311.out 3
       have hfz18_4 := blk_frozen BK311.out 4
       have hfz18_5 := blk_frozen BK311.out 5
       go_wp2_with (first | ((with_reducible refine gate_callee (f := 14) rfl ?_); refine goesL_ (some 21) rfl rfl Try.func14 (by kernel_rfl) rfl #[.agg #[.slice (some ad310) l0_0.length c0_0, .slice A0_1 l0_1.length c0_1, .int .i64 a0_2], .int .i64 ((rd_T41 l0_0 a1).f1)] rfl lma_ ?_; (with_reducible refine (ih kj4 (by have := HJ4.out; omega) _ _ l0_0 _ _ l0_1 a0_2 ((rd_T41 l0_0 a1).f1) t312 _ ?side1 ?side2 ?side3 ?side4 A13.out).mono ?_); (case side1 => repeat (first | exact (Kd.C_below HR0_0.out HB.out) | (with_reducible refine Kd.C_alloc ?_ _) | (with_reducible refine Kd.C_drewN ?_ _) | (with_reducible refine Kd.C_drew ?_))); (case side2 => exact HC0_0.out); (case side3 => repeat (first | exact (Kd.C_below HR0_1.out HB.out) | (with_reducible refine Kd.C_alloc ?_ _) | (with_reducible refine Kd.C_drewN ?_ _) | (with_reducible refine Kd.C_drew ?_))); (case side4 => exact HC0_1.out); rintro e w19 ⟨rfl, hb⟩; refine ⟨_, rfl, ?_⟩; have n0_ := Aside0.mk (blk_below (g := gb309) (o := .cells #[.slice (some ad310) l0_0.length c0_0, .slice A0_1 l0_1.length c0_1, .int .i64 a0_2] 25 (0, 0)) (by exact bkw_ BK309.out) hb); have n1_ := Aside0.mk (blk_below (g := gb311) (o := .cells #[.int .i64 ((rd_T41 l0_0 a1).f0), .int .i64 ((rd_T41 l0_0 a1).f1), .int .i64 ((rd_T41 l0_0 a1).f2), .int .i64 ((rd_T41 l0_0 a1).f3), .int .i64 ((rd_T41 l0_0 a1).f4), .int .i64 ((rd_T41 l0_0 a1).f5)] 41 (0, 0)) (by exact bkw_ BK311.out) hb); have n2_ := Aside0.mk (below_step (bla_ HB.out) hb); clear BK309; clear BK311; clear HB; have BK309 := n0_; have BK311 := n1_; have HB := n2_; clear n0_ n1_ n2_; (try clear hb); (try clear hb2); (try clear hk); (try clear hi); have hcz20_0 : w19.cell? ⟨gb309, 0, none⟩ = some (.slice (some ad310) l0_0.length c0_0) := (blk_cell BK309.out 0).trans rfl; have hcz20_1 : w19.cell? ⟨gb309, 1, none⟩ = some (.slice A0_1 l0_1.length c0_1) := (blk_cell BK309.out 1).trans rfl; have hcz20_2 : w19.cell? ⟨gb309, 2, none⟩ = some (.int .i64 a0_2) := (blk_cell BK309.out 2).trans rfl; have hfz20_0 := blk_frozen BK309.out 0; have hfz20_1 := blk_frozen BK309.out 1; have hfz20_2 := blk_frozen BK309.out 2; have hcz21_0 : w19.cell? ⟨gb311, 0, none⟩ = some (.int .i64 ((rd_T41 l0_0 a1).f0)) := (blk_cell BK311.out 0).trans rfl; have hcz21_1 : w19.cell? ⟨gb311, 1, none⟩ = some (.int .i64 ((rd_T41 l0_0 a1).f1)) := (blk_cell BK311.out 1).trans rfl; have hcz21_2 : w19.cell? ⟨gb311, 2, none⟩ = some (.int .i64 ((rd_T41 l0_0 a1).f2)) := (blk_cell BK311.out 2).trans rfl; have hcz21_3 : w19.cell? ⟨gb311, 3, none⟩ = some (.int .i64 ((rd_T41 l0_0 a1).f3)) := (blk_cell BK311.out 3).trans rfl; have hcz21_4 : w19.cell? ⟨gb311, 4, none⟩ = some (.int .i64 ((rd_T41 l0_0 a1).f4)) := (blk_cell BK311.out 4).trans rfl; have hcz21_5 : w19.cell? ⟨gb311, 5, none⟩ = some (.int .i64 ((rd_T41 l0_0 a1).f5)) := (blk_cell BK311.out 5).trans rfl; have hfz21_0 := blk_frozen BK311.out 0; have hfz21_1 := blk_frozen BK311.out 1; have hfz21_2 := blk_frozen BK311.out 2; have hfz21_3 := blk_frozen BK311.out 3; have hfz21_4 := blk_frozen BK311.out 4; have hfz21_5 := blk_frozen BK311.out 5) | ((with_reducible refine gate_callee (f := 14) rfl ?_); refine goesL_ (some 25) rfl rfl Try.func14 (by kernel_rfl) rfl #[.agg #[.slice (some ad310) l0_0.length c0_0, .slice A0_1 l0_1.length c0_1, .int .i64 a0_2], .int .i64 ((rd_T41 l0_0 a1).f2)] rfl lma_ ?_; (with_reducible refine (ih kj4 (by have := HJ4.out; omega) _ _ l0_0 _ _ l0_1 a0_2 ((rd_T41 l0_0 a1).f2) t313 _ ?side1 ?side2 ?side3 ?side4 A14.out).mono ?_); (case side1 => repeat (first | exact (Kd.C_below HR0_0.out HB.out) | (with_reducible refine Kd.C_alloc ?_ _) | (with_reducible refine Kd.C_drewN ?_ _) | (with_reducible refine Kd.C_drew ?_))); (case side2 => exact HC0_0.out); (case side3 => repeat (first | exact (Kd.C_below HR0_1.out HB.out) | (with_reducible refine Kd.C_alloc ?_ _) | (with_reducible refine Kd.C_drewN ?_ _) | (with_reducible refine Kd.C_drew ?_))); (case side4 => exact HC0_1.out); rintro e w22 ⟨rfl, hb⟩; refine ⟨_, rfl, ?_⟩; have n0_ := Aside0.mk (blk_below (g := gb309) (o := .cells #[.slice (some ad310) l0_0.length c0_0, .slice A0_1 l0_1.length c0_1, .int .i64 a0_2] 25 (0, 0)) (by exact bkw_ BK309.out) hb); have n1_ := Aside0.mk (blk_below (g := gb311) (o := .cells #[.int .i64 ((rd_T41 l0_0 a1).f0), .int .i64 ((rd_T41 l0_0 a1).f1), .int .i64 ((rd_T41 l0_0 a1).f2), .int .i64 ((rd_T41 l0_0 a1).f3), .int .i64 ((rd_T41 l0_0 a1).f4), .int .i64 ((rd_T41 l0_0 a1).f5)] 41 (0, 0)) (by exact bkw_ BK311.out) hb); have n2_ := Aside0.mk (below_step (bla_ HB.out) hb); clear BK309; clear BK311; clear HB; have BK309 := n0_; have BK311 := n1_; have HB := n2_; clear n0_ n1_ n2_; (try clear hb); (try clear hb2); (try clear hk); (try clear hi)))
       go_ret
       exact ⟨fia_, bla_ HB.out⟩
      ·rw [if_neg c15] at H
       have c15b0 : decide (t312 < t313) = false := decide_eq_false c15
       clear c15
       obtain rfl := Option.some.inj H
       have hnb23 := NB309_311.out
       have hnc23 := NB311_309.out
       have hcz24_0 : wc.cell? ⟨gb309, 0, none⟩ = some (.slice (some ad310) l0_0.length c0_0) := (blk_cell BK309.out 0).trans rfl
       have hcz24_1 : wc.cell? ⟨gb309, 1, none⟩ = some (.slice A0_1 l0_1.length c0_1) := (blk_cell BK309.out 1).trans rfl
       have hcz24_2 : wc.cell? ⟨gb309, 2, none⟩ = some (.int .i64 a0_2) := (blk_cell BK309.out 2).trans rfl
       have hfz24_0 := blk_frozen BK309.out 0
       have hfz24_1 := blk_frozen BK309.out 1
       have hfz24_2 := blk_frozen BK309.out 2
       have hcz25_0 : wc.cell? ⟨gb311, 0, none⟩ = some (.int .i64 ((rd_T41 l0_0 a1).f0)) := (blk_cell BK311.out 0).trans rfl
       have hcz25_1 : wc.cell? ⟨gb311, 1, none⟩ = some (.int .i64 ((rd_T41 l0_0 a1).f1)) := (blk_cell BK311.out 1).trans rfl
       have hcz25_2 : wc.cell? ⟨gb311, 2, none⟩ = some (.int .i64 ((rd_T41 l0_0 a1).f2)) := (blk_cell BK311.out 2).trans rfl
       have hcz25_3 : wc.cell? ⟨gb311, 3, none⟩ = some (.int .i64 ((rd_T41 l0_0 a1).f3)) := (blk_cell BK311.out 3).trans rfl
       have hcz25_4 : wc.cell? ⟨gb311, 4, none⟩ = some (.int .i64 ((rd_T41 l0_0 a1).f4)) := (blk_cell BK311.out 4).trans rfl
       have hcz25_5 : wc.cell? ⟨gb311, 5, none⟩ = some (.int .i64 ((rd_T41 l0_0 a1).f5)) := (blk_cell BK311.out 5).trans rfl
       have hfz25_0 := blk_frozen BK311.out 0
       have hfz25_1 := blk_frozen BK311.out 1
       have hfz25_2 := blk_frozen BK311.out 2
       have hfz25_3 := blk_frozen BK311.out 3
       have hfz25_4 := blk_frozen BK311.out 4
       have hfz25_5 := blk_frozen BK311.out 5
       go_wp2_with (first | ((with_reducible refine gate_callee (f := 14) rfl ?_); refine goesL_ (some 21) rfl rfl Try.func14 (by kernel_rfl) rfl #[.agg #[.slice (some ad310) l0_0.length c0_0, .slice A0_1 l0_1.length c0_1, .int .i64 a0_2], .int .i64 ((rd_T41 l0_0 a1).f1)] rfl lma_ ?_; (with_reducible refine (ih kj4 (by have := HJ4.out; omega) _ _ l0_0 _ _ l0_1 a0_2 ((rd_T41 l0_0 a1).f1) t312 _ ?side1 ?side2 ?side3 ?side4 A13.out).mono ?_); (case side1 => repeat (first | exact (Kd.C_below HR0_0.out HB.out) | (with_reducible refine Kd.C_alloc ?_ _) | (with_reducible refine Kd.C_drewN ?_ _) | (with_reducible refine Kd.C_drew ?_))); (case side2 => exact HC0_0.out); (case side3 => repeat (first | exact (Kd.C_below HR0_1.out HB.out) | (with_reducible refine Kd.C_alloc ?_ _) | (with_reducible refine Kd.C_drewN ?_ _) | (with_reducible refine Kd.C_drew ?_))); (case side4 => exact HC0_1.out); rintro e w26 ⟨rfl, hb⟩; refine ⟨_, rfl, ?_⟩; have n0_ := Aside0.mk (blk_below (g := gb309) (o := .cells #[.slice (some ad310) l0_0.length c0_0, .slice A0_1 l0_1.length c0_1, .int .i64 a0_2] 25 (0, 0)) (by exact bkw_ BK309.out) hb); have n1_ := Aside0.mk (blk_below (g := gb311) (o := .cells #[.int .i64 ((rd_T41 l0_0 a1).f0), .int .i64 ((rd_T41 l0_0 a1).f1), .int .i64 ((rd_T41 l0_0 a1).f2), .int .i64 ((rd_T41 l0_0 a1).f3), .int .i64 ((rd_T41 l0_0 a1).f4), .int .i64 ((rd_T41 l0_0 a1).f5)] 41 (0, 0)) (by exact bkw_ BK311.out) hb); have n2_ := Aside0.mk (below_step (bla_ HB.out) hb); clear BK309; clear BK311; clear HB; have BK309 := n0_; have BK311 := n1_; have HB := n2_; clear n0_ n1_ n2_; (try clear hb); (try clear hb2); (try clear hk); (try clear hi); have hcz27_0 : w26.cell? ⟨gb309, 0, none⟩ = some (.slice (some ad310) l0_0.length c0_0) := (blk_cell BK309.out 0).trans rfl; have hcz27_1 : w26.cell? ⟨gb309, 1, none⟩ = some (.slice A0_1 l0_1.length c0_1) := (blk_cell BK309.out 1).trans rfl; have hcz27_2 : w26.cell? ⟨gb309, 2, none⟩ = some (.int .i64 a0_2) := (blk_cell BK309.out 2).trans rfl; have hfz27_0 := blk_frozen BK309.out 0; have hfz27_1 := blk_frozen BK309.out 1; have hfz27_2 := blk_frozen BK309.out 2; have hcz28_0 : w26.cell? ⟨gb311, 0, none⟩ = some (.int .i64 ((rd_T41 l0_0 a1).f0)) := (blk_cell BK311.out 0).trans rfl; have hcz28_1 : w26.cell? ⟨gb311, 1, none⟩ = some (.int .i64 ((rd_T41 l0_0 a1).f1)) := (blk_cell BK311.out 1).trans rfl; have hcz28_2 : w26.cell? ⟨gb311, 2, none⟩ = some (.int .i64 ((rd_T41 l0_0 a1).f2)) := (blk_cell BK311.out 2).trans rfl; have hcz28_3 : w26.cell? ⟨gb311, 3, none⟩ = some (.int .i64 ((rd_T41 l0_0 a1).f3)) := (blk_cell BK311.out 3).trans rfl; have hcz28_4 : w26.cell? ⟨gb311, 4, none⟩ = some (.int .i64 ((rd_T41 l0_0 a1).f4)) := (blk_cell BK311.out 4).trans rfl; have hcz28_5 : w26.cell? ⟨gb311, 5, none⟩ = some (.int .i64 ((rd_T41 l0_0 a1).f5)) := (blk_cell BK311.out 5).trans rfl; have hfz28_0 := blk_frozen BK311.out 0; have hfz28_1 := blk_frozen BK311.out 1; have hfz28_2 := blk_frozen BK311.out 2; have hfz28_3 := blk_frozen BK311.out 3; have hfz28_4 := blk_frozen BK311.out 4; have hfz28_5 := blk_frozen BK311.out 5) | ((with_reducible refine gate_callee (f := 14) rfl ?_); refine goesL_ (some 25) rfl rfl Try.func14 (by kernel_rfl) rfl #[.agg #[.slice (some ad310) l0_0.length c0_0, .slice A0_1 l0_1.length c0_1, .int .i64 a0_2], .int .i64 ((rd_T41 l0_0 a1).f2)] rfl lma_ ?_; (with_reducible refine (ih kj4 (by have := HJ4.out; omega) _ _ l0_0 _ _ l0_1 a0_2 ((rd_T41 l0_0 a1).f2) t313 _ ?side1 ?side2 ?side3 ?side4 A14.out).mono ?_); (case side1 => repeat (first | exact (Kd.C_below HR0_0.out HB.out) | (with_reducible refine Kd.C_alloc ?_ _) | (with_reducible refine Kd.C_drewN ?_ _) | (with_reducible refine Kd.C_drew ?_))); (case side2 => exact HC0_0.out); (case side3 => repeat (first | exact (Kd.C_below HR0_1.out HB.out) | (with_reducible refine Kd.C_alloc ?_ _) | (with_reducible refine Kd.C_drewN ?_ _) | (with_reducible refine Kd.C_drew ?_))); (case side4 => exact HC0_1.out); rintro e w29 ⟨rfl, hb⟩; refine ⟨_, rfl, ?_⟩; have n0_ := Aside0.mk (blk_below (g := gb309) (o := .cells #[.slice (some ad310) l0_0.length c0_0, .slice A0_1 l0_1.length c0_1, .int .i64 a0_2] 25 (0, 0)) (by exact bkw_ BK309.out) hb); have n1_ := Aside0.mk (blk_below (g := gb311) (o := .cells #[.int .i64 ((rd_T41 l0_0 a1).f0), .int .i64 ((rd_T41 l0_0 a1).f1), .int .i64 ((rd_T41 l0_0 a1).f2), .int .i64 ((rd_T41 l0_0 a1).f3), .int .i64 ((rd_T41 l0_0 a1).f4), .int .i64 ((rd_T41 l0_0 a1).f5)] 41 (0, 0)) (by exact bkw_ BK311.out) hb); have n2_ := Aside0.mk (below_step (bla_ HB.out) hb); clear BK309; clear BK311; clear HB; have BK309 := n0_; have BK311 := n1_; have HB := n2_; clear n0_ n1_ n2_; (try clear hb); (try clear hb2); (try clear hk); (try clear hi)))
       go_ret
       exact ⟨fia_, bla_ HB.out⟩
     ·replace c12 := Bool.eq_false_iff.mpr c12
      subst c12
      have H1 : (if ((rd_T41 l0_0 a1).f0) = 5 then ((spoolref10_Depth.f kj4 l0_0 l0_1 a0_2 ((rd_T41 l0_0 a1).f1)).bind fun t314 => (some (wrap64 (t314 + 1)))) else (some 1)) = some r := by rw [if_neg (show ¬ (false = true) by decide)] at H; exact H
      clear H
      have H := H1
      clear H1
      by_cases c30 : ((rd_T41 l0_0 a1).f0) = 5
      ·rw [if_pos c30] at H
       have c30b0 : (((rd_T41 l0_0 a1).f0) == 5) = true := beq_iff_eq.mpr c30
       have c30b1 : (((rd_T41 l0_0 a1).f0) != 5) = false := bne_eq_false_iff_eq.mpr c30
       clear c30
       replace H := Option.bind_eq_some_iff.mp H
       obtain ⟨t314, A310, H⟩ := H
       replace H : (some (wrap64 (t314 + 1))) = some r := H
       have A31 := Aside0.mk A310
       clear A310
       obtain rfl := Option.some.inj H
       have hnb32 := NB309_311.out
       have hnc32 := NB311_309.out
       have hcz33_0 : wc.cell? ⟨gb309, 0, none⟩ = some (.slice (some ad310) l0_0.length c0_0) := (blk_cell BK309.out 0).trans rfl
       have hcz33_1 : wc.cell? ⟨gb309, 1, none⟩ = some (.slice A0_1 l0_1.length c0_1) := (blk_cell BK309.out 1).trans rfl
       have hcz33_2 : wc.cell? ⟨gb309, 2, none⟩ = some (.int .i64 a0_2) := (blk_cell BK309.out 2).trans rfl
       have hfz33_0 := blk_frozen BK309.out 0
       have hfz33_1 := blk_frozen BK309.out 1
       have hfz33_2 := blk_frozen BK309.out 2
       have hcz34_0 : wc.cell? ⟨gb311, 0, none⟩ = some (.int .i64 ((rd_T41 l0_0 a1).f0)) := (blk_cell BK311.out 0).trans rfl
       have hcz34_1 : wc.cell? ⟨gb311, 1, none⟩ = some (.int .i64 ((rd_T41 l0_0 a1).f1)) := (blk_cell BK311.out 1).trans rfl
       have hcz34_2 : wc.cell? ⟨gb311, 2, none⟩ = some (.int .i64 ((rd_T41 l0_0 a1).f2)) := (blk_cell BK311.out 2).trans rfl
       have hcz34_3 : wc.cell? ⟨gb311, 3, none⟩ = some (.int .i64 ((rd_T41 l0_0 a1).f3)) := (blk_cell BK311.out 3).trans rfl
       have hcz34_4 : wc.cell? ⟨gb311, 4, none⟩ = some (.int .i64 ((rd_T41 l0_0 a1).f4)) := (blk_cell BK311.out 4).trans rfl
       have hcz34_5 : wc.cell? ⟨gb311, 5, none⟩ = some (.int .i64 ((rd_T41 l0_0 a1).f5)) := (blk_cell BK311.out 5).trans rfl
       have hfz34_0 := blk_frozen BK311.out 0
       have hfz34_1 := blk_frozen BK311.out 1
       have hfz34_2 := blk_frozen BK311.out 2
       have hfz34_3 := blk_frozen BK311.out 3
       have hfz34_4 := blk_frozen BK311.out 4
       have hfz34_5 := blk_frozen BK311.out 5
       go_wp2_with (first | ((with_reducible refine gate_callee (f := 14) rfl ?_); refine goesL_ (some 38) rfl rfl Try.func14 (by kernel_rfl) rfl #[.agg #[.slice (some ad310) l0_0.length c0_0, .slice A0_1 l0_1.length c0_1, .int .i64 a0_2], .int .i64 ((rd_T41 l0_0 a1).f1)] rfl lma_ ?_; (with_reducible refine (ih kj4 (by have := HJ4.out; omega) _ _ l0_0 _ _ l0_1 a0_2 ((rd_T41 l0_0 a1).f1) t314 _ ?side1 ?side2 ?side3 ?side4 A31.out).mono ?_); (case side1 => repeat (first | exact (Kd.C_below HR0_0.out HB.out) | (with_reducible refine Kd.C_alloc ?_ _) | (with_reducible refine Kd.C_drewN ?_ _) | (with_reducible refine Kd.C_drew ?_))); (case side2 => exact HC0_0.out); (case side3 => repeat (first | exact (Kd.C_below HR0_1.out HB.out) | (with_reducible refine Kd.C_alloc ?_ _) | (with_reducible refine Kd.C_drewN ?_ _) | (with_reducible refine Kd.C_drew ?_))); (case side4 => exact HC0_1.out); rintro e w35 ⟨rfl, hb⟩; refine ⟨_, rfl, ?_⟩; have n0_ := Aside0.mk (blk_below (g := gb309) (o := .cells #[.slice (some ad310) l0_0.length c0_0, .slice A0_1 l0_1.length c0_1, .int .i64 a0_2] 25 (0, 0)) (by exact bkw_ BK309.out) hb); have n1_ := Aside0.mk (blk_below (g := gb311) (o := .cells #[.int .i64 ((rd_T41 l0_0 a1).f0), .int .i64 ((rd_T41 l0_0 a1).f1), .int .i64 ((rd_T41 l0_0 a1).f2), .int .i64 ((rd_T41 l0_0 a1).f3), .int .i64 ((rd_T41 l0_0 a1).f4), .int .i64 ((rd_T41 l0_0 a1).f5)] 41 (0, 0)) (by exact bkw_ BK311.out) hb); have n2_ := Aside0.mk (below_step (bla_ HB.out) hb); clear BK309; clear BK311; clear HB; have BK309 := n0_; have BK311 := n1_; have HB := n2_; clear n0_ n1_ n2_; (try clear hb); (try clear hb2); (try clear hk); (try clear hi)))
       go_ret
       exact ⟨fia_, bla_ HB.out⟩
      ·rw [if_neg c30] at H
       have c30b0 : (((rd_T41 l0_0 a1).f0) == 5) = false := beq_eq_false_iff_ne.mpr c30
       have c30b1 : (((rd_T41 l0_0 a1).f0) != 5) = true := bne_iff_ne.mpr c30
       obtain rfl := Option.some.inj H
       go_wp2
       go_ret
       exact ⟨fia_, bla_ HB.out⟩
  ·rw [if_neg c4] at H
   exact absurd H (by simp)
 ·rw [if_neg c3] at H
  exact absurd H (by simp)

end Go.Proofs.Ytbgoaigbkfibbaa.PA

-- slim

-- WRITTEN BY A PROGRAM OF THIS SESSION (patchprint.py over the kit's print)
import Derived.Test.YtlihkebmonfefaaDoorPGx0
import Derived.Test.YtlihkebmonfefaaDoorPGx10
import Derived.Test.YtlihkebmonfefaaDoorPGx11
namespace Go.Proofs.YtlihkebmonfefaaDoor.PG
open Go.RowKit Go.Proofs.YtlihkebmonfefaaDoorW.PrintWords Go.Proofs.YtlihkebmonfefaaDoorW.PrintLast Go.Proofs.YtlihkebmonfefaaDoorW.PrintMore
attribute [local go_sem] max2_int min2_int max_two min_two max_three min_three max_four min_four   -- for this text's walks alone
set_option linter.unusedVariables false
set_option linter.unusedSimpArgs false
mutual
def spoolref10_Check.j0 : Nat → Bool → List (S48) → List (List (S60)) → Int → Option (Int)
 | 0, _, _, _, _ => none
 | k + 1, x15, x258000, x258001, x258002 => if x15 = true then (some 6) else (if x258002 ≥ 0 then (spoolref10_Check.j1 k (decide (x258002 < (x258000.length : Int))) x258000 x258001 x258002) else (spoolref10_Check.j1 k false x258000 x258001 x258002))
def spoolref10_Check.j1 : Nat → Bool → List (S48) → List (List (S60)) → Int → Option (Int)
 | 0, _, _, _, _ => none
 | k + 1, x3, x258000, x258001, x258002 => spoolref10_Check.l0 k x3 0 x258000 x258001 x258002
def spoolref10_Check.l0 : Nat → Bool → Int → List (S48) → List (List (S60)) → Int → Option (Int)
 | 0, _, _, _, _, _ => none
 | k + 1, x3, x4, x258000, x258001, x258002 => if x4 < (x258001.length : Int) then (if x3 = true then (if 0 ≤ x4 then ((spoolref05_Right.f k (rd_L4 x258001 x4)).bind fun t259 => (spoolref10_Check.l0 k t259 (wrap64 (x4 + 1)) x258000 x258001 x258002)) else (none)) else (spoolref10_Check.l0 k false (wrap64 (x4 + 1)) x258000 x258001 x258002)) else (spoolref10_Check.l1 k x3 0 x258000 x258001 x258002)
def spoolref10_Check.l1 : Nat → Bool → Int → List (S48) → List (List (S60)) → Int → Option (Int)
 | 0, _, _, _, _, _ => none
 | k + 1, x3, x5, x258000, x258001, x258002 => if x5 < (x258000.length : Int) then (if x3 = true then ((spoolref10_Node.f k x258000 x258001 x258002 x5).bind fun t260 => (spoolref10_Check.l1 k t260 (wrap64 (x5 + 1)) x258000 x258001 x258002)) else (spoolref10_Check.l1 k false (wrap64 (x5 + 1)) x258000 x258001 x258002)) else (if x3 = true then (some 0) else (some 3))
end
def spoolref10_Check.f (k : Nat) (l0_0 : List (S48)) (l0_1 : List (List (S60))) (a0_2 : Int) : Option (Int) := if (l0_0.length : Int) > 4096 then (spoolref10_Check.j0 k true l0_0 l0_1 a0_2) else (spoolref10_Check.j0 k (decide ((l0_1.length : Int) > 4096)) l0_0 l0_1 a0_2)
set_option maxHeartbeats 8000000 in
set_option maxRecDepth 100000 in
theorem spoolref10_Check.calls (k : Nat) (A0_0 : Option Addr) (c0_0 : Nat) (l0_0 : List (S48)) (A0_1 : Option Addr) (c0_1 : Nat) (l0_1 : List (List (S60))) (a0_2 : Int) (r : Int) (w : World) (hr0_0 : Kd.C k48 w A0_0 l0_0.length l0_0) (hc0_0 : l0_0.length ≤ c0_0) (hr0_1 : Kd.C (Kd.slice 60 k60) w A0_1 l0_1.length l0_1) (hc0_1 : l0_1.length ≤ c0_1) (h : spoolref10_Check.f k l0_0 l0_1 a0_2 = some r) :
  Calls Tryd.prog 7 #[.agg #[.slice A0_0 l0_0.length c0_0, .slice A0_1 l0_1.length c0_1, .int .i64 a0_2]] w fun e w' => e = .returned (.int .i64 r) ∧ Below w.heap.size w w' := by
 have hu25 := Tryd.underlying25
 have HR0_0 := Aside0.mk hr0_0
 have HC0_0 := Aside0.mk hc0_0
 clear hr0_0 hc0_0
 have HR0_1 := Aside0.mk hr0_1
 have HC0_1 := Aside0.mk hc0_1
 clear hr0_1 hc0_1
 have HB := Aside0.mk (Below.refl w.heap.size w)
 have H : (if (l0_0.length : Int) > 4096 then (spoolref10_Check.j0 k true l0_0 l0_1 a0_2) else (spoolref10_Check.j0 k (decide ((l0_1.length : Int) > 4096)) l0_0 l0_1 a0_2)) = some r := h
 clear h
 have HC2 := Aside0.mk H
 clear H
 go_enter Tryd.func7, Tryd.ntmps7
 go_upto_region 1 with (first | ((with_reducible refine gate_dst (N := 1) rfl ?_); (try (refine gate_guard (by rfl) ?_; dsimp only)); refine box_event ?hg (N := 1) ?hd (cs := #[.slice A0_0 l0_0.length c0_0, .slice A0_1 l0_1.length c0_1, .int .i64 a0_2]) (t := 25) ?hr ?_; (case hd => rfl); (case hg => rfl); (case hr => first | (go_simp; done) | (go_simp; rfl)); intro gb257 hg w3 hbox hb; have n0_ := Aside0.mk (below_step (blw_ HB.out) hb); have n1_ := Aside0.mk (hbox); have n2_ := Aside0.mk ((by rw [hg]; exact (below_size (blw_ HB.out)) : w.heap.size ≤ gb257)); have n3_ := Aside0.mk ((by rw [hg]; exact (below_size (blw_ HB.out)) : w.heap.size ≤ gb257)); clear HB; have HB := n0_; have BK257 := n1_; have GW257 := n2_; have GE257 := n3_; clear n0_ n1_ n2_ n3_; clear hb hbox hg))
 (try simp only [Act.put, List.setIfInBounds_toArray, List.set_cons_zero, List.set_cons_succ])
 go_cut [15] (fun v15 wc => ∃ (kq : Nat) (x15_1 : Bool), v15 = .bool x15_1 ∧ Aside0 (spoolref10_Check.j0 kq x15_1 l0_0 l0_1 a0_2 = some r) ∧ Aside0 (kq ≤ k) ∧ Aside0 (wc.heap[gb257]? = some (.cells #[(.slice A0_0 l0_0.length c0_0), (.slice A0_1 l0_1.length c0_1), .int .i64 a0_2] 25 (0, 0))) ∧ Aside0 (Below w.heap.size w wc))
 case first =>
  have H := HC2.out
  clear HC2
  by_cases c4 : (l0_0.length : Int) > 4096
  ·rw [if_pos c4] at H
   have c4b0 : decide (4096 < (l0_0.length : Int)) = true := decide_eq_true c4
   have c4b1 : decide (4096 < l0_0.length) = true := decide_eq_true (by omega)
   clear c4
   (first | rw [c4b0] | (simp only [i64_w, i32_w]; rw [c4b0]) | skip)
   have H' := Aside0.mk H
   clear H
   have hcz5_0 : w3.cell? ⟨gb257, 0, none⟩ = some (.slice A0_0 l0_0.length c0_0) := (blk_cell BK257.out 0).trans rfl
   have hcz5_1 : w3.cell? ⟨gb257, 1, none⟩ = some (.slice A0_1 l0_1.length c0_1) := (blk_cell BK257.out 1).trans rfl
   have hcz5_2 : w3.cell? ⟨gb257, 2, none⟩ = some (.int .i64 a0_2) := (blk_cell BK257.out 2).trans rfl
   have hfz5_0 := blk_frozen BK257.out 0
   have hfz5_1 := blk_frozen BK257.out 1
   have hfz5_2 := blk_frozen BK257.out 2
   go_wp2
   go_meet
   case rel => exact ⟨_, (true), fib_, H', ⟨by first | omega | exact Nat.le_refl _⟩, ⟨by exact bkw_ BK257.out⟩, ⟨blg_ HB.out GE257.out⟩⟩
  ·rw [if_neg c4] at H
   have c4b0 : decide (4096 < (l0_0.length : Int)) = false := decide_eq_false c4
   have c4b1 : decide (4096 < l0_0.length) = false := decide_eq_false (by omega)
   clear c4
   (first | rw [c4b0] | (simp only [i64_w, i32_w]; rw [c4b0]) | skip)
   have H' := Aside0.mk H
   clear H
   have hcz6_0 : w3.cell? ⟨gb257, 0, none⟩ = some (.slice A0_0 l0_0.length c0_0) := (blk_cell BK257.out 0).trans rfl
   have hcz6_1 : w3.cell? ⟨gb257, 1, none⟩ = some (.slice A0_1 l0_1.length c0_1) := (blk_cell BK257.out 1).trans rfl
   have hcz6_2 : w3.cell? ⟨gb257, 2, none⟩ = some (.int .i64 a0_2) := (blk_cell BK257.out 2).trans rfl
   have hfz6_0 := blk_frozen BK257.out 0
   have hfz6_1 := blk_frozen BK257.out 1
   have hfz6_2 := blk_frozen BK257.out 2
   go_wp2
   go_meet
   case rel => exact ⟨_, (decide ((l0_1.length : Int) > 4096)), fib_, H', ⟨by first | omega | exact Nat.le_refl _⟩, ⟨by exact bkw_ BK257.out⟩, ⟨blg_ HB.out GE257.out⟩⟩
 case rest =>
  clear HC2
  try clear p2
  try clear c4
  try clear c4b0
  try clear c4b1
  try clear hcz5_0
  try clear hcz5_1
  try clear hcz5_2
  try clear hcz6_0
  try clear hcz6_1
  try clear hcz6_2
  try clear hfz5_0
  try clear hfz5_1
  try clear hfz5_2
  try clear hfz6_0
  try clear hfz6_1
  try clear hfz6_2
  obtain ⟨kq, x15_1, rfl, HA, HJ1, BK257, HB⟩ := hcut
  cases kq with
  | zero => exact absurd HA.out (by simp [spoolref10_Check.j0])
  | succ kj1 =>
   have H := HA.out
   clear HA
   simp only [spoolref10_Check.j0] at H
   by_cases c7 : x15_1 = true
   ·subst c7
    have H1 : (some 6) = some r := by rw [if_pos rfl] at H; exact H
    clear H
    have H := H1
    clear H1
    obtain rfl := Option.some.inj H
    go_wp2
    go_ret
    exact ⟨fia_, blg_ HB.out GE257.out⟩
   ·replace c7 := Bool.eq_false_iff.mpr c7
    subst c7
    have H1 : (if a0_2 ≥ 0 then (spoolref10_Check.j1 kj1 (decide (a0_2 < (l0_0.length : Int))) l0_0 l0_1 a0_2) else (spoolref10_Check.j1 kj1 false l0_0 l0_1 a0_2)) = some r := by rw [if_neg (show ¬ (false = true) by decide)] at H; exact H
    clear H
    have H := H1
    clear H1
    have HC8 := Aside0.mk H
    clear H
    go_upto_region 3 with (fail)
    go_cut [3] (fun v3 wc => ∃ (kq : Nat) (x3_7 : Bool), v3 = .bool x3_7 ∧ Aside0 (spoolref10_Check.j1 kq x3_7 l0_0 l0_1 a0_2 = some r) ∧ Aside0 (kq ≤ kj1) ∧ Aside0 (wc.heap[gb257]? = some (.cells #[(.slice A0_0 l0_0.length c0_0), (.slice A0_1 l0_1.length c0_1), .int .i64 a0_2] 25 (0, 0))) ∧ Aside0 (Below w.heap.size w wc))
    case first =>
     have H := HC8.out
     clear HC8
     by_cases c9 : a0_2 ≥ 0
     ·rw [if_pos c9] at H
      have c9b0 : decide (0 ≤ a0_2) = true := decide_eq_true c9
      clear c9
      (first | rw [c9b0] | (simp only [i64_w, i32_w]; rw [c9b0]) | skip)
      have H' := Aside0.mk H
      clear H
      have hcz10_0 : wc.cell? ⟨gb257, 0, none⟩ = some (.slice A0_0 l0_0.length c0_0) := (blk_cell BK257.out 0).trans rfl
      have hcz10_1 : wc.cell? ⟨gb257, 1, none⟩ = some (.slice A0_1 l0_1.length c0_1) := (blk_cell BK257.out 1).trans rfl
      have hcz10_2 : wc.cell? ⟨gb257, 2, none⟩ = some (.int .i64 a0_2) := (blk_cell BK257.out 2).trans rfl
      have hfz10_0 := blk_frozen BK257.out 0
      have hfz10_1 := blk_frozen BK257.out 1
      have hfz10_2 := blk_frozen BK257.out 2
      go_wp2
      go_meet
      case rel => exact ⟨_, (decide (a0_2 < (l0_0.length : Int))), fib_, H', ⟨by have := HJ1.out; first | omega | exact Nat.le_refl _⟩, ⟨by exact bkw_ BK257.out⟩, ⟨blg_ HB.out GE257.out⟩⟩
     ·rw [if_neg c9] at H
      have c9b0 : decide (0 ≤ a0_2) = false := decide_eq_false c9
      clear c9
      (first | rw [c9b0] | (simp only [i64_w, i32_w]; rw [c9b0]) | skip)
      have H' := Aside0.mk H
      clear H
      have hcz11_0 : wc.cell? ⟨gb257, 0, none⟩ = some (.slice A0_0 l0_0.length c0_0) := (blk_cell BK257.out 0).trans rfl
      have hcz11_1 : wc.cell? ⟨gb257, 1, none⟩ = some (.slice A0_1 l0_1.length c0_1) := (blk_cell BK257.out 1).trans rfl
      have hcz11_2 : wc.cell? ⟨gb257, 2, none⟩ = some (.int .i64 a0_2) := (blk_cell BK257.out 2).trans rfl
      have hfz11_0 := blk_frozen BK257.out 0
      have hfz11_1 := blk_frozen BK257.out 1
      have hfz11_2 := blk_frozen BK257.out 2
      go_wp2
      go_meet
      case rel => exact ⟨_, (false), fib_, H', ⟨by have := HJ1.out; first | omega | exact Nat.le_refl _⟩, ⟨by exact bkw_ BK257.out⟩, ⟨blg_ HB.out GE257.out⟩⟩
    case rest =>
     clear HC8
     try clear p2
     try clear c4
     try clear c4b0
     try clear c4b1
     try clear c7
     try clear c9
     try clear c9b0
     try clear hcz10_0
     try clear hcz10_1
     try clear hcz10_2
     try clear hcz11_0
     try clear hcz11_1
     try clear hcz11_2
     try clear hcz5_0
     try clear hcz5_1
     try clear hcz5_2
     try clear hcz6_0
     try clear hcz6_1
     try clear hcz6_2
     try clear hfz10_0
     try clear hfz10_1
     try clear hfz10_2
     try clear hfz11_0
     try clear hfz11_1
     try clear hfz11_2
     try clear hfz5_0
     try clear hfz5_1
     try clear hfz5_2
     try clear hfz6_0
     try clear hfz6_1
     try clear hfz6_2
     try clear p2
     obtain ⟨kq, x3_7, rfl, HA, HJ7, BK257, HB⟩ := hcut
     cases kq with
     | zero => exact absurd HA.out (by simp [spoolref10_Check.j1])
     | succ kj7 =>
      have H := HA.out
      clear HA
      simp only [spoolref10_Check.j1] at H
      have H' := Aside0.mk H
      clear H
      go_wp2
      go_loopg [3, 4] kj7 (fun kq v3 v4 w' => ∃ (x3_3 : Bool) (x4_3 : Int), v3 = .bool x3_3 ∧ v4 = .int .i64 x4_3 ∧ Aside0 (spoolref10_Check.l0 kq x3_3 x4_3 l0_0 l0_1 a0_2 = some r) ∧ Aside0 (kq ≤ kj7) ∧ Aside0 (w'.heap[gb257]? = some (.cells #[(.slice A0_0 l0_0.length c0_0), (.slice A0_1 l0_1.length c0_1), .int .i64 a0_2] 25 (0, 0))) ∧ Aside0 (Below w.heap.size w w'))
      case atStart => exact ⟨(x3_7), (0), fib_, fib_, H', ⟨Nat.le_refl _⟩, ⟨by exact bkw_ BK257.out⟩, ⟨blg_ HB.out GE257.out⟩⟩
      case round =>
       clear H'
       try clear p2
       try clear c4
       try clear c4b0
       try clear c4b1
       try clear c7
       try clear c9
       try clear c9b0
       try clear hcz10_0
       try clear hcz10_1
       try clear hcz10_2
       try clear hcz11_0
       try clear hcz11_1
       try clear hcz11_2
       try clear hcz5_0
       try clear hcz5_1
       try clear hcz5_2
       try clear hcz6_0
       try clear hcz6_1
       try clear hcz6_2
       try clear hfz10_0
       try clear hfz10_1
       try clear hfz10_2
       try clear hfz11_0
       try clear hfz11_1
       try clear hfz11_2
       try clear hfz5_0
       try clear hfz5_1
       try clear hfz5_2
       try clear hfz6_0
       try clear hfz6_1
       try clear hfz6_2
       try clear p2
       obtain ⟨x3_3, x4_3, rfl, rfl, HA, HK3, BK257, HB⟩ := hrel
       cases gk with
       | zero => exact absurd HA.out (by simp [spoolref10_Check.l0])
       | succ k3 =>
        have H := HA.out
        clear HA
        simp only [spoolref10_Check.l0] at H
        by_cases c12 : x4_3 < (l0_1.length : Int)
        ·rw [if_pos c12] at H
         have c12b0 : decide (x4_3 < (l0_1.length : Int)) = true := decide_eq_true c12
         clear c12
         by_cases c13 : x3_3 = true
         ·subst c13
          have H1 : (if 0 ≤ x4_3 then ((spoolref05_Right.f k3 (rd_L4 l0_1 x4_3)).bind fun t259 => (spoolref10_Check.l0 k3 t259 (wrap64 (x4_3 + 1)) l0_0 l0_1 a0_2)) else (none)) = some r := by rw [if_pos rfl] at H; exact H
          clear H
          have H := H1
          clear H1
          by_cases c14 : 0 ≤ x4_3
          ·rw [if_pos c14] at H
           have c14b0 : decide (0 ≤ x4_3) = true := decide_eq_true c14
           clear c14
           replace H := Option.bind_eq_some_iff.mp H
           obtain ⟨t259, A150, H⟩ := H
           replace H : (spoolref10_Check.l0 k3 t259 (wrap64 (x4_3 + 1)) l0_0 l0_1 a0_2) = some r := H
           have A15 := Aside0.mk A150
           clear A150
           have H' := Aside0.mk H
           clear H
           have hcz16_0 : wr.cell? ⟨gb257, 0, none⟩ = some (.slice A0_0 l0_0.length c0_0) := (blk_cell BK257.out 0).trans rfl
           have hcz16_1 : wr.cell? ⟨gb257, 1, none⟩ = some (.slice A0_1 l0_1.length c0_1) := (blk_cell BK257.out 1).trans rfl
           have hcz16_2 : wr.cell? ⟨gb257, 2, none⟩ = some (.int .i64 a0_2) := (blk_cell BK257.out 2).trans rfl
           have hfz16_0 := blk_frozen BK257.out 0
           have hfz16_1 := blk_frozen BK257.out 1
           have hfz16_2 := blk_frozen BK257.out 2
           have p258 : 0 ≤ (x4_3 : Int) := of_decide_eq_true asa_
           have q258 : x4_3 < (l0_1.length : Int) := of_decide_eq_true asa_
           obtain ⟨ad258, A258_0, c258_0, e258, hx258_0, hl258_0, hi258_0⟩ := at_L4 HR0_1.out x4_3 p258 q258
           cases e258
           replace hx258_0 := (HB.out.cell (World.block_lt_of_cell? w _ hx258_0)).trans hx258_0
           have HR258_0 := Aside0.mk hi258_0
           have HC258_0 := Aside0.mk hl258_0
           clear hi258_0 hl258_0
           replace p258 := eq_true p258
           replace q258 := eq_true q258
           go_wp2_with (first | (go_at_call 17; (with_reducible refine (spoolref05_Right.calls k3 _ _ (rd_L4 l0_1 x4_3) t259 _ ?side1 ?side2 A15.out).mono ?_); (case side1 => repeat (first | exact (Kd.C_below HR258_0.out HB.out) | (with_reducible refine Kd.C_alloc ?_ _) | (with_reducible refine Kd.C_drewN ?_ _) | (with_reducible refine Kd.C_drew ?_))); (case side2 => exact HC258_0.out); rintro e w17 ⟨rfl, hb⟩; have n0_ := Aside0.mk (blk_below (g := gb257) (o := .cells #[.slice A0_0 l0_0.length c0_0, .slice (some ad258) l0_1.length c0_1, .int .i64 a0_2] 25 (0, 0)) (by exact bkw_ BK257.out) hb); have n1_ := Aside0.mk (below_step (blg_ HB.out GE257.out) hb); clear BK257; clear HB; have BK257 := n0_; have HB := n1_; clear n0_ n1_; (try clear hb); (try clear hb2); (try clear hk); (try clear hi)))
           go_roundg k3
           case measure => have := HJ1.out; have := HJ7.out; have := HK3.out; omega
           case rel => exact ⟨(t259), (wrap64 (x4_3 + 1)), fib_, fib_, H', ⟨by have := HJ1.out; have := HJ7.out; have := HK3.out; omega⟩, ⟨by exact bkw_ BK257.out⟩, ⟨blg_ HB.out GE257.out⟩⟩
          ·rw [if_neg c14] at H
           exact absurd H (by simp)
         ·replace c13 := Bool.eq_false_iff.mpr c13
          subst c13
          have H1 : (spoolref10_Check.l0 k3 false (wrap64 (x4_3 + 1)) l0_0 l0_1 a0_2) = some r := by rw [if_neg (show ¬ (false = true) by decide)] at H; exact H
          clear H
          have H := H1
          clear H1
          have H' := Aside0.mk H
          clear H
          have hcz18_0 : wr.cell? ⟨gb257, 0, none⟩ = some (.slice A0_0 l0_0.length c0_0) := (blk_cell BK257.out 0).trans rfl
          have hcz18_1 : wr.cell? ⟨gb257, 1, none⟩ = some (.slice A0_1 l0_1.length c0_1) := (blk_cell BK257.out 1).trans rfl
          have hcz18_2 : wr.cell? ⟨gb257, 2, none⟩ = some (.int .i64 a0_2) := (blk_cell BK257.out 2).trans rfl
          have hfz18_0 := blk_frozen BK257.out 0
          have hfz18_1 := blk_frozen BK257.out 1
          have hfz18_2 := blk_frozen BK257.out 2
          go_wp2
          go_roundg k3
          case measure => have := HJ1.out; have := HJ7.out; have := HK3.out; omega
          case rel => exact ⟨(false), (wrap64 (x4_3 + 1)), fib_, fib_, H', ⟨by have := HJ1.out; have := HJ7.out; have := HK3.out; omega⟩, ⟨by exact bkw_ BK257.out⟩, ⟨blg_ HB.out GE257.out⟩⟩
        ·rw [if_neg c12] at H
         have c12b0 : decide (x4_3 < (l0_1.length : Int)) = false := decide_eq_false c12
         clear c12
         have H' := Aside0.mk H
         clear H
         have hcz19_0 : wr.cell? ⟨gb257, 0, none⟩ = some (.slice A0_0 l0_0.length c0_0) := (blk_cell BK257.out 0).trans rfl
         have hcz19_1 : wr.cell? ⟨gb257, 1, none⟩ = some (.slice A0_1 l0_1.length c0_1) := (blk_cell BK257.out 1).trans rfl
         have hcz19_2 : wr.cell? ⟨gb257, 2, none⟩ = some (.int .i64 a0_2) := (blk_cell BK257.out 2).trans rfl
         have hfz19_0 := blk_frozen BK257.out 0
         have hfz19_1 := blk_frozen BK257.out 1
         have hfz19_2 := blk_frozen BK257.out 2
         go_wp2
         go_loopg [3, 5] k3 (fun kq v3 v5 w' => ∃ (x3_4 : Bool) (x5_4 : Int), v3 = .bool x3_4 ∧ v5 = .int .i64 x5_4 ∧ Aside0 (spoolref10_Check.l1 kq x3_4 x5_4 l0_0 l0_1 a0_2 = some r) ∧ Aside0 (kq ≤ k3) ∧ Aside0 (w'.heap[gb257]? = some (.cells #[(.slice A0_0 l0_0.length c0_0), (.slice A0_1 l0_1.length c0_1), .int .i64 a0_2] 25 (0, 0))) ∧ Aside0 (Below w.heap.size w w'))
         case atStart => exact ⟨(x3_3), (0), fib_, fib_, H', ⟨Nat.le_refl _⟩, ⟨by exact bkw_ BK257.out⟩, ⟨blg_ HB.out GE257.out⟩⟩
         case round =>
          clear H'
          try clear c1
          try clear c2
          try clear p2
          try clear q2
          try clear hx2
          try clear c4
          try clear c4b0
          try clear c4b1
          try clear p6
          try clear c7
          try clear c9
          try clear c9b0
          try clear c12
          try clear c12b0
          try clear c13
          try clear c14
          try clear c14b0
          try clear hcz10_0
          try clear hcz10_1
          try clear hcz10_2
          try clear hcz11_0
          try clear hcz11_1
          try clear hcz11_2
          try clear hcz16_0
          try clear hcz16_1
          try clear hcz16_2
          try clear hcz18_0
          try clear hcz18_1
          try clear hcz18_2
          try clear hcz19_0
          try clear hcz19_1
          try clear hcz19_2
          try clear hcz5_0
          try clear hcz5_1
          try clear hcz5_2
          try clear hcz6_0
          try clear hcz6_1
          try clear hcz6_2
          try clear hfz10_0
          try clear hfz10_1
          try clear hfz10_2
          try clear hfz11_0
          try clear hfz11_1
          try clear hfz11_2
          try clear hfz16_0
          try clear hfz16_1
          try clear hfz16_2
          try clear hfz18_0
          try clear hfz18_1
          try clear hfz18_2
          try clear hfz19_0
          try clear hfz19_1
          try clear hfz19_2
          try clear hfz5_0
          try clear hfz5_1
          try clear hfz5_2
          try clear hfz6_0
          try clear hfz6_1
          try clear hfz6_2
          try clear hx258_0
          try clear p2
          try clear p258
          try clear q258
          obtain ⟨x3_4, x5_4, rfl, rfl, HA, HK4, BK257, HB⟩ := hrel
          cases gk with
          | zero => exact absurd HA.out (by simp [spoolref10_Check.l1])
          | succ k4 =>
           have H := HA.out
           clear HA
           simp only [spoolref10_Check.l1] at H
           by_cases c20 : x5_4 < (l0_0.length : Int)
           ·rw [if_pos c20] at H
            have c20b0 : decide (x5_4 < (l0_0.length : Int)) = true := decide_eq_true c20
            clear c20
            by_cases c21 : x3_4 = true
            ·subst c21
             have H1 : ((spoolref10_Node.f k4 l0_0 l0_1 a0_2 x5_4).bind fun t260 => (spoolref10_Check.l1 k4 t260 (wrap64 (x5_4 + 1)) l0_0 l0_1 a0_2)) = some r := by rw [if_pos rfl] at H; exact H
             clear H
             have H := H1
             clear H1
             replace H := Option.bind_eq_some_iff.mp H
             obtain ⟨t260, A220, H⟩ := H
             replace H : (spoolref10_Check.l1 k4 t260 (wrap64 (x5_4 + 1)) l0_0 l0_1 a0_2) = some r := H
             have A22 := Aside0.mk A220
             clear A220
             have H' := Aside0.mk H
             clear H
             have hcz23_0 : wr.cell? ⟨gb257, 0, none⟩ = some (.slice A0_0 l0_0.length c0_0) := (blk_cell BK257.out 0).trans rfl
             have hcz23_1 : wr.cell? ⟨gb257, 1, none⟩ = some (.slice A0_1 l0_1.length c0_1) := (blk_cell BK257.out 1).trans rfl
             have hcz23_2 : wr.cell? ⟨gb257, 2, none⟩ = some (.int .i64 a0_2) := (blk_cell BK257.out 2).trans rfl
             have hfz23_0 := blk_frozen BK257.out 0
             have hfz23_1 := blk_frozen BK257.out 1
             have hfz23_2 := blk_frozen BK257.out 2
             go_wp2_with (first | (go_at_call 18; (with_reducible refine (spoolref10_Node.calls k4 _ _ l0_0 _ _ l0_1 a0_2 x5_4 t260 _ ?side1 ?side2 ?side3 ?side4 A22.out).mono ?_); (case side1 => repeat (first | exact (Kd.C_below HR0_0.out HB.out) | (with_reducible refine Kd.C_alloc ?_ _) | (with_reducible refine Kd.C_drewN ?_ _) | (with_reducible refine Kd.C_drew ?_))); (case side2 => exact HC0_0.out); (case side3 => repeat (first | exact (Kd.C_below HR0_1.out HB.out) | (with_reducible refine Kd.C_alloc ?_ _) | (with_reducible refine Kd.C_drewN ?_ _) | (with_reducible refine Kd.C_drew ?_))); (case side4 => exact HC0_1.out); rintro e w24 ⟨rfl, hb⟩; have n0_ := Aside0.mk (blk_below (g := gb257) (o := .cells #[.slice A0_0 l0_0.length c0_0, .slice A0_1 l0_1.length c0_1, .int .i64 a0_2] 25 (0, 0)) (by exact bkw_ BK257.out) hb); have n1_ := Aside0.mk (below_step (blg_ HB.out GE257.out) hb); clear BK257; clear HB; have BK257 := n0_; have HB := n1_; clear n0_ n1_; (try clear hb); (try clear hb2); (try clear hk); (try clear hi)))
             go_roundg k4
             case measure => have := HJ1.out; have := HJ7.out; have := HK3.out; have := HK4.out; omega
             case rel => exact ⟨(t260), (wrap64 (x5_4 + 1)), fib_, fib_, H', ⟨by have := HJ1.out; have := HJ7.out; have := HK3.out; have := HK4.out; omega⟩, ⟨by exact bkw_ BK257.out⟩, ⟨blg_ HB.out GE257.out⟩⟩
            ·replace c21 := Bool.eq_false_iff.mpr c21
             subst c21
             have H1 : (spoolref10_Check.l1 k4 false (wrap64 (x5_4 + 1)) l0_0 l0_1 a0_2) = some r := by rw [if_neg (show ¬ (false = true) by decide)] at H; exact H
             clear H
             have H := H1
             clear H1
             have H' := Aside0.mk H
             clear H
             have hcz25_0 : wr.cell? ⟨gb257, 0, none⟩ = some (.slice A0_0 l0_0.length c0_0) := (blk_cell BK257.out 0).trans rfl
             have hcz25_1 : wr.cell? ⟨gb257, 1, none⟩ = some (.slice A0_1 l0_1.length c0_1) := (blk_cell BK257.out 1).trans rfl
             have hcz25_2 : wr.cell? ⟨gb257, 2, none⟩ = some (.int .i64 a0_2) := (blk_cell BK257.out 2).trans rfl
             have hfz25_0 := blk_frozen BK257.out 0
             have hfz25_1 := blk_frozen BK257.out 1
             have hfz25_2 := blk_frozen BK257.out 2
             go_wp2
             go_roundg k4
             case measure => have := HJ1.out; have := HJ7.out; have := HK3.out; have := HK4.out; omega
             case rel => exact ⟨(false), (wrap64 (x5_4 + 1)), fib_, fib_, H', ⟨by have := HJ1.out; have := HJ7.out; have := HK3.out; have := HK4.out; omega⟩, ⟨by exact bkw_ BK257.out⟩, ⟨blg_ HB.out GE257.out⟩⟩
           ·rw [if_neg c20] at H
            have c20b0 : decide (x5_4 < (l0_0.length : Int)) = false := decide_eq_false c20
            clear c20
            by_cases c26 : x3_4 = true
            ·subst c26
             have H1 : (some 0) = some r := by rw [if_pos rfl] at H; exact H
             clear H
             have H := H1
             clear H1
             obtain rfl := Option.some.inj H
             have hcz27_0 : wr.cell? ⟨gb257, 0, none⟩ = some (.slice A0_0 l0_0.length c0_0) := (blk_cell BK257.out 0).trans rfl
             have hcz27_1 : wr.cell? ⟨gb257, 1, none⟩ = some (.slice A0_1 l0_1.length c0_1) := (blk_cell BK257.out 1).trans rfl
             have hcz27_2 : wr.cell? ⟨gb257, 2, none⟩ = some (.int .i64 a0_2) := (blk_cell BK257.out 2).trans rfl
             have hfz27_0 := blk_frozen BK257.out 0
             have hfz27_1 := blk_frozen BK257.out 1
             have hfz27_2 := blk_frozen BK257.out 2
             go_wp2
             go_ret
             exact ⟨fia_, blg_ HB.out GE257.out⟩
            ·replace c26 := Bool.eq_false_iff.mpr c26
             subst c26
             have H1 : (some 3) = some r := by rw [if_neg (show ¬ (false = true) by decide)] at H; exact H
             clear H
             have H := H1
             clear H1
             obtain rfl := Option.some.inj H
             have hcz28_0 : wr.cell? ⟨gb257, 0, none⟩ = some (.slice A0_0 l0_0.length c0_0) := (blk_cell BK257.out 0).trans rfl
             have hcz28_1 : wr.cell? ⟨gb257, 1, none⟩ = some (.slice A0_1 l0_1.length c0_1) := (blk_cell BK257.out 1).trans rfl
             have hcz28_2 : wr.cell? ⟨gb257, 2, none⟩ = some (.int .i64 a0_2) := (blk_cell BK257.out 2).trans rfl
             have hfz28_0 := blk_frozen BK257.out 0
             have hfz28_1 := blk_frozen BK257.out 1
             have hfz28_2 := blk_frozen BK257.out 2
             go_wp2
             go_ret
             exact ⟨fia_, blg_ HB.out GE257.out⟩
end Go.Proofs.YtlihkebmonfefaaDoor.PG

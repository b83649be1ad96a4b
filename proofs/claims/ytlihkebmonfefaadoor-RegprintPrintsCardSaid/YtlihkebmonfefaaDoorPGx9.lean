import Derived.Test.YtlihkebmonfefaaDoorPGx0
import Derived.Test.YtlihkebmonfefaaDoorPGx7
-- WRITTEN BY A PROGRAM OF THIS SESSION (patchprint.py over the kit's print)
namespace Go.Proofs.YtlihkebmonfefaaDoor.PG
open Go.RowKit Go.Proofs.YtlihkebmonfefaaDoorW.PrintWords Go.Proofs.YtlihkebmonfefaaDoorW.PrintLast Go.Proofs.YtlihkebmonfefaaDoorW.PrintMore
attribute [local go_sem] max2_int min2_int max_two min_two max_three min_three max_four min_four   -- for this text's walks alone
set_option linter.unusedVariables false
set_option linter.unusedSimpArgs false
mutual
def spoolref05_ends.l0 : Nat → List (S60) → List Int → Int → Option (List Int)
 | 0, _, _, _ => none
 | k + 1, x0, x3, x4 => if x4 < (x0.length : Int) then (if 0 ≤ x4 then (if ((rd_T60 x0 x4).f0) > 0 then (spoolref05_ends.j1 k x0 x3 x4 (decide (((rd_T60 x0 x4).f0) < 1114112))) else (spoolref05_ends.j1 k x0 x3 x4 false)) else (none)) else (some x3)
def spoolref05_ends.j1 : Nat → List (S60) → List Int → Int → Bool → Option (List Int)
 | 0, _, _, _, _ => none
 | k + 1, x0, x3, x4, x25 => if x25 = true then (if 0 ≤ x4 then (if x4 < (x0.length : Int) then ((spoolref05_put.f k x3 ((rd_T60 x0 x4).f0)).bind fun t198 => (if ((rd_T60 x0 x4).f1) ≥ 0 then (if ((rd_T60 x0 x4).f1) < 1114111 then ((spoolref05_put.f k t198 (wrap64 (((rd_T60 x0 x4).f1) + 1))).bind fun t204 => (spoolref05_ends.l0 k x0 t204 (wrap64 (x4 + 1)))) else (spoolref05_ends.l0 k x0 t198 (wrap64 (x4 + 1)))) else (spoolref05_ends.l0 k x0 t198 (wrap64 (x4 + 1))))) else (none)) else (none)) else (if 0 ≤ x4 then (if x4 < (x0.length : Int) then (if ((rd_T60 x0 x4).f1) ≥ 0 then (if ((rd_T60 x0 x4).f1) < 1114111 then ((spoolref05_put.f k x3 (wrap64 (((rd_T60 x0 x4).f1) + 1))).bind fun t210 => (spoolref05_ends.l0 k x0 t210 (wrap64 (x4 + 1)))) else (spoolref05_ends.l0 k x0 x3 (wrap64 (x4 + 1)))) else (spoolref05_ends.l0 k x0 x3 (wrap64 (x4 + 1)))) else (none)) else (none))
end
def spoolref05_ends.f (k : Nat) (l0 : List (S60)) : Option (List Int) := spoolref05_ends.l0 k l0 (([0, 1114112] : List Int)) 0
theorem spoolref05_ends.mono_l : ∀ k, (∀ y0 y1 y2, LeO (spoolref05_ends.l0 k y0 y1 y2) (spoolref05_ends.l0 (k + 1) y0 y1 y2)) ∧ (∀ y0 y1 y2 y3, LeO (spoolref05_ends.j1 k y0 y1 y2 y3) (spoolref05_ends.j1 (k + 1) y0 y1 y2 y3))
 | 0 => ⟨fun _ _ _ r h => by simp [spoolref05_ends.l0] at h, fun _ _ _ _ r h => by simp [spoolref05_ends.j1] at h⟩
 | k + 1 => by
  obtain ⟨ih0, ih1⟩ := spoolref05_ends.mono_l k
  refine ⟨?_, ?_⟩
  ·intro y0 y1 y2
   unfold spoolref05_ends.l0
   repeat' first
   | (with_reducible exact ih0 _ _ _)
   | (with_reducible exact ih1 _ _ _ _)
   | (with_reducible exact spoolref05_put.mono _ _ _)
   | (with_reducible exact LeO.refl _)
   | (with_reducible exact LeO.none _)
   | (with_reducible refine LeO.ite ?_ ?_)
   | (with_reducible refine LeO.bind ?_ (fun _ => ?_))
   | exact ih0 _ _ _
   | exact ih1 _ _ _ _
   | exact spoolref05_put.mono _ _ _
   | exact LeO.none _
   | refine LeO.ite ?_ ?_
   | refine LeO.bind ?_ (fun _ => ?_)
  ·intro y0 y1 y2 y3
   unfold spoolref05_ends.j1
   repeat' first
   | (with_reducible exact ih0 _ _ _)
   | (with_reducible exact ih1 _ _ _ _)
   | (with_reducible exact spoolref05_put.mono _ _ _)
   | (with_reducible exact LeO.refl _)
   | (with_reducible exact LeO.none _)
   | (with_reducible refine LeO.ite ?_ ?_)
   | (with_reducible refine LeO.bind ?_ (fun _ => ?_))
   | exact ih0 _ _ _
   | exact ih1 _ _ _ _
   | exact spoolref05_put.mono _ _ _
   | exact LeO.none _
   | refine LeO.ite ?_ ?_
   | refine LeO.bind ?_ (fun _ => ?_)
theorem spoolref05_ends.mono : ∀ a0 k, LeO (spoolref05_ends.f k a0) (spoolref05_ends.f (k + 1) a0) := by
 intro a0 k
 obtain ⟨ih0, ih1⟩ := spoolref05_ends.mono_l k
 unfold spoolref05_ends.f
 repeat' first
   | (with_reducible exact ih0 _ _ _)
   | (with_reducible exact ih1 _ _ _ _)
   | (with_reducible exact spoolref05_put.mono _ _ _)
   | (with_reducible exact LeO.refl _)
   | (with_reducible exact LeO.none _)
   | (with_reducible refine LeO.ite ?_ ?_)
   | (with_reducible refine LeO.bind ?_ (fun _ => ?_))
   | exact ih0 _ _ _
   | exact ih1 _ _ _ _
   | exact spoolref05_put.mono _ _ _
   | exact LeO.none _
   | refine LeO.ite ?_ ?_
   | refine LeO.bind ?_ (fun _ => ?_)
set_option maxHeartbeats 8000000 in
set_option maxRecDepth 100000 in
theorem spoolref05_ends.calls (k : Nat) (A0 : Option Addr) (c0 : Nat) (l0 : List (S60)) (r : List Int) (w : World) (hr0 : Kd.C k60 w A0 l0.length l0) (hc0 : l0.length ≤ c0) (h : spoolref05_ends.f k l0 = some r) :
  Calls Tryd.prog 41 #[.slice A0 l0.length c0] w fun e w' => ∃ v0_ : Value, e = .returned (v0_) ∧ Kd.R (Kd.int .i64) 3 w' w.heap.size (fun _ => True) v0_ r ∧ Below w.heap.size w w' := by
 have HR0 := Aside0.mk hr0
 have HC0 := Aside0.mk hc0
 clear hr0 hc0
 have HB := Aside0.mk (Below.refl w.heap.size w)
 have H : (spoolref05_ends.l0 k l0 (([0, 1114112] : List Int)) 0) = some r := h
 clear h
 obtain ⟨y192, hy192⟩ : ∃ y_ : List Int, y_ = (([0, 1114112] : List Int)) := ⟨_, rfl⟩
 replace H : (spoolref05_ends.l0 k l0 y192 0) = some r := by first | (rw [hy192]; with_reducible exact H) | (have H2_ := (Option.bind_some _ _).symm.trans H; rw [hy192]; with_reducible exact H2_) | (have H2_ := (Option.bind_some _ _).symm.trans H; with_reducible exact H2_) | with_reducible exact H | (rw [hy192]; exact H) | exact H
 have Ny192 := Aside0.mk hy192
 clear hy192
 have H' := Aside0.mk H
 clear H
 go_enter Tryd.func41, Tryd.ntmps41
 go_wp2_with (first | ((with_reducible refine gate_dst (N := 5) rfl ?_); refine Kd.R_lit (Kd.int .i64) _ 3 ?hg (N := 5) ?hd (xs := ([0, 1114112] : List Int)) (inner := [.int .i64 0, .int .i64 1114112]) (ok := fun _ => True) (okp := fun _ => True) ?hr ?hp (fun _ hk => hk) trivial (Below.refl _ _) (Nat.le_refl _) (by simp) ?_; (case hd => rfl); (case hg => rfl); (case hr => first | (go_simp; done) | (go_simp; rfl)); (case hp => exact (Reps.one (show Kd.M (Kd.int .i64) _ _ _ 0 [.int .i64 0] from rfl) (Reps.one (show Kd.M (Kd.int .i64) _ _ _ 1114112 [.int .i64 1114112] from rfl) (Reps.none _ _)))); intro v193 w2 ho3 hb hg_ hnew_; clear hg_ hnew_; (first | rw [← Ny192.out] at ho3 | (simp only [Int.reduceToNat] at ho3; rw [← Ny192.out] at ho3)); have n0_ := Aside0.mk (Kd.R_lower ho3 (below_size (blw_ HB.out))); have n1_ := Aside0.mk (below_step (blw_ HB.out) hb); clear HB; have HO194 := n0_; have HB := n1_; clear n0_ n1_; clear hb ho3))
 go_loopg [3, 4] k (fun kq v3 v4 w' => ∃ (x3_1 : List Int) (x4_1 : Int), v4 = .int .i64 x4_1 ∧ Aside0 (spoolref05_ends.l0 kq l0 x3_1 x4_1 = some r) ∧ Aside0 (kq ≤ k) ∧ Aside0 (Kd.R (Kd.int .i64) 3 w' w.heap.size (fun _ => True) v3 x3_1) ∧ Aside0 (Below w.heap.size w w'))
 case atStart => exact ⟨(y192), (0), fib_, H', ⟨Nat.le_refl _⟩, ⟨by (with_reducible repeat (first | apply Kd.R_alloc | apply Kd.R_drewN | apply Kd.R_drew)); exact HO194.out⟩, ⟨blw_ HB.out⟩⟩
 case round =>
  clear H'
  try clear p2
  obtain ⟨x3_1, x4_1, rfl, HA, HK1, HO_3, HB⟩ := hrel
  cases gk with
  | zero => exact absurd HA.out (by simp [spoolref05_ends.l0])
  | succ k1 =>
   have H := HA.out
   clear HA
   simp only [spoolref05_ends.l0] at H
   by_cases c4 : x4_1 < (l0.length : Int)
   ·rw [if_pos c4] at H
    have c4b0 : decide (x4_1 < (l0.length : Int)) = true := decide_eq_true c4
    clear c4
    have HC5 := Aside0.mk H
    clear H
    go_upto_region 5 with (fail)
    go_cut [25] (fun v25 wc => ∃ (kq : Nat) (x25_4 : Bool), v25 = .bool x25_4 ∧ Aside0 (spoolref05_ends.j1 kq l0 x3_1 x4_1 x25_4 = some r) ∧ Aside0 (kq ≤ k1) ∧ Aside0 (Kd.R (Kd.int .i64) 3 wc w.heap.size (fun _ => True) u3 x3_1) ∧ Aside0 (Below w.heap.size w wc))
    case first =>
     have H := HC5.out
     clear HC5
     by_cases c6 : 0 ≤ x4_1
     ·rw [if_pos c6] at H
      have c6b0 : decide (0 ≤ x4_1) = true := decide_eq_true c6
      clear c6
      (first | rw [c6b0] | (simp only [i64_w, i32_w]; rw [c6b0]) | skip)
      by_cases c7 : ((rd_T60 l0 x4_1).f0) > 0
      ·rw [if_pos c7] at H
       have c7b0 : decide (0 < ((rd_T60 l0 x4_1).f0)) = true := decide_eq_true c7
       clear c7
       have H' := Aside0.mk H
       clear H
       have p195 : 0 ≤ (x4_1 : Int) := of_decide_eq_true asa_
       have q195 : x4_1 < (l0.length : Int) := of_decide_eq_true asa_
       obtain ⟨ad195, e195, hx195_0, hx195_1⟩ := at_T60 HR0.out x4_1 p195 q195
       cases e195
       replace hx195_0 := (HB.out.cell (World.block_lt_of_cell? w _ hx195_0)).trans hx195_0
       replace hx195_1 := (HB.out.cell (World.block_lt_of_cell? w _ hx195_1)).trans hx195_1
       replace p195 := eq_true p195
       replace q195 := eq_true q195
       have p196 : 0 ≤ (x4_1 : Int) := of_decide_eq_true asa_
       have q196 : x4_1 < (l0.length : Int) := of_decide_eq_true asa_
       obtain ⟨ad196, e196, hx196_0, hx196_1⟩ := at_T60 HR0.out x4_1 p196 q196
       obtain rfl : ad195 = ad196 := (by injection e196)
       replace hx196_0 := (HB.out.cell (World.block_lt_of_cell? w _ hx196_0)).trans hx196_0
       replace hx196_1 := (HB.out.cell (World.block_lt_of_cell? w _ hx196_1)).trans hx196_1
       replace p196 := eq_true p196
       replace q196 := eq_true q196
       go_wp2
       go_meet
       case rel => exact ⟨_, (decide (((rd_T60 l0 x4_1).f0) < 1114112)), fib_, H', ⟨by have := HK1.out; first | omega | exact Nat.le_refl _⟩, ⟨by (with_reducible repeat (first | apply Kd.R_alloc | apply Kd.R_drewN | apply Kd.R_drew)); exact HO_3.out⟩, ⟨blw_ HB.out⟩⟩
      ·rw [if_neg c7] at H
       have c7b0 : decide (0 < ((rd_T60 l0 x4_1).f0)) = false := decide_eq_false c7
       clear c7
       have H' := Aside0.mk H
       clear H
       have p195 : 0 ≤ (x4_1 : Int) := of_decide_eq_true asa_
       have q195 : x4_1 < (l0.length : Int) := of_decide_eq_true asa_
       obtain ⟨ad195, e195, hx195_0, hx195_1⟩ := at_T60 HR0.out x4_1 p195 q195
       cases e195
       replace hx195_0 := (HB.out.cell (World.block_lt_of_cell? w _ hx195_0)).trans hx195_0
       replace hx195_1 := (HB.out.cell (World.block_lt_of_cell? w _ hx195_1)).trans hx195_1
       replace p195 := eq_true p195
       replace q195 := eq_true q195
       go_wp2
       go_meet
       case rel => exact ⟨_, (false), fib_, H', ⟨by have := HK1.out; first | omega | exact Nat.le_refl _⟩, ⟨by (with_reducible repeat (first | apply Kd.R_alloc | apply Kd.R_drewN | apply Kd.R_drew)); exact HO_3.out⟩, ⟨blw_ HB.out⟩⟩
     ·rw [if_neg c6] at H
      exact absurd H (by simp)
    case rest =>
     clear HC5
     try clear p1
     try clear q1
     try clear hx1
     try clear p2
     try clear c4
     try clear c4b0
     try clear c6
     try clear c6b0
     try clear c7
     try clear c7b0
     try clear hx195_0
     try clear hx195_1
     try clear hx196_0
     try clear hx196_1
     try clear p195
     try clear p196
     try clear p2
     try clear q195
     try clear q196
     obtain ⟨kq, x25_4, rfl, HA, HJ4, HO_3, HB⟩ := hcut
     cases kq with
     | zero => exact absurd HA.out (by simp [spoolref05_ends.j1])
     | succ kj4 =>
      have H := HA.out
      clear HA
      simp only [spoolref05_ends.j1] at H
      by_cases c8 : x25_4 = true
      ·subst c8
       have H1 : (if 0 ≤ x4_1 then (if x4_1 < (l0.length : Int) then ((spoolref05_put.f kj4 x3_1 ((rd_T60 l0 x4_1).f0)).bind fun t198 => (if ((rd_T60 l0 x4_1).f1) ≥ 0 then (if ((rd_T60 l0 x4_1).f1) < 1114111 then ((spoolref05_put.f kj4 t198 (wrap64 (((rd_T60 l0 x4_1).f1) + 1))).bind fun t204 => (spoolref05_ends.l0 kj4 l0 t204 (wrap64 (x4_1 + 1)))) else (spoolref05_ends.l0 kj4 l0 t198 (wrap64 (x4_1 + 1)))) else (spoolref05_ends.l0 kj4 l0 t198 (wrap64 (x4_1 + 1))))) else (none)) else (none)) = some r := by rw [if_pos rfl] at H; exact H
       clear H
       have H := H1
       clear H1
       by_cases c9 : 0 ≤ x4_1
       ·rw [if_pos c9] at H
        have c9b0 : decide (0 ≤ x4_1) = true := decide_eq_true c9
        clear c9
        by_cases c10 : x4_1 < (l0.length : Int)
        ·rw [if_pos c10] at H
         have c10b0 : decide (x4_1 < (l0.length : Int)) = true := decide_eq_true c10
         clear c10
         replace H := Option.bind_eq_some_iff.mp H
         obtain ⟨t198, A110, H⟩ := H
         replace H : (if ((rd_T60 l0 x4_1).f1) ≥ 0 then (if ((rd_T60 l0 x4_1).f1) < 1114111 then ((spoolref05_put.f kj4 t198 (wrap64 (((rd_T60 l0 x4_1).f1) + 1))).bind fun t204 => (spoolref05_ends.l0 kj4 l0 t204 (wrap64 (x4_1 + 1)))) else (spoolref05_ends.l0 kj4 l0 t198 (wrap64 (x4_1 + 1)))) else (spoolref05_ends.l0 kj4 l0 t198 (wrap64 (x4_1 + 1)))) = some r := H
         have A11 := Aside0.mk A110
         clear A110
         by_cases c12 : ((rd_T60 l0 x4_1).f1) ≥ 0
         ·rw [if_pos c12] at H
          have c12b0 : decide (0 ≤ ((rd_T60 l0 x4_1).f1)) = true := decide_eq_true c12
          clear c12
          by_cases c13 : ((rd_T60 l0 x4_1).f1) < 1114111
          ·rw [if_pos c13] at H
           have c13b0 : decide (((rd_T60 l0 x4_1).f1) < 1114111) = true := decide_eq_true c13
           clear c13
           replace H := Option.bind_eq_some_iff.mp H
           obtain ⟨t204, A140, H⟩ := H
           replace H : (spoolref05_ends.l0 kj4 l0 t204 (wrap64 (x4_1 + 1))) = some r := H
           have A14 := Aside0.mk A140
           clear A140
           have H' := Aside0.mk H
           clear H
           have p197 : 0 ≤ (x4_1 : Int) := of_decide_eq_true asa_
           have q197 : x4_1 < (l0.length : Int) := of_decide_eq_true asa_
           obtain ⟨ad197, e197, hx197_0, hx197_1⟩ := at_T60 HR0.out x4_1 p197 q197
           cases e197
           replace hx197_0 := (HB.out.cell (World.block_lt_of_cell? w _ hx197_0)).trans hx197_0
           replace hx197_1 := (HB.out.cell (World.block_lt_of_cell? w _ hx197_1)).trans hx197_1
           replace p197 := eq_true p197
           replace q197 := eq_true q197
           obtain ⟨Ao15, co15, eo15⟩ := Kd.R_slice HO_3.out
           subst eo15
           go_wp2_with (first | ((with_reducible refine gate_callee (f := 47) rfl ?_); refine goesL_ (some 32) rfl rfl Tryd.func47 (by kernel_rfl) rfl #[.slice Ao15 x3_1.length co15, .int .i64 ((rd_T60 l0 x4_1).f0)] rfl lma_ ?_; (with_reducible refine (spoolref05_put.calls kj4 (fun k_ => some k_ = (.slice Ao15 x3_1.length co15 : Value).ownBlock) (.slice Ao15 x3_1.length co15) x3_1 ((rd_T60 l0 x4_1).f0) t198 w _ ?side1 ?side2 A11.out).mono ?_); (case side1 => repeat (first | (with_reducible first | exact HB.out | apply below_alloc | apply pw_below_drewN | apply below_drew1) | exact HB.out)); (case side2 => exact Kd.R_tight rfl HO_3.out); rintro e w16 ⟨v199, rfl, ho0, hb, hkp⟩; refine ⟨_, rfl, ?_⟩; have n0_ := Aside0.mk (Kd.R_mono (ok' := fun k_ => True) ho0 (fun k_ hk_ => trivial)); have n1_ := Aside0.mk (hb); clear HB; clear HO_3; have HO200 := n0_; have HB := n1_; clear n0_ n1_; (try clear hb); (try clear hkp); (try clear ho0); have p201 : 0 ≤ (x4_1 : Int) := of_decide_eq_true asa_; have q201 : x4_1 < (l0.length : Int) := of_decide_eq_true asa_; obtain ⟨ad201, e201, hx201_0, hx201_1⟩ := at_T60 HR0.out x4_1 p201 q201; obtain rfl : ad197 = ad201 := (by injection e201); replace hx201_0 := (HB.out.cell (World.block_lt_of_cell? w _ hx201_0)).trans hx201_0; replace hx201_1 := (HB.out.cell (World.block_lt_of_cell? w _ hx201_1)).trans hx201_1; replace p201 := eq_true p201; replace q201 := eq_true q201; have p202 : 0 ≤ (x4_1 : Int) := of_decide_eq_true asa_; have q202 : x4_1 < (l0.length : Int) := of_decide_eq_true asa_; obtain ⟨ad202, e202, hx202_0, hx202_1⟩ := at_T60 HR0.out x4_1 p202 q202; obtain rfl : ad197 = ad202 := (by injection e202); replace hx202_0 := (HB.out.cell (World.block_lt_of_cell? w _ hx202_0)).trans hx202_0; replace hx202_1 := (HB.out.cell (World.block_lt_of_cell? w _ hx202_1)).trans hx202_1; replace p202 := eq_true p202; replace q202 := eq_true q202; have p203 : 0 ≤ (x4_1 : Int) := of_decide_eq_true asa_; have q203 : x4_1 < (l0.length : Int) := of_decide_eq_true asa_; obtain ⟨ad203, e203, hx203_0, hx203_1⟩ := at_T60 HR0.out x4_1 p203 q203; obtain rfl : ad197 = ad203 := (by injection e203); replace hx203_0 := (HB.out.cell (World.block_lt_of_cell? w _ hx203_0)).trans hx203_0; replace hx203_1 := (HB.out.cell (World.block_lt_of_cell? w _ hx203_1)).trans hx203_1; replace p203 := eq_true p203; replace q203 := eq_true q203; obtain ⟨Ao17, co17, eo17⟩ := Kd.R_slice HO200.out; subst eo17) | ((with_reducible refine gate_callee (f := 47) rfl ?_); refine goesL_ (some 54) rfl rfl Tryd.func47 (by kernel_rfl) rfl #[.slice Ao17 t198.length co17, .int .i64 (wrap64 (((rd_T60 l0 x4_1).f1) + 1))] rfl lma_ ?_; (with_reducible refine (spoolref05_put.calls kj4 (fun k_ => some k_ = (.slice Ao17 t198.length co17 : Value).ownBlock) (.slice Ao17 t198.length co17) t198 (wrap64 (((rd_T60 l0 x4_1).f1) + 1)) t204 w _ ?side1 ?side2 A14.out).mono ?_); (case side1 => repeat (first | (with_reducible first | exact HB.out | apply below_alloc | apply pw_below_drewN | apply below_drew1) | exact HB.out)); (case side2 => exact Kd.R_tight rfl HO200.out); rintro e w18 ⟨v205, rfl, ho0, hb, hkp⟩; refine ⟨_, rfl, ?_⟩; have n0_ := Aside0.mk (Kd.R_mono (ok' := fun k_ => True) ho0 (fun k_ hk_ => trivial)); have n1_ := Aside0.mk (hb); clear HB; clear HO200; have HO206 := n0_; have HB := n1_; clear n0_ n1_; (try clear hb); (try clear hkp); (try clear ho0)))
           go_roundg kj4
           case measure => have := HK1.out; have := HJ4.out; omega
           case rel => exact ⟨(t204), (wrap64 (x4_1 + 1)), fib_, H', ⟨by have := HK1.out; have := HJ4.out; omega⟩, ⟨by (with_reducible repeat (first | apply Kd.R_alloc | apply Kd.R_drewN | apply Kd.R_drew)); exact HO206.out⟩, ⟨blw_ HB.out⟩⟩
          ·rw [if_neg c13] at H
           have c13b0 : decide (((rd_T60 l0 x4_1).f1) < 1114111) = false := decide_eq_false c13
           clear c13
           have H' := Aside0.mk H
           clear H
           have p197 : 0 ≤ (x4_1 : Int) := of_decide_eq_true asa_
           have q197 : x4_1 < (l0.length : Int) := of_decide_eq_true asa_
           obtain ⟨ad197, e197, hx197_0, hx197_1⟩ := at_T60 HR0.out x4_1 p197 q197
           cases e197
           replace hx197_0 := (HB.out.cell (World.block_lt_of_cell? w _ hx197_0)).trans hx197_0
           replace hx197_1 := (HB.out.cell (World.block_lt_of_cell? w _ hx197_1)).trans hx197_1
           replace p197 := eq_true p197
           replace q197 := eq_true q197
           obtain ⟨Ao19, co19, eo19⟩ := Kd.R_slice HO_3.out
           subst eo19
           go_wp2_with (first | ((with_reducible refine gate_callee (f := 47) rfl ?_); refine goesL_ (some 32) rfl rfl Tryd.func47 (by kernel_rfl) rfl #[.slice Ao19 x3_1.length co19, .int .i64 ((rd_T60 l0 x4_1).f0)] rfl lma_ ?_; (with_reducible refine (spoolref05_put.calls kj4 (fun k_ => some k_ = (.slice Ao19 x3_1.length co19 : Value).ownBlock) (.slice Ao19 x3_1.length co19) x3_1 ((rd_T60 l0 x4_1).f0) t198 w _ ?side1 ?side2 A11.out).mono ?_); (case side1 => repeat (first | (with_reducible first | exact HB.out | apply below_alloc | apply pw_below_drewN | apply below_drew1) | exact HB.out)); (case side2 => exact Kd.R_tight rfl HO_3.out); rintro e w20 ⟨v199, rfl, ho0, hb, hkp⟩; refine ⟨_, rfl, ?_⟩; have n0_ := Aside0.mk (Kd.R_mono (ok' := fun k_ => True) ho0 (fun k_ hk_ => trivial)); have n1_ := Aside0.mk (hb); clear HB; clear HO_3; have HO200 := n0_; have HB := n1_; clear n0_ n1_; (try clear hb); (try clear hkp); (try clear ho0); have p201 : 0 ≤ (x4_1 : Int) := of_decide_eq_true asa_; have q201 : x4_1 < (l0.length : Int) := of_decide_eq_true asa_; obtain ⟨ad201, e201, hx201_0, hx201_1⟩ := at_T60 HR0.out x4_1 p201 q201; obtain rfl : ad197 = ad201 := (by injection e201); replace hx201_0 := (HB.out.cell (World.block_lt_of_cell? w _ hx201_0)).trans hx201_0; replace hx201_1 := (HB.out.cell (World.block_lt_of_cell? w _ hx201_1)).trans hx201_1; replace p201 := eq_true p201; replace q201 := eq_true q201; have p202 : 0 ≤ (x4_1 : Int) := of_decide_eq_true asa_; have q202 : x4_1 < (l0.length : Int) := of_decide_eq_true asa_; obtain ⟨ad202, e202, hx202_0, hx202_1⟩ := at_T60 HR0.out x4_1 p202 q202; obtain rfl : ad197 = ad202 := (by injection e202); replace hx202_0 := (HB.out.cell (World.block_lt_of_cell? w _ hx202_0)).trans hx202_0; replace hx202_1 := (HB.out.cell (World.block_lt_of_cell? w _ hx202_1)).trans hx202_1; replace p202 := eq_true p202; replace q202 := eq_true q202))
           go_roundg kj4
           case measure => have := HK1.out; have := HJ4.out; omega
           case rel => exact ⟨(t198), (wrap64 (x4_1 + 1)), fib_, H', ⟨by have := HK1.out; have := HJ4.out; omega⟩, ⟨by (with_reducible repeat (first | apply Kd.R_alloc | apply Kd.R_drewN | apply Kd.R_drew)); exact HO200.out⟩, ⟨blw_ HB.out⟩⟩
         ·rw [if_neg c12] at H
          have c12b0 : decide (0 ≤ ((rd_T60 l0 x4_1).f1)) = false := decide_eq_false c12
          clear c12
          have H' := Aside0.mk H
          clear H
          have p197 : 0 ≤ (x4_1 : Int) := of_decide_eq_true asa_
          have q197 : x4_1 < (l0.length : Int) := of_decide_eq_true asa_
          obtain ⟨ad197, e197, hx197_0, hx197_1⟩ := at_T60 HR0.out x4_1 p197 q197
          cases e197
          replace hx197_0 := (HB.out.cell (World.block_lt_of_cell? w _ hx197_0)).trans hx197_0
          replace hx197_1 := (HB.out.cell (World.block_lt_of_cell? w _ hx197_1)).trans hx197_1
          replace p197 := eq_true p197
          replace q197 := eq_true q197
          obtain ⟨Ao21, co21, eo21⟩ := Kd.R_slice HO_3.out
          subst eo21
          go_wp2_with (first | ((with_reducible refine gate_callee (f := 47) rfl ?_); refine goesL_ (some 32) rfl rfl Tryd.func47 (by kernel_rfl) rfl #[.slice Ao21 x3_1.length co21, .int .i64 ((rd_T60 l0 x4_1).f0)] rfl lma_ ?_; (with_reducible refine (spoolref05_put.calls kj4 (fun k_ => some k_ = (.slice Ao21 x3_1.length co21 : Value).ownBlock) (.slice Ao21 x3_1.length co21) x3_1 ((rd_T60 l0 x4_1).f0) t198 w _ ?side1 ?side2 A11.out).mono ?_); (case side1 => repeat (first | (with_reducible first | exact HB.out | apply below_alloc | apply pw_below_drewN | apply below_drew1) | exact HB.out)); (case side2 => exact Kd.R_tight rfl HO_3.out); rintro e w22 ⟨v199, rfl, ho0, hb, hkp⟩; refine ⟨_, rfl, ?_⟩; have n0_ := Aside0.mk (Kd.R_mono (ok' := fun k_ => True) ho0 (fun k_ hk_ => trivial)); have n1_ := Aside0.mk (hb); clear HB; clear HO_3; have HO200 := n0_; have HB := n1_; clear n0_ n1_; (try clear hb); (try clear hkp); (try clear ho0); have p201 : 0 ≤ (x4_1 : Int) := of_decide_eq_true asa_; have q201 : x4_1 < (l0.length : Int) := of_decide_eq_true asa_; obtain ⟨ad201, e201, hx201_0, hx201_1⟩ := at_T60 HR0.out x4_1 p201 q201; obtain rfl : ad197 = ad201 := (by injection e201); replace hx201_0 := (HB.out.cell (World.block_lt_of_cell? w _ hx201_0)).trans hx201_0; replace hx201_1 := (HB.out.cell (World.block_lt_of_cell? w _ hx201_1)).trans hx201_1; replace p201 := eq_true p201; replace q201 := eq_true q201))
          go_roundg kj4
          case measure => have := HK1.out; have := HJ4.out; omega
          case rel => exact ⟨(t198), (wrap64 (x4_1 + 1)), fib_, H', ⟨by have := HK1.out; have := HJ4.out; omega⟩, ⟨by (with_reducible repeat (first | apply Kd.R_alloc | apply Kd.R_drewN | apply Kd.R_drew)); exact HO200.out⟩, ⟨blw_ HB.out⟩⟩
        ·rw [if_neg c10] at H
         exact absurd H (by simp)
       ·rw [if_neg c9] at H
        exact absurd H (by simp)
      ·replace c8 := Bool.eq_false_iff.mpr c8
       subst c8
       have H1 : (if 0 ≤ x4_1 then (if x4_1 < (l0.length : Int) then (if ((rd_T60 l0 x4_1).f1) ≥ 0 then (if ((rd_T60 l0 x4_1).f1) < 1114111 then ((spoolref05_put.f kj4 x3_1 (wrap64 (((rd_T60 l0 x4_1).f1) + 1))).bind fun t210 => (spoolref05_ends.l0 kj4 l0 t210 (wrap64 (x4_1 + 1)))) else (spoolref05_ends.l0 kj4 l0 x3_1 (wrap64 (x4_1 + 1)))) else (spoolref05_ends.l0 kj4 l0 x3_1 (wrap64 (x4_1 + 1)))) else (none)) else (none)) = some r := by rw [if_neg (show ¬ (false = true) by decide)] at H; exact H
       clear H
       have H := H1
       clear H1
       by_cases c23 : 0 ≤ x4_1
       ·rw [if_pos c23] at H
        have c23b0 : decide (0 ≤ x4_1) = true := decide_eq_true c23
        clear c23
        by_cases c24 : x4_1 < (l0.length : Int)
        ·rw [if_pos c24] at H
         have c24b0 : decide (x4_1 < (l0.length : Int)) = true := decide_eq_true c24
         clear c24
         by_cases c25 : ((rd_T60 l0 x4_1).f1) ≥ 0
         ·rw [if_pos c25] at H
          have c25b0 : decide (0 ≤ ((rd_T60 l0 x4_1).f1)) = true := decide_eq_true c25
          clear c25
          by_cases c26 : ((rd_T60 l0 x4_1).f1) < 1114111
          ·rw [if_pos c26] at H
           have c26b0 : decide (((rd_T60 l0 x4_1).f1) < 1114111) = true := decide_eq_true c26
           clear c26
           replace H := Option.bind_eq_some_iff.mp H
           obtain ⟨t210, A270, H⟩ := H
           replace H : (spoolref05_ends.l0 kj4 l0 t210 (wrap64 (x4_1 + 1))) = some r := H
           have A27 := Aside0.mk A270
           clear A270
           have H' := Aside0.mk H
           clear H
           have p207 : 0 ≤ (x4_1 : Int) := of_decide_eq_true asa_
           have q207 : x4_1 < (l0.length : Int) := of_decide_eq_true asa_
           obtain ⟨ad207, e207, hx207_0, hx207_1⟩ := at_T60 HR0.out x4_1 p207 q207
           cases e207
           replace hx207_0 := (HB.out.cell (World.block_lt_of_cell? w _ hx207_0)).trans hx207_0
           replace hx207_1 := (HB.out.cell (World.block_lt_of_cell? w _ hx207_1)).trans hx207_1
           replace p207 := eq_true p207
           replace q207 := eq_true q207
           have p208 : 0 ≤ (x4_1 : Int) := of_decide_eq_true asa_
           have q208 : x4_1 < (l0.length : Int) := of_decide_eq_true asa_
           obtain ⟨ad208, e208, hx208_0, hx208_1⟩ := at_T60 HR0.out x4_1 p208 q208
           obtain rfl : ad207 = ad208 := (by injection e208)
           replace hx208_0 := (HB.out.cell (World.block_lt_of_cell? w _ hx208_0)).trans hx208_0
           replace hx208_1 := (HB.out.cell (World.block_lt_of_cell? w _ hx208_1)).trans hx208_1
           replace p208 := eq_true p208
           replace q208 := eq_true q208
           have p209 : 0 ≤ (x4_1 : Int) := of_decide_eq_true asa_
           have q209 : x4_1 < (l0.length : Int) := of_decide_eq_true asa_
           obtain ⟨ad209, e209, hx209_0, hx209_1⟩ := at_T60 HR0.out x4_1 p209 q209
           obtain rfl : ad207 = ad209 := (by injection e209)
           replace hx209_0 := (HB.out.cell (World.block_lt_of_cell? w _ hx209_0)).trans hx209_0
           replace hx209_1 := (HB.out.cell (World.block_lt_of_cell? w _ hx209_1)).trans hx209_1
           replace p209 := eq_true p209
           replace q209 := eq_true q209
           obtain ⟨Ao28, co28, eo28⟩ := Kd.R_slice HO_3.out
           subst eo28
           go_wp2_with (first | ((with_reducible refine gate_callee (f := 47) rfl ?_); refine goesL_ (some 54) rfl rfl Tryd.func47 (by kernel_rfl) rfl #[.slice Ao28 x3_1.length co28, .int .i64 (wrap64 (((rd_T60 l0 x4_1).f1) + 1))] rfl lma_ ?_; (with_reducible refine (spoolref05_put.calls kj4 (fun k_ => some k_ = (.slice Ao28 x3_1.length co28 : Value).ownBlock) (.slice Ao28 x3_1.length co28) x3_1 (wrap64 (((rd_T60 l0 x4_1).f1) + 1)) t210 w _ ?side1 ?side2 A27.out).mono ?_); (case side1 => repeat (first | (with_reducible first | exact HB.out | apply below_alloc | apply pw_below_drewN | apply below_drew1) | exact HB.out)); (case side2 => exact Kd.R_tight rfl HO_3.out); rintro e w29 ⟨v211, rfl, ho0, hb, hkp⟩; refine ⟨_, rfl, ?_⟩; have n0_ := Aside0.mk (Kd.R_mono (ok' := fun k_ => True) ho0 (fun k_ hk_ => trivial)); have n1_ := Aside0.mk (hb); clear HB; clear HO_3; have HO212 := n0_; have HB := n1_; clear n0_ n1_; (try clear hb); (try clear hkp); (try clear ho0)))
           go_roundg kj4
           case measure => have := HK1.out; have := HJ4.out; omega
           case rel => exact ⟨(t210), (wrap64 (x4_1 + 1)), fib_, H', ⟨by have := HK1.out; have := HJ4.out; omega⟩, ⟨by (with_reducible repeat (first | apply Kd.R_alloc | apply Kd.R_drewN | apply Kd.R_drew)); exact HO212.out⟩, ⟨blw_ HB.out⟩⟩
          ·rw [if_neg c26] at H
           have c26b0 : decide (((rd_T60 l0 x4_1).f1) < 1114111) = false := decide_eq_false c26
           clear c26
           have H' := Aside0.mk H
           clear H
           have p207 : 0 ≤ (x4_1 : Int) := of_decide_eq_true asa_
           have q207 : x4_1 < (l0.length : Int) := of_decide_eq_true asa_
           obtain ⟨ad207, e207, hx207_0, hx207_1⟩ := at_T60 HR0.out x4_1 p207 q207
           cases e207
           replace hx207_0 := (HB.out.cell (World.block_lt_of_cell? w _ hx207_0)).trans hx207_0
           replace hx207_1 := (HB.out.cell (World.block_lt_of_cell? w _ hx207_1)).trans hx207_1
           replace p207 := eq_true p207
           replace q207 := eq_true q207
           have p208 : 0 ≤ (x4_1 : Int) := of_decide_eq_true asa_
           have q208 : x4_1 < (l0.length : Int) := of_decide_eq_true asa_
           obtain ⟨ad208, e208, hx208_0, hx208_1⟩ := at_T60 HR0.out x4_1 p208 q208
           obtain rfl : ad207 = ad208 := (by injection e208)
           replace hx208_0 := (HB.out.cell (World.block_lt_of_cell? w _ hx208_0)).trans hx208_0
           replace hx208_1 := (HB.out.cell (World.block_lt_of_cell? w _ hx208_1)).trans hx208_1
           replace p208 := eq_true p208
           replace q208 := eq_true q208
           go_wp2
           go_roundg kj4
           case measure => have := HK1.out; have := HJ4.out; omega
           case rel => exact ⟨(x3_1), (wrap64 (x4_1 + 1)), fib_, H', ⟨by have := HK1.out; have := HJ4.out; omega⟩, ⟨by (with_reducible repeat (first | apply Kd.R_alloc | apply Kd.R_drewN | apply Kd.R_drew)); exact HO_3.out⟩, ⟨blw_ HB.out⟩⟩
         ·rw [if_neg c25] at H
          have c25b0 : decide (0 ≤ ((rd_T60 l0 x4_1).f1)) = false := decide_eq_false c25
          clear c25
          have H' := Aside0.mk H
          clear H
          have p207 : 0 ≤ (x4_1 : Int) := of_decide_eq_true asa_
          have q207 : x4_1 < (l0.length : Int) := of_decide_eq_true asa_
          obtain ⟨ad207, e207, hx207_0, hx207_1⟩ := at_T60 HR0.out x4_1 p207 q207
          cases e207
          replace hx207_0 := (HB.out.cell (World.block_lt_of_cell? w _ hx207_0)).trans hx207_0
          replace hx207_1 := (HB.out.cell (World.block_lt_of_cell? w _ hx207_1)).trans hx207_1
          replace p207 := eq_true p207
          replace q207 := eq_true q207
          go_wp2
          go_roundg kj4
          case measure => have := HK1.out; have := HJ4.out; omega
          case rel => exact ⟨(x3_1), (wrap64 (x4_1 + 1)), fib_, H', ⟨by have := HK1.out; have := HJ4.out; omega⟩, ⟨by (with_reducible repeat (first | apply Kd.R_alloc | apply Kd.R_drewN | apply Kd.R_drew)); exact HO_3.out⟩, ⟨blw_ HB.out⟩⟩
        ·rw [if_neg c24] at H
         exact absurd H (by simp)
       ·rw [if_neg c23] at H
        exact absurd H (by simp)
   ·rw [if_neg c4] at H
    have c4b0 : decide (x4_1 < (l0.length : Int)) = false := decide_eq_false c4
    clear c4
    obtain rfl := Option.some.inj H
    go_wp2
    go_ret
    exact ⟨_, fia_, by (with_reducible repeat (first | apply Kd.R_alloc | apply Kd.R_drewN | apply Kd.R_drew)); exact HO_3.out, blw_ HB.out⟩
def spoolref05_Has.l0 : Nat → List (S60) → Int → Int → Option (Bool)
 | 0, _, _, _ => none
 | k + 1, x0, x1, x5 => if x5 < (x0.length : Int) then (if x1 ≥ 0 then (if x1 ≤ 1114111 then (if 0 ≤ x5 then (if ((rd_T60 x0 x5).f0) ≤ x1 then (if x1 ≤ ((rd_T60 x0 x5).f1) then (some true) else (spoolref05_Has.l0 k x0 x1 (wrap64 (x5 + 1)))) else (spoolref05_Has.l0 k x0 x1 (wrap64 (x5 + 1)))) else (none)) else (spoolref05_Has.l0 k x0 x1 (wrap64 (x5 + 1)))) else (spoolref05_Has.l0 k x0 x1 (wrap64 (x5 + 1)))) else (some false)
def spoolref05_Has.f (k : Nat) (l0 : List (S60)) (a1 : Int) : Option (Bool) := spoolref05_Has.l0 k l0 a1 0
theorem spoolref05_Has.mono_l : ∀ k, (∀ y0 y1 y2, LeO (spoolref05_Has.l0 k y0 y1 y2) (spoolref05_Has.l0 (k + 1) y0 y1 y2))
 | 0 => fun _ _ _ r h => by simp [spoolref05_Has.l0] at h
 | k + 1 => by
  have ih0 := spoolref05_Has.mono_l k
  ·intro y0 y1 y2
   unfold spoolref05_Has.l0
   repeat' first
   | (with_reducible exact ih0 _ _ _)
   | (with_reducible exact LeO.refl _)
   | (with_reducible exact LeO.none _)
   | (with_reducible refine LeO.ite ?_ ?_)
   | (with_reducible refine LeO.bind ?_ (fun _ => ?_))
   | exact ih0 _ _ _
   | exact LeO.none _
   | refine LeO.ite ?_ ?_
   | refine LeO.bind ?_ (fun _ => ?_)
theorem spoolref05_Has.mono : ∀ a0 a1 k, LeO (spoolref05_Has.f k a0 a1) (spoolref05_Has.f (k + 1) a0 a1) := by
 intro a0 a1 k
 have ih0 := spoolref05_Has.mono_l k
 unfold spoolref05_Has.f
 repeat' first
   | (with_reducible exact ih0 _ _ _)
   | (with_reducible exact LeO.refl _)
   | (with_reducible exact LeO.none _)
   | (with_reducible refine LeO.ite ?_ ?_)
   | (with_reducible refine LeO.bind ?_ (fun _ => ?_))
   | exact ih0 _ _ _
   | exact LeO.none _
   | refine LeO.ite ?_ ?_
   | refine LeO.bind ?_ (fun _ => ?_)
set_option maxHeartbeats 8000000 in
set_option maxRecDepth 100000 in
theorem spoolref05_Has.calls (k : Nat) (A0 : Option Addr) (c0 : Nat) (l0 : List (S60)) (a1 : Int) (r : Bool) (w : World) (hr0 : Kd.C k60 w A0 l0.length l0) (hc0 : l0.length ≤ c0) (h : spoolref05_Has.f k l0 a1 = some r) :
  Calls Tryd.prog 48 #[.slice A0 l0.length c0, .int .i64 a1] w fun e w' => e = .returned (.bool r) ∧ Drawn0 w w' := by
 have HR0 := Aside0.mk hr0
 have HC0 := Aside0.mk hc0
 clear hr0 hc0
 have H : (spoolref05_Has.l0 k l0 a1 0) = some r := h
 clear h
 have H' := Aside0.mk H
 clear H
 go_enter Tryd.func48, Tryd.ntmps48
 go_wp2
 go_loopg [5] k (fun kq v5 w' => ∃ (x5_1 : Int), v5 = .int .i64 x5_1 ∧ Aside0 (spoolref05_Has.l0 kq l0 a1 x5_1 = some r) ∧ Aside0 (kq ≤ k) ∧ Drawn0 w w')
 case atStart => exact ⟨(0), fib_, H', ⟨Nat.le_refl _⟩, by repeat (first | exact Drawn0.refl _ | apply Drawn0.step)⟩
 case round =>
  clear H'
  try clear p2
  obtain ⟨x5_1, rfl, HA, HK1, ⟨m1, rfl⟩⟩ := hrel
  cases gk with
  | zero => exact absurd HA.out (by simp [spoolref05_Has.l0])
  | succ k1 =>
   have H := HA.out
   clear HA
   simp only [spoolref05_Has.l0] at H
   by_cases c3 : x5_1 < (l0.length : Int)
   ·rw [if_pos c3] at H
    have c3b0 : decide (x5_1 < (l0.length : Int)) = true := decide_eq_true c3
    clear c3
    by_cases c4 : a1 ≥ 0
    ·rw [if_pos c4] at H
     have c4b0 : decide (0 ≤ a1) = true := decide_eq_true c4
     clear c4
     by_cases c5 : a1 ≤ 1114111
     ·rw [if_pos c5] at H
      have c5b0 : decide (a1 ≤ 1114111) = true := decide_eq_true c5
      clear c5
      by_cases c6 : 0 ≤ x5_1
      ·rw [if_pos c6] at H
       have c6b0 : decide (0 ≤ x5_1) = true := decide_eq_true c6
       clear c6
       by_cases c7 : ((rd_T60 l0 x5_1).f0) ≤ a1
       ·rw [if_pos c7] at H
        have c7b0 : decide (((rd_T60 l0 x5_1).f0) ≤ a1) = true := decide_eq_true c7
        clear c7
        by_cases c8 : a1 ≤ ((rd_T60 l0 x5_1).f1)
        ·rw [if_pos c8] at H
         have c8b0 : decide (a1 ≤ ((rd_T60 l0 x5_1).f1)) = true := decide_eq_true c8
         clear c8
         obtain rfl := Option.some.inj H
         have p213 : 0 ≤ (x5_1 : Int) := of_decide_eq_true asa_
         have q213 : x5_1 < (l0.length : Int) := of_decide_eq_true asa_
         obtain ⟨ad213, e213, hx213_0, hx213_1⟩ := at_T60 HR0.out x5_1 p213 q213
         cases e213
         replace p213 := eq_true p213
         replace q213 := eq_true q213
         have p214 : 0 ≤ (x5_1 : Int) := of_decide_eq_true asa_
         have q214 : x5_1 < (l0.length : Int) := of_decide_eq_true asa_
         obtain ⟨ad214, e214, hx214_0, hx214_1⟩ := at_T60 HR0.out x5_1 p214 q214
         obtain rfl : ad213 = ad214 := (by injection e214)
         replace p214 := eq_true p214
         replace q214 := eq_true q214
         go_wp2
         go_ret
         exact ⟨fib_, by repeat (first | exact Drawn0.refl _ | apply Drawn0.step)⟩
        ·rw [if_neg c8] at H
         have c8b0 : decide (a1 ≤ ((rd_T60 l0 x5_1).f1)) = false := decide_eq_false c8
         clear c8
         have H' := Aside0.mk H
         clear H
         have p213 : 0 ≤ (x5_1 : Int) := of_decide_eq_true asa_
         have q213 : x5_1 < (l0.length : Int) := of_decide_eq_true asa_
         obtain ⟨ad213, e213, hx213_0, hx213_1⟩ := at_T60 HR0.out x5_1 p213 q213
         cases e213
         replace p213 := eq_true p213
         replace q213 := eq_true q213
         have p214 : 0 ≤ (x5_1 : Int) := of_decide_eq_true asa_
         have q214 : x5_1 < (l0.length : Int) := of_decide_eq_true asa_
         obtain ⟨ad214, e214, hx214_0, hx214_1⟩ := at_T60 HR0.out x5_1 p214 q214
         obtain rfl : ad213 = ad214 := (by injection e214)
         replace p214 := eq_true p214
         replace q214 := eq_true q214
         go_wp2
         go_roundg k1
         case measure => have := HK1.out; omega
         case rel => exact ⟨(wrap64 (x5_1 + 1)), fib_, H', ⟨by have := HK1.out; omega⟩, by repeat (first | exact Drawn0.refl _ | apply Drawn0.step)⟩
       ·rw [if_neg c7] at H
        have c7b0 : decide (((rd_T60 l0 x5_1).f0) ≤ a1) = false := decide_eq_false c7
        clear c7
        have H' := Aside0.mk H
        clear H
        have p213 : 0 ≤ (x5_1 : Int) := of_decide_eq_true asa_
        have q213 : x5_1 < (l0.length : Int) := of_decide_eq_true asa_
        obtain ⟨ad213, e213, hx213_0, hx213_1⟩ := at_T60 HR0.out x5_1 p213 q213
        cases e213
        replace p213 := eq_true p213
        replace q213 := eq_true q213
        go_wp2
        go_roundg k1
        case measure => have := HK1.out; omega
        case rel => exact ⟨(wrap64 (x5_1 + 1)), fib_, H', ⟨by have := HK1.out; omega⟩, by repeat (first | exact Drawn0.refl _ | apply Drawn0.step)⟩
      ·rw [if_neg c6] at H
       exact absurd H (by simp)
     ·rw [if_neg c5] at H
      have c5b0 : decide (a1 ≤ 1114111) = false := decide_eq_false c5
      clear c5
      have H' := Aside0.mk H
      clear H
      go_wp2
      go_roundg k1
      case measure => have := HK1.out; omega
      case rel => exact ⟨(wrap64 (x5_1 + 1)), fib_, H', ⟨by have := HK1.out; omega⟩, by repeat (first | exact Drawn0.refl _ | apply Drawn0.step)⟩
    ·rw [if_neg c4] at H
     have c4b0 : decide (0 ≤ a1) = false := decide_eq_false c4
     clear c4
     have H' := Aside0.mk H
     clear H
     go_wp2
     go_roundg k1
     case measure => have := HK1.out; omega
     case rel => exact ⟨(wrap64 (x5_1 + 1)), fib_, H', ⟨by have := HK1.out; omega⟩, by repeat (first | exact Drawn0.refl _ | apply Drawn0.step)⟩
   ·rw [if_neg c3] at H
    have c3b0 : decide (x5_1 < (l0.length : Int)) = false := decide_eq_false c3
    clear c3
    obtain rfl := Option.some.inj H
    go_wp2
    go_ret
    exact ⟨fib_, by repeat (first | exact Drawn0.refl _ | apply Drawn0.step)⟩
def spoolref05_holds.f (k : Nat) (a0 : Int) (l1 : List (S60)) (l2 : List (S60)) (a3 : Int) : Option (Bool) := if a0 = 1 then ((spoolref05_Has.f k l1 a3).bind fun t215 => (some (!t215))) else (if a0 = 2 then ((spoolref05_Has.f k l1 a3).bind fun t216 => (if t216 = true then (some true) else ((spoolref05_Has.f k l2 a3).bind fun t217 => (some t217)))) else (if a0 = 3 then ((spoolref05_Has.f k l1 a3).bind fun t218 => (if t218 = true then ((spoolref05_Has.f k l2 a3).bind fun t219 => (some t219)) else (some false))) else (if a0 = 4 then ((spoolref05_Has.f k l1 a3).bind fun t220 => (if t220 = true then ((spoolref05_Has.f k l2 a3).bind fun t221 => (some (!t221))) else (some false))) else ((spoolref05_Has.f k l1 a3).bind fun t222 => (some t222)))))
theorem spoolref05_holds.mono : ∀ a0 a1 a2 a3 k, LeO (spoolref05_holds.f k a0 a1 a2 a3) (spoolref05_holds.f (k + 1) a0 a1 a2 a3) := by
 intro a0 a1 a2 a3 k
 unfold spoolref05_holds.f
 repeat' first
   | (with_reducible exact spoolref05_Has.mono _ _ _)
   | (with_reducible exact LeO.refl _)
   | (with_reducible exact LeO.none _)
   | (with_reducible refine LeO.ite ?_ ?_)
   | (with_reducible refine LeO.bind ?_ (fun _ => ?_))
   | exact spoolref05_Has.mono _ _ _
   | exact LeO.none _
   | refine LeO.ite ?_ ?_
   | refine LeO.bind ?_ (fun _ => ?_)
set_option maxHeartbeats 8000000 in
set_option maxRecDepth 100000 in
theorem spoolref05_holds.calls (k : Nat) (a0 : Int) (A1 : Option Addr) (c1 : Nat) (l1 : List (S60)) (A2 : Option Addr) (c2 : Nat) (l2 : List (S60)) (a3 : Int) (r : Bool) (w : World) (hr1 : Kd.C k60 w A1 l1.length l1) (hc1 : l1.length ≤ c1) (hr2 : Kd.C k60 w A2 l2.length l2) (hc2 : l2.length ≤ c2) (h : spoolref05_holds.f k a0 l1 l2 a3 = some r) :
  Calls Tryd.prog 42 #[.int .i64 a0, .slice A1 l1.length c1, .slice A2 l2.length c2, .int .i64 a3] w fun e w' => e = .returned (.bool r) ∧ Drawn0 w w' := by
 have HR1 := Aside0.mk hr1
 have HC1 := Aside0.mk hc1
 clear hr1 hc1
 have HR2 := Aside0.mk hr2
 have HC2 := Aside0.mk hc2
 clear hr2 hc2
 have H : (if a0 = 1 then ((spoolref05_Has.f k l1 a3).bind fun t215 => (some (!t215))) else (if a0 = 2 then ((spoolref05_Has.f k l1 a3).bind fun t216 => (if t216 = true then (some true) else ((spoolref05_Has.f k l2 a3).bind fun t217 => (some t217)))) else (if a0 = 3 then ((spoolref05_Has.f k l1 a3).bind fun t218 => (if t218 = true then ((spoolref05_Has.f k l2 a3).bind fun t219 => (some t219)) else (some false))) else (if a0 = 4 then ((spoolref05_Has.f k l1 a3).bind fun t220 => (if t220 = true then ((spoolref05_Has.f k l2 a3).bind fun t221 => (some (!t221))) else (some false))) else ((spoolref05_Has.f k l1 a3).bind fun t222 => (some t222)))))) = some r := h
 clear h
 by_cases c5 : a0 = 1
 ·rw [if_pos c5] at H
  have c5b0 : (a0 == 1) = true := beq_iff_eq.mpr c5
  have c5b1 : (a0 != 1) = false := bne_eq_false_iff_eq.mpr c5
  clear c5
  replace H := Option.bind_eq_some_iff.mp H
  obtain ⟨t215, A60, H⟩ := H
  replace H : (some (!t215)) = some r := H
  have A6 := Aside0.mk A60
  clear A60
  obtain rfl := Option.some.inj H
  go_enter Tryd.func42, Tryd.ntmps42
  go_wp2_with (first | ((with_reducible refine gate_callee (f := 48) rfl ?_); refine goesL_ (some 14) rfl rfl Tryd.func48 (by kernel_rfl) rfl #[.slice A1 l1.length c1, .int .i64 a3] rfl lma_ ?_; (with_reducible refine (spoolref05_Has.calls k _ _ l1 a3 t215 _ ?side1 ?side2 A6.out).mono ?_); (case side1 => repeat (first | exact HR1.out | (with_reducible refine Kd.C_alloc ?_ _) | (with_reducible refine Kd.C_drewN ?_ _) | (with_reducible refine Kd.C_drew ?_))); (case side2 => exact HC1.out); rintro e w' ⟨rfl, ⟨nd, rfl⟩⟩; refine ⟨_, rfl, ?_⟩))
  go_ret
  exact ⟨fib_, by repeat (first | exact Drawn0.refl _ | apply Drawn0.step)⟩
 ·rw [if_neg c5] at H
  have c5b0 : (a0 == 1) = false := beq_eq_false_iff_ne.mpr c5
  have c5b1 : (a0 != 1) = true := bne_iff_ne.mpr c5
  by_cases c7 : a0 = 2
  ·rw [if_pos c7] at H
   have c7b0 : (a0 == 2) = true := beq_iff_eq.mpr c7
   have c7b1 : (a0 != 2) = false := bne_eq_false_iff_eq.mpr c7
   clear c7
   replace H := Option.bind_eq_some_iff.mp H
   obtain ⟨t216, A80, H⟩ := H
   replace H : (if t216 = true then (some true) else ((spoolref05_Has.f k l2 a3).bind fun t217 => (some t217))) = some r := H
   have A8 := Aside0.mk A80
   clear A80
   by_cases c9 : t216 = true
   ·subst c9
    have H1 : (some true) = some r := by rw [if_pos rfl] at H; exact H
    clear H
    have H := H1
    clear H1
    obtain rfl := Option.some.inj H
    go_enter Tryd.func42, Tryd.ntmps42
    go_wp2_with (first | ((with_reducible refine gate_callee (f := 48) rfl ?_); refine goesL_ (some 20) rfl rfl Tryd.func48 (by kernel_rfl) rfl #[.slice A1 l1.length c1, .int .i64 a3] rfl lma_ ?_; (with_reducible refine (spoolref05_Has.calls k _ _ l1 a3 true _ ?side1 ?side2 A8.out).mono ?_); (case side1 => repeat (first | exact HR1.out | (with_reducible refine Kd.C_alloc ?_ _) | (with_reducible refine Kd.C_drewN ?_ _) | (with_reducible refine Kd.C_drew ?_))); (case side2 => exact HC1.out); rintro e w' ⟨rfl, ⟨nd, rfl⟩⟩; refine ⟨_, rfl, ?_⟩))
    go_ret
    exact ⟨fib_, by repeat (first | exact Drawn0.refl _ | apply Drawn0.step)⟩
   ·replace c9 := Bool.eq_false_iff.mpr c9
    subst c9
    have H1 : ((spoolref05_Has.f k l2 a3).bind fun t217 => (some t217)) = some r := by rw [if_neg (show ¬ (false = true) by decide)] at H; exact H
    clear H
    have H := H1
    clear H1
    replace H := Option.bind_eq_some_iff.mp H
    obtain ⟨t217, A100, H⟩ := H
    replace H : (some t217) = some r := H
    have A10 := Aside0.mk A100
    clear A100
    obtain rfl := Option.some.inj H
    go_enter Tryd.func42, Tryd.ntmps42
    go_wp2_with (first | ((with_reducible refine gate_callee (f := 48) rfl ?_); refine goesL_ (some 20) rfl rfl Tryd.func48 (by kernel_rfl) rfl #[.slice A1 l1.length c1, .int .i64 a3] rfl lma_ ?_; (with_reducible refine (spoolref05_Has.calls k _ _ l1 a3 false _ ?side1 ?side2 A8.out).mono ?_); (case side1 => repeat (first | exact HR1.out | (with_reducible refine Kd.C_alloc ?_ _) | (with_reducible refine Kd.C_drewN ?_ _) | (with_reducible refine Kd.C_drew ?_))); (case side2 => exact HC1.out); rintro e w' ⟨rfl, ⟨nd, rfl⟩⟩; refine ⟨_, rfl, ?_⟩) | (go_at_call 48; (with_reducible refine (spoolref05_Has.calls k _ _ l2 a3 t217 _ ?side1 ?side2 A10.out).mono ?_); (case side1 => repeat (first | exact HR2.out | (with_reducible refine Kd.C_alloc ?_ _) | (with_reducible refine Kd.C_drewN ?_ _) | (with_reducible refine Kd.C_drew ?_))); (case side2 => exact HC2.out); rintro e w' ⟨rfl, ⟨nd, rfl⟩⟩))
    go_ret
    exact ⟨fib_, by repeat (first | exact Drawn0.refl _ | apply Drawn0.step)⟩
  ·rw [if_neg c7] at H
   have c7b0 : (a0 == 2) = false := beq_eq_false_iff_ne.mpr c7
   have c7b1 : (a0 != 2) = true := bne_iff_ne.mpr c7
   by_cases c11 : a0 = 3
   ·rw [if_pos c11] at H
    have c11b0 : (a0 == 3) = true := beq_iff_eq.mpr c11
    have c11b1 : (a0 != 3) = false := bne_eq_false_iff_eq.mpr c11
    clear c11
    replace H := Option.bind_eq_some_iff.mp H
    obtain ⟨t218, A120, H⟩ := H
    replace H : (if t218 = true then ((spoolref05_Has.f k l2 a3).bind fun t219 => (some t219)) else (some false)) = some r := H
    have A12 := Aside0.mk A120
    clear A120
    by_cases c13 : t218 = true
    ·subst c13
     have H1 : ((spoolref05_Has.f k l2 a3).bind fun t219 => (some t219)) = some r := by rw [if_pos rfl] at H; exact H
     clear H
     have H := H1
     clear H1
     replace H := Option.bind_eq_some_iff.mp H
     obtain ⟨t219, A140, H⟩ := H
     replace H : (some t219) = some r := H
     have A14 := Aside0.mk A140
     clear A140
     obtain rfl := Option.some.inj H
     go_enter Tryd.func42, Tryd.ntmps42
     go_wp2_with (first | ((with_reducible refine gate_callee (f := 48) rfl ?_); refine goesL_ (some 30) rfl rfl Tryd.func48 (by kernel_rfl) rfl #[.slice A1 l1.length c1, .int .i64 a3] rfl lma_ ?_; (with_reducible refine (spoolref05_Has.calls k _ _ l1 a3 true _ ?side1 ?side2 A12.out).mono ?_); (case side1 => repeat (first | exact HR1.out | (with_reducible refine Kd.C_alloc ?_ _) | (with_reducible refine Kd.C_drewN ?_ _) | (with_reducible refine Kd.C_drew ?_))); (case side2 => exact HC1.out); rintro e w' ⟨rfl, ⟨nd, rfl⟩⟩; refine ⟨_, rfl, ?_⟩) | (go_at_call 48; (with_reducible refine (spoolref05_Has.calls k _ _ l2 a3 t219 _ ?side1 ?side2 A14.out).mono ?_); (case side1 => repeat (first | exact HR2.out | (with_reducible refine Kd.C_alloc ?_ _) | (with_reducible refine Kd.C_drewN ?_ _) | (with_reducible refine Kd.C_drew ?_))); (case side2 => exact HC2.out); rintro e w' ⟨rfl, ⟨nd, rfl⟩⟩))
     go_ret
     exact ⟨fib_, by repeat (first | exact Drawn0.refl _ | apply Drawn0.step)⟩
    ·replace c13 := Bool.eq_false_iff.mpr c13
     subst c13
     have H1 : (some false) = some r := by rw [if_neg (show ¬ (false = true) by decide)] at H; exact H
     clear H
     have H := H1
     clear H1
     obtain rfl := Option.some.inj H
     go_enter Tryd.func42, Tryd.ntmps42
     go_wp2_with (first | ((with_reducible refine gate_callee (f := 48) rfl ?_); refine goesL_ (some 30) rfl rfl Tryd.func48 (by kernel_rfl) rfl #[.slice A1 l1.length c1, .int .i64 a3] rfl lma_ ?_; (with_reducible refine (spoolref05_Has.calls k _ _ l1 a3 false _ ?side1 ?side2 A12.out).mono ?_); (case side1 => repeat (first | exact HR1.out | (with_reducible refine Kd.C_alloc ?_ _) | (with_reducible refine Kd.C_drewN ?_ _) | (with_reducible refine Kd.C_drew ?_))); (case side2 => exact HC1.out); rintro e w' ⟨rfl, ⟨nd, rfl⟩⟩; refine ⟨_, rfl, ?_⟩))
     go_ret
     exact ⟨fib_, by repeat (first | exact Drawn0.refl _ | apply Drawn0.step)⟩
   ·rw [if_neg c11] at H
    have c11b0 : (a0 == 3) = false := beq_eq_false_iff_ne.mpr c11
    have c11b1 : (a0 != 3) = true := bne_iff_ne.mpr c11
    by_cases c15 : a0 = 4
    ·rw [if_pos c15] at H
     have c15b0 : (a0 == 4) = true := beq_iff_eq.mpr c15
     have c15b1 : (a0 != 4) = false := bne_eq_false_iff_eq.mpr c15
     clear c15
     replace H := Option.bind_eq_some_iff.mp H
     obtain ⟨t220, A160, H⟩ := H
     replace H : (if t220 = true then ((spoolref05_Has.f k l2 a3).bind fun t221 => (some (!t221))) else (some false)) = some r := H
     have A16 := Aside0.mk A160
     clear A160
     by_cases c17 : t220 = true
     ·subst c17
      have H1 : ((spoolref05_Has.f k l2 a3).bind fun t221 => (some (!t221))) = some r := by rw [if_pos rfl] at H; exact H
      clear H
      have H := H1
      clear H1
      replace H := Option.bind_eq_some_iff.mp H
      obtain ⟨t221, A180, H⟩ := H
      replace H : (some (!t221)) = some r := H
      have A18 := Aside0.mk A180
      clear A180
      obtain rfl := Option.some.inj H
      go_enter Tryd.func42, Tryd.ntmps42
      go_wp2_with (first | ((with_reducible refine gate_callee (f := 48) rfl ?_); refine goesL_ (some 40) rfl rfl Tryd.func48 (by kernel_rfl) rfl #[.slice A1 l1.length c1, .int .i64 a3] rfl lma_ ?_; (with_reducible refine (spoolref05_Has.calls k _ _ l1 a3 true _ ?side1 ?side2 A16.out).mono ?_); (case side1 => repeat (first | exact HR1.out | (with_reducible refine Kd.C_alloc ?_ _) | (with_reducible refine Kd.C_drewN ?_ _) | (with_reducible refine Kd.C_drew ?_))); (case side2 => exact HC1.out); rintro e w' ⟨rfl, ⟨nd, rfl⟩⟩; refine ⟨_, rfl, ?_⟩) | (go_at_call 48; (with_reducible refine (spoolref05_Has.calls k _ _ l2 a3 t221 _ ?side1 ?side2 A18.out).mono ?_); (case side1 => repeat (first | exact HR2.out | (with_reducible refine Kd.C_alloc ?_ _) | (with_reducible refine Kd.C_drewN ?_ _) | (with_reducible refine Kd.C_drew ?_))); (case side2 => exact HC2.out); rintro e w' ⟨rfl, ⟨nd, rfl⟩⟩))
      go_ret
      exact ⟨fib_, by repeat (first | exact Drawn0.refl _ | apply Drawn0.step)⟩
     ·replace c17 := Bool.eq_false_iff.mpr c17
      subst c17
      have H1 : (some false) = some r := by rw [if_neg (show ¬ (false = true) by decide)] at H; exact H
      clear H
      have H := H1
      clear H1
      obtain rfl := Option.some.inj H
      go_enter Tryd.func42, Tryd.ntmps42
      go_wp2_with (first | ((with_reducible refine gate_callee (f := 48) rfl ?_); refine goesL_ (some 40) rfl rfl Tryd.func48 (by kernel_rfl) rfl #[.slice A1 l1.length c1, .int .i64 a3] rfl lma_ ?_; (with_reducible refine (spoolref05_Has.calls k _ _ l1 a3 false _ ?side1 ?side2 A16.out).mono ?_); (case side1 => repeat (first | exact HR1.out | (with_reducible refine Kd.C_alloc ?_ _) | (with_reducible refine Kd.C_drewN ?_ _) | (with_reducible refine Kd.C_drew ?_))); (case side2 => exact HC1.out); rintro e w' ⟨rfl, ⟨nd, rfl⟩⟩; refine ⟨_, rfl, ?_⟩))
      go_ret
      exact ⟨fib_, by repeat (first | exact Drawn0.refl _ | apply Drawn0.step)⟩
    ·rw [if_neg c15] at H
     have c15b0 : (a0 == 4) = false := beq_eq_false_iff_ne.mpr c15
     have c15b1 : (a0 != 4) = true := bne_iff_ne.mpr c15
     replace H := Option.bind_eq_some_iff.mp H
     obtain ⟨t222, A190, H⟩ := H
     replace H : (some t222) = some r := H
     have A19 := Aside0.mk A190
     clear A190
     obtain rfl := Option.some.inj H
     go_enter Tryd.func42, Tryd.ntmps42
     go_wp2_with (first | ((with_reducible refine gate_callee (f := 48) rfl ?_); refine goesL_ (some 49) rfl rfl Tryd.func48 (by kernel_rfl) rfl #[.slice A1 l1.length c1, .int .i64 a3] rfl lma_ ?_; (with_reducible refine (spoolref05_Has.calls k _ _ l1 a3 t222 _ ?side1 ?side2 A19.out).mono ?_); (case side1 => repeat (first | exact HR1.out | (with_reducible refine Kd.C_alloc ?_ _) | (with_reducible refine Kd.C_drewN ?_ _) | (with_reducible refine Kd.C_drew ?_))); (case side2 => exact HC1.out); rintro e w' ⟨rfl, ⟨nd, rfl⟩⟩; refine ⟨_, rfl, ?_⟩))
     go_ret
     exact ⟨fib_, by repeat (first | exact Drawn0.refl _ | apply Drawn0.step)⟩
end Go.Proofs.YtlihkebmonfefaaDoor.PG
namespace Go.Proofs.YtlihkebmonfefaaDoor.PG
open Go.RowKit Go.Proofs.YtlihkebmonfefaaDoorW.PrintWords Go.Proofs.YtlihkebmonfefaaDoorW.PrintLast Go.Proofs.YtlihkebmonfefaaDoorW.PrintMore
attribute [local go_sem] max2_int min2_int max_two min_two max_three min_three max_four min_four   -- for this text's walks alone
set_option linter.unusedVariables false
set_option linter.unusedSimpArgs false
def spoolref05_Set.l0 : Nat → Int → List (S60) → List (S60) → List Int → List (S60) → Int → Option ((List (S60)))
 | 0, _, _, _, _, _, _ => none
 | k + 1, x0, x1, x2, x8, x9, x10 => if (wrap64 (x10 + 1)) < (x8.length : Int) then (if 0 ≤ x10 then (if x10 < (x8.length : Int) then ((spoolref05_holds.f k x0 x1 x2 (rd x8 x10)).bind fun t233 => (if t233 = true then (if (wrap64 ((x9.length : Int) - 1)) ≥ 0 then (if 0 ≤ (wrap64 ((x9.length : Int) - 1)) then (if (wrap64 ((x9.length : Int) - 1)) < (x9.length : Int) then (if ((rd_T60 x9 (wrap64 ((x9.length : Int) - 1))).f1) = (wrap64 ((rd x8 x10) - 1)) then (if 0 ≤ (wrap64 (x10 + 1)) then (spoolref05_Set.l0 k x0 x1 x2 x8 (x9.set ((wrap64 ((x9.length : Int) - 1)) : Int).toNat (⟨(rd_T60 x9 (wrap64 ((x9.length : Int) - 1))).f0, wrap64 ((rd x8 (wrap64 (x10 + 1))) - 1)⟩ : S60)) (wrap64 (x10 + 1))) else (none)) else (if 0 ≤ (wrap64 (x10 + 1)) then (if x9.length < 8796093022208 then (spoolref05_Set.l0 k x0 x1 x2 x8 (x9 ++ [(⟨rd x8 x10, wrap64 ((rd x8 (wrap64 (x10 + 1))) - 1)⟩ : S60)]) (wrap64 (x10 + 1))) else (none)) else (none))) else (none)) else (none)) else (if 0 ≤ (wrap64 (x10 + 1)) then (if x9.length < 8796093022208 then (spoolref05_Set.l0 k x0 x1 x2 x8 (x9 ++ [(⟨rd x8 x10, wrap64 ((rd x8 (wrap64 (x10 + 1))) - 1)⟩ : S60)]) (wrap64 (x10 + 1))) else (none)) else (none))) else (spoolref05_Set.l0 k x0 x1 x2 x8 x9 (wrap64 (x10 + 1))))) else (none)) else (none)) else (some x9)
def spoolref05_Set.f (k : Nat) (a0 : Int) (l1 : List (S60)) (l2 : List (S60)) : Option ((List (S60))) := if ([] : List (S60)).length + l1.length < 8796093022208 then ((some (([] : List (S60)) ++ l1 : List (S60))).bind fun y223 => (if y223.length + l2.length < 8796093022208 then ((spoolref05_ends.f k (y223 ++ l2)).bind fun t229 => (spoolref05_Set.l0 k a0 l1 l2 t229 ([] : List (S60)) 0)) else (none))) else (none)
theorem spoolref05_Set.mono_l : ∀ k, (∀ y0 y1 y2 y3 y4 y5, LeO (spoolref05_Set.l0 k y0 y1 y2 y3 y4 y5) (spoolref05_Set.l0 (k + 1) y0 y1 y2 y3 y4 y5))
 | 0 => fun _ _ _ _ _ _ r h => by simp [spoolref05_Set.l0] at h
 | k + 1 => by
  have ih0 := spoolref05_Set.mono_l k
  ·intro y0 y1 y2 y3 y4 y5
   unfold spoolref05_Set.l0
   repeat' first
   | (with_reducible exact ih0 _ _ _ _ _ _)
   | (with_reducible exact spoolref05_ends.mono _ _)
   | (with_reducible exact spoolref05_holds.mono _ _ _ _ _)
   | (with_reducible exact LeO.refl _)
   | (with_reducible exact LeO.none _)
   | (with_reducible refine LeO.ite ?_ ?_)
   | (with_reducible refine LeO.bind ?_ (fun _ => ?_))
   | exact ih0 _ _ _ _ _ _
   | exact spoolref05_ends.mono _ _
   | exact spoolref05_holds.mono _ _ _ _ _
   | exact LeO.none _
   | refine LeO.ite ?_ ?_
   | refine LeO.bind ?_ (fun _ => ?_)
theorem spoolref05_Set.mono : ∀ a0 a1 a2 k, LeO (spoolref05_Set.f k a0 a1 a2) (spoolref05_Set.f (k + 1) a0 a1 a2) := by
 intro a0 a1 a2 k
 have ih0 := spoolref05_Set.mono_l k
 unfold spoolref05_Set.f
 repeat' first
   | (with_reducible exact ih0 _ _ _ _ _ _)
   | (with_reducible exact spoolref05_ends.mono _ _)
   | (with_reducible exact spoolref05_holds.mono _ _ _ _ _)
   | (with_reducible exact LeO.refl _)
   | (with_reducible exact LeO.none _)
   | (with_reducible refine LeO.ite ?_ ?_)
   | (with_reducible refine LeO.bind ?_ (fun _ => ?_))
   | exact ih0 _ _ _ _ _ _
   | exact spoolref05_ends.mono _ _
   | exact spoolref05_holds.mono _ _ _ _ _
   | exact LeO.none _
   | refine LeO.ite ?_ ?_
   | refine LeO.bind ?_ (fun _ => ?_)
def spoolref05_Set.T11 : Bool × List (List Nat × List Nat) := (true, [([], []), ([0], [0]), ([1], [1]), ([2], [2]), ([2], [2]), ([3, 4, 2], [2, 3, 4]), ([5, 2], [2, 5]), ([6, 2], [2, 6]), ([2], [2]), ([2], [2]), ([8, 9, 2], [2, 8, 9]), ([10, 2], [2, 10]), ([11, 2], [2, 11]), ([7, 12, 2], [2, 7, 12]), ([2, 13], [2, 13])])
def spoolref05_Set.B11 : List Nat := [0, 1, 3, 7, 7, 31, 63, 127, 7, 7, 775, 1799, 3847, 8191, 16383]
theorem spoolref05_Set.tab11 : rtab .any (opsOf Tryd.f30 11) = spoolref05_Set.T11 := by kernel_rfl
theorem spoolref05_Set.bits11 : waitsOk spoolref05_Set.T11.2 spoolref05_Set.B11 = true := by kernel_rfl
def spoolref05_Set.T12 : Bool × List (List Nat × List Nat) := (true, [([], []), ([], []), ([], []), ([], []), ([2, 3], [2, 3]), ([4], [4]), ([5], [5]), ([], []), ([], []), ([8], [8]), ([7, 9], [7, 9]), ([10], [10]), ([11], [11]), ([6, 12], [6, 12]), ([0, 1, 0, 1, 2, 3, 4, 5, 6, 7, 8, 9, 10, 11, 12, 13], [0, 1]), ([14, 13, 0, 1, 2, 3, 4, 5, 6, 7, 8, 9, 10, 11, 12, 13], [13, 14])])
def spoolref05_Set.B12 : List Nat := [0, 0, 0, 0, 12, 28, 60, 0, 0, 256, 896, 1920, 3968, 8188, 16383, 32767]
theorem spoolref05_Set.tab12 : rtab .any (opsOf Tryd.f30 12) = spoolref05_Set.T12 := by kernel_rfl
theorem spoolref05_Set.bits12 : waitsOk spoolref05_Set.T12.2 spoolref05_Set.B12 = true := by kernel_rfl
def spoolref05_Set.T13 : Bool × List (List Nat × List Nat) := (true, [([], []), ([], []), ([], []), ([1, 2], [1, 2]), ([3], [3]), ([], []), ([], []), ([6], [6]), ([5, 7], [5, 7]), ([8], [8]), ([9], [9]), ([4, 10], [4, 10]), ([11], [11]), ([0, 12], [0, 12]), ([13, 13, 0, 1, 2, 3, 4, 5, 6, 7, 8, 9, 10, 11, 12, 13], [0, 13])])
def spoolref05_Set.B13 : List Nat := [0, 0, 0, 6, 14, 0, 0, 64, 224, 480, 992, 2046, 4094, 8191, 16383]
theorem spoolref05_Set.tab13 : rtab .any (opsOf Tryd.f30 13) = spoolref05_Set.T13 := by kernel_rfl
theorem spoolref05_Set.bits13 : waitsOk spoolref05_Set.T13.2 spoolref05_Set.B13 = true := by kernel_rfl
set_option maxHeartbeats 8000000 in
set_option maxRecDepth 100000 in
theorem spoolref05_Set.calls (k : Nat) (a0 : Int) (A1 : Option Addr) (c1 : Nat) (l1 : List (S60)) (A2 : Option Addr) (c2 : Nat) (l2 : List (S60)) (r : List (S60)) (w : World) (hr1 : Kd.C k60 w A1 l1.length l1) (hc1 : l1.length ≤ c1) (hr2 : Kd.C k60 w A2 l2.length l2) (hc2 : l2.length ≤ c2) (h : spoolref05_Set.f k a0 l1 l2 = some r) :
  Calls Tryd.prog 30 #[.int .i64 a0, .slice A1 l1.length c1, .slice A2 l2.length c2] w fun e w' => ∃ v0_ : Value, e = .returned (v0_) ∧ Kd.R k60 60 w' w.heap.size (fun _ => True) v0_ r ∧ Below w.heap.size w w' := by
 have hu60 := Tryd.underlying60
 have HR1 := Aside0.mk hr1
 have HC1 := Aside0.mk hc1
 clear hr1 hc1
 have HR2 := Aside0.mk hr2
 have HC2 := Aside0.mk hc2
 clear hr2 hc2
 have HB := Aside0.mk (Below.refl w.heap.size w)
 have H : (if ([] : List (S60)).length + l1.length < 8796093022208 then ((some (([] : List (S60)) ++ l1 : List (S60))).bind fun y223 => (if y223.length + l2.length < 8796093022208 then ((spoolref05_ends.f k (y223 ++ l2)).bind fun t229 => (spoolref05_Set.l0 k a0 l1 l2 t229 ([] : List (S60)) 0)) else (none))) else (none)) = some r := h
 clear h
 by_cases c4 : ([] : List (S60)).length + l1.length < 8796093022208
 ·rw [if_pos c4] at H
  have LMc4 := Aside0.mk c4
  clear c4
  obtain ⟨y223, hy223⟩ : ∃ y_ : List (S60), y_ = (([] : List (S60)) ++ l1) := ⟨_, rfl⟩
  replace H : (if y223.length + l2.length < 8796093022208 then ((spoolref05_ends.f k (y223 ++ l2)).bind fun t229 => (spoolref05_Set.l0 k a0 l1 l2 t229 ([] : List (S60)) 0)) else (none)) = some r := by first | (rw [hy223]; with_reducible exact H) | (have H2_ := (Option.bind_some _ _).symm.trans H; rw [hy223]; with_reducible exact H2_) | (have H2_ := (Option.bind_some _ _).symm.trans H; with_reducible exact H2_) | with_reducible exact H | (rw [hy223]; exact H) | exact H
  have Ny223 := Aside0.mk hy223
  clear hy223
  by_cases c5 : y223.length + l2.length < 8796093022208
  ·rw [if_pos c5] at H
   have LMc5 := Aside0.mk c5
   clear c5
   obtain ⟨y226, hy226⟩ : ∃ y_ : List (S60), y_ = (y223 ++ l2) := ⟨_, rfl⟩
   replace H : ((spoolref05_ends.f k y226).bind fun t229 => (spoolref05_Set.l0 k a0 l1 l2 t229 ([] : List (S60)) 0)) = some r := by first | (rw [hy226]; with_reducible exact H) | (have H2_ := (Option.bind_some _ _).symm.trans H; rw [hy226]; with_reducible exact H2_) | (have H2_ := (Option.bind_some _ _).symm.trans H; with_reducible exact H2_) | with_reducible exact H | (rw [hy226]; exact H) | exact H
   have Ny226 := Aside0.mk hy226
   clear hy226
   replace H := Option.bind_eq_some_iff.mp H
   obtain ⟨t229, A60, H⟩ := H
   replace H : (spoolref05_Set.l0 k a0 l1 l2 t229 ([] : List (S60)) 0) = some r := H
   have A6 := Aside0.mk A60
   clear A60
   have H' := Aside0.mk H
   clear H
   go_enter Tryd.func30, Tryd.ntmps30
   go_wp2_with (first | ((with_reducible refine gate_builtin (b := .append) (xs := #[.tmp 12, .tmp 13]) rfl ?_); at_builtin; refine Kd.R_append_rows k60 (w0 := w) w.heap.size rfl (.tmp 12) (.tmp 13) 44 60 (.agg #[(.int .i64 0), (.int .i64 0)]) 16 rfl Tryd.underlying44 info60 rfl (by decide) (by omega) (.slice none 0 0) ([] : List (S60)) l1 _ _ _ (fun _ => True) (fun _ => False) rfl rfl ?aO ?aR (fun _ _ h => h) (fun _ h => h.elim) ?aF ?aB ?aS ?aL ?_; (case aR => repeat (first | exact HR1.out | (with_reducible refine Kd.C_alloc ?_ _) | (with_reducible refine Kd.C_drewN ?_ _) | (with_reducible refine Kd.C_drew ?_))); (case aB => exact (blw_ HB.out)); (case aF => exact (fun _ _ => trivial)); (case aO => exact ((Kd.R_nil _ _ _ _ (fun _ => True)))); (case aS => exact (below_size (blw_ HB.out))); (case aL => have := LMc4.out; omega); intro v224 w7 ho hb hg hat; rw [← Ny223.out] at ho; have n0_ := Aside0.mk (hb); have n1_ := Aside0.mk (ho); clear HB; have HB := n0_; have HO225 := n1_; clear n0_ n1_; clear ho hb hg hat) | ((with_reducible refine gate_builtin (b := .append) (xs := #[.tmp 15, .tmp 16]) rfl ?_); at_builtin; refine Kd.R_append_rows k60 (w0 := w) w.heap.size rfl (.tmp 15) (.tmp 16) 44 60 (.agg #[(.int .i64 0), (.int .i64 0)]) 16 rfl Tryd.underlying44 info60 rfl (by decide) (by omega) v224 y223 l2 _ _ _ (fun _ => True) (fun _ => False) rfl rfl ?aO ?aR (fun _ _ h => h) (fun _ h => h.elim) ?aF ?aB ?aS ?aL ?_; (case aR => repeat (first | exact (Kd.C_below HR2.out HB.out) | (with_reducible refine Kd.C_alloc ?_ _) | (with_reducible refine Kd.C_drewN ?_ _) | (with_reducible refine Kd.C_drew ?_))); (case aB => exact (blw_ HB.out)); (case aF => exact (fun _ _ => trivial)); (case aO => exact (by (with_reducible repeat (first | apply Kd.R_alloc | apply Kd.R_drewN | apply Kd.R_drew)); exact HO225.out)); (case aS => exact (below_size (blw_ HB.out))); (case aL => have := LMc5.out; omega); intro v227 w8 ho hb hg hat; rw [← Ny226.out] at ho; have n0_ := Aside0.mk (hb); have n1_ := Aside0.mk (ho); clear HB; clear HO225; have HB := n0_; have HO228 := n1_; clear n0_ n1_; clear ho hb hg hat; obtain ⟨Ao9, co9, eo9⟩ := Kd.R_slice HO228.out; subst eo9) | ((with_reducible refine gate_callee (f := 41) rfl ?_); refine goesL_ (some 19) rfl rfl Tryd.func41 (by kernel_rfl) rfl #[.slice Ao9 y226.length co9] rfl lma_ ?_; (with_reducible refine (spoolref05_ends.calls k _ _ y226 t229 _ ?side1 ?side2 A6.out).mono ?_); (case side1 => repeat (first | exact (Kd.R_reads' HO228.out).2.2 | (with_reducible refine Kd.C_alloc ?_ _) | (with_reducible refine Kd.C_drewN ?_ _) | (with_reducible refine Kd.C_drew ?_))); (case side2 => exact (Kd.R_reads' HO228.out).2.1); rintro e w10 ⟨v230, rfl, ho0, hb⟩; refine ⟨_, rfl, ?_⟩; have n0_ := Aside0.mk (Kd.R_below (by (with_reducible repeat (first | apply Kd.R_alloc | apply Kd.R_drewN | apply Kd.R_drew)); exact HO228.out) hb); have n1_ := Aside0.mk (Kd.R_lower ho0 (below_size (blw_ HB.out))); have n2_ := Aside0.mk (below_step (blw_ HB.out) hb); clear HO228; clear HB; have HO228 := n0_; have HO231 := n1_; have HB := n2_; clear n0_ n1_ n2_; (try clear hb); (try clear hb2); (try clear hk); (try clear hi); (try clear ho0)))
   go_loopg [9, 10] k (fun kq v9 v10 w' => ∃ (x9_1 : List (S60)) (x10_1 : Int), v10 = .int .i64 x10_1 ∧ Aside0 (spoolref05_Set.l0 kq a0 l1 l2 t229 x9_1 x10_1 = some r) ∧ Aside0 (kq ≤ k) ∧ Aside0 (Kd.R (Kd.int .i64) 3 w' w.heap.size (fun _ => True) v230 t229) ∧ Aside0 (Kd.R k60 60 w' w.heap.size (fun _ => True) v9 x9_1) ∧ Aside0 (Below w.heap.size w w'))
   case atStart => exact ⟨(([] : List (S60))), (0), fib_, H', ⟨Nat.le_refl _⟩, ⟨by (with_reducible repeat (first | apply Kd.R_alloc | apply Kd.R_drewN | apply Kd.R_drew)); exact HO231.out⟩, ⟨by first | exact Kd.R_nil _ _ _ _ _ | exact Kd.N_nil _ _ _ _ _ | exact Kd.V_nil _ _ _ _ _ | exact Kd.Q_nil _ _ _ _ _ | exact Kd.S_nil _ _ _ _ _⟩, ⟨blw_ HB.out⟩⟩
   case round =>
    clear H'
    try clear c1
    try clear c2
    try clear p2
    try clear c3
    try clear c4
    try clear c5
    obtain ⟨x9_1, x10_1, rfl, HA, HK1, HO_8, HO_9, HB⟩ := hrel
    cases gk with
    | zero => exact absurd HA.out (by simp [spoolref05_Set.l0])
    | succ k1 =>
     have H := HA.out
     clear HA
     simp only [spoolref05_Set.l0] at H
     by_cases c11 : (wrap64 (x10_1 + 1)) < (t229.length : Int)
     ·rw [if_pos c11] at H
      have c11b0 : decide ((wrap64 (x10_1 + 1)) < (t229.length : Int)) = true := decide_eq_true c11
      clear c11
      by_cases c12 : 0 ≤ x10_1
      ·rw [if_pos c12] at H
       have c12b0 : decide (0 ≤ x10_1) = true := decide_eq_true c12
       clear c12
       by_cases c13 : x10_1 < (t229.length : Int)
       ·rw [if_pos c13] at H
        have c13b0 : decide (x10_1 < (t229.length : Int)) = true := decide_eq_true c13
        clear c13
        replace H := Option.bind_eq_some_iff.mp H
        obtain ⟨t233, A140, H⟩ := H
        replace H : (if t233 = true then (if (wrap64 ((x9_1.length : Int) - 1)) ≥ 0 then (if 0 ≤ (wrap64 ((x9_1.length : Int) - 1)) then (if (wrap64 ((x9_1.length : Int) - 1)) < (x9_1.length : Int) then (if ((rd_T60 x9_1 (wrap64 ((x9_1.length : Int) - 1))).f1) = (wrap64 ((rd t229 x10_1) - 1)) then (if 0 ≤ (wrap64 (x10_1 + 1)) then (spoolref05_Set.l0 k1 a0 l1 l2 t229 (x9_1.set ((wrap64 ((x9_1.length : Int) - 1)) : Int).toNat (⟨(rd_T60 x9_1 (wrap64 ((x9_1.length : Int) - 1))).f0, wrap64 ((rd t229 (wrap64 (x10_1 + 1))) - 1)⟩ : S60)) (wrap64 (x10_1 + 1))) else (none)) else (if 0 ≤ (wrap64 (x10_1 + 1)) then (if x9_1.length < 8796093022208 then (spoolref05_Set.l0 k1 a0 l1 l2 t229 (x9_1 ++ [(⟨rd t229 x10_1, wrap64 ((rd t229 (wrap64 (x10_1 + 1))) - 1)⟩ : S60)]) (wrap64 (x10_1 + 1))) else (none)) else (none))) else (none)) else (none)) else (if 0 ≤ (wrap64 (x10_1 + 1)) then (if x9_1.length < 8796093022208 then (spoolref05_Set.l0 k1 a0 l1 l2 t229 (x9_1 ++ [(⟨rd t229 x10_1, wrap64 ((rd t229 (wrap64 (x10_1 + 1))) - 1)⟩ : S60)]) (wrap64 (x10_1 + 1))) else (none)) else (none))) else (spoolref05_Set.l0 k1 a0 l1 l2 t229 x9_1 (wrap64 (x10_1 + 1)))) = some r := H
        have A14 := Aside0.mk A140
        clear A140
        by_cases c15 : t233 = true
        ·subst c15
         have H1 : (if (wrap64 ((x9_1.length : Int) - 1)) ≥ 0 then (if 0 ≤ (wrap64 ((x9_1.length : Int) - 1)) then (if (wrap64 ((x9_1.length : Int) - 1)) < (x9_1.length : Int) then (if ((rd_T60 x9_1 (wrap64 ((x9_1.length : Int) - 1))).f1) = (wrap64 ((rd t229 x10_1) - 1)) then (if 0 ≤ (wrap64 (x10_1 + 1)) then (spoolref05_Set.l0 k1 a0 l1 l2 t229 (x9_1.set ((wrap64 ((x9_1.length : Int) - 1)) : Int).toNat (⟨(rd_T60 x9_1 (wrap64 ((x9_1.length : Int) - 1))).f0, wrap64 ((rd t229 (wrap64 (x10_1 + 1))) - 1)⟩ : S60)) (wrap64 (x10_1 + 1))) else (none)) else (if 0 ≤ (wrap64 (x10_1 + 1)) then (if x9_1.length < 8796093022208 then (spoolref05_Set.l0 k1 a0 l1 l2 t229 (x9_1 ++ [(⟨rd t229 x10_1, wrap64 ((rd t229 (wrap64 (x10_1 + 1))) - 1)⟩ : S60)]) (wrap64 (x10_1 + 1))) else (none)) else (none))) else (none)) else (none)) else (if 0 ≤ (wrap64 (x10_1 + 1)) then (if x9_1.length < 8796093022208 then (spoolref05_Set.l0 k1 a0 l1 l2 t229 (x9_1 ++ [(⟨rd t229 x10_1, wrap64 ((rd t229 (wrap64 (x10_1 + 1))) - 1)⟩ : S60)]) (wrap64 (x10_1 + 1))) else (none)) else (none))) = some r := by rw [if_pos rfl] at H; exact H
         clear H
         have H := H1
         clear H1
         by_cases c16 : (wrap64 ((x9_1.length : Int) - 1)) ≥ 0
         ·rw [if_pos c16] at H
          have c16b0 : decide (0 ≤ (wrap64 ((x9_1.length : Int) - 1))) = true := decide_eq_true c16
          clear c16
          obtain ⟨ji17, hji17⟩ : ∃ j_ : Int, (wrap64 ((x9_1.length : Int) - 1)) = j_ := ⟨_, rfl⟩
          replace H : (if 0 ≤ (ji17) then (if (ji17) < (x9_1.length : Int) then (if ((rd_T60 x9_1 (ji17)).f1) = (wrap64 ((rd t229 x10_1) - 1)) then (if 0 ≤ (wrap64 (x10_1 + 1)) then (spoolref05_Set.l0 k1 a0 l1 l2 t229 (x9_1.set ((ji17) : Int).toNat (⟨(rd_T60 x9_1 (ji17)).f0, wrap64 ((rd t229 (wrap64 (x10_1 + 1))) - 1)⟩ : S60)) (wrap64 (x10_1 + 1))) else (none)) else (if 0 ≤ (wrap64 (x10_1 + 1)) then (if x9_1.length < 8796093022208 then (spoolref05_Set.l0 k1 a0 l1 l2 t229 (x9_1 ++ [(⟨rd t229 x10_1, wrap64 ((rd t229 (wrap64 (x10_1 + 1))) - 1)⟩ : S60)]) (wrap64 (x10_1 + 1))) else (none)) else (none))) else (none)) else (none)) = some r := by first | (rw [hji17] at H; exact H) | (simp only [hji17] at H ⊢; exact H)
          (try rw [hji17] at c16b0)
          (try rw [hji17] at A14)
          have hji17w : (IntKind.i64.wrap ((x9_1.length : Int) - 1)) = ji17 := (i64_w _).trans hji17
          by_cases c18 : 0 ≤ (ji17)
          ·rw [if_pos c18] at H
           have c18b0 : decide (0 ≤ (ji17)) = true := decide_eq_true c18
           clear c18
           by_cases c19 : (ji17) < (x9_1.length : Int)
           ·rw [if_pos c19] at H
            have c19b0 : decide ((ji17) < (x9_1.length : Int)) = true := decide_eq_true c19
            clear c19
            by_cases c20 : ((rd_T60 x9_1 (ji17)).f1) = (wrap64 ((rd t229 x10_1) - 1))
            ·rw [if_pos c20] at H
             have c20b0 : (((rd_T60 x9_1 (ji17)).f1) == (wrap64 ((rd t229 x10_1) - 1))) = true := beq_iff_eq.mpr c20
             have c20b1 : (((rd_T60 x9_1 (ji17)).f1) != (wrap64 ((rd t229 x10_1) - 1))) = false := bne_eq_false_iff_eq.mpr c20
             clear c20
             obtain ⟨ji21, hji21⟩ : ∃ j_ : Int, (wrap64 (x10_1 + 1)) = j_ := ⟨_, rfl⟩
             replace H : (if 0 ≤ (ji21) then (spoolref05_Set.l0 k1 a0 l1 l2 t229 (x9_1.set ((ji17) : Int).toNat (⟨(rd_T60 x9_1 (ji17)).f0, wrap64 ((rd t229 (ji21)) - 1)⟩ : S60)) ji21) else (none)) = some r := by first | (rw [hji21] at H; exact H) | (simp only [hji21] at H ⊢; exact H)
             (try rw [hji21] at c11b0)
             (try rw [hji21] at A14)
             have hji21w : (IntKind.i64.wrap (x10_1 + 1)) = ji21 := (i64_w _).trans hji21
             by_cases c22 : 0 ≤ (ji21)
             ·rw [if_pos c22] at H
              have c22b0 : decide (0 ≤ (ji21)) = true := decide_eq_true c22
              clear c22
              obtain ⟨y238, hy238⟩ : ∃ y_ : List (S60), y_ = (x9_1.set ((ji17) : Int).toNat (⟨(rd_T60 x9_1 (ji17)).f0, wrap64 ((rd t229 (ji21)) - 1)⟩ : S60)) := ⟨_, rfl⟩
              replace H : (spoolref05_Set.l0 k1 a0 l1 l2 t229 y238 ji21) = some r := by first | (rw [hy238]; with_reducible exact H) | (have H2_ := (Option.bind_some _ _).symm.trans H; rw [hy238]; with_reducible exact H2_) | (have H2_ := (Option.bind_some _ _).symm.trans H; with_reducible exact H2_) | with_reducible exact H | (rw [hy238]; exact H) | exact H
              have Ny238 := Aside0.mk hy238
              clear hy238
              have H' := Aside0.mk H
              clear H
              obtain ⟨Ao24, co24, eo24⟩ := Kd.R_slice HO_8.out
              subst eo24
              have p232 : 0 ≤ (x10_1 : Int) := of_decide_eq_true asa_
              have q232 : x10_1 < (t229.length : Int) := of_decide_eq_true asa_
              obtain ⟨ad232, e232, hx232_0⟩ := Kd.at_int (Kd.R_reads' HO_8.out).2.2 x10_1 p232 q232
              cases e232
              replace p232 := eq_true p232
              replace q232 := eq_true q232
              try go_wp2_with (first | ((with_reducible refine gate_callee (f := 42) rfl ?_); refine goesL_ (some 34) rfl rfl Tryd.func42 (by kernel_rfl) rfl #[.int .i64 a0, .slice A1 l1.length c1, .slice A2 l2.length c2, .int .i64 (rd t229 x10_1)] rfl lma_ ?_; (with_reducible refine (spoolref05_holds.calls k1 a0 _ _ l1 _ _ l2 (rd t229 x10_1) true _ ?side1 ?side2 ?side3 ?side4 A14.out).mono ?_); (case side1 => repeat (first | exact (Kd.C_below HR1.out HB.out) | (with_reducible refine Kd.C_alloc ?_ _) | (with_reducible refine Kd.C_drewN ?_ _) | (with_reducible refine Kd.C_drew ?_))); (case side2 => exact HC1.out); (case side3 => repeat (first | exact (Kd.C_below HR2.out HB.out) | (with_reducible refine Kd.C_alloc ?_ _) | (with_reducible refine Kd.C_drewN ?_ _) | (with_reducible refine Kd.C_drew ?_))); (case side4 => exact HC2.out); rintro e w' ⟨rfl, ⟨nd, rfl⟩⟩; refine ⟨_, rfl, ?_⟩; (try (rw [drewN_self wr]; generalize hq_ : World.drewN wr _ = wr; have n0_ : Aside0 (Kd.R (Kd.int .i64) 3 wr w.heap.size (fun _ => True) (.slice (some ad232) t229.length co24) t229) := ⟨by rw [← hq_]; exact (by (with_reducible repeat (first | apply Kd.R_alloc | apply Kd.R_drewN | apply Kd.R_drew)); exact HO_8.out)⟩; have n1_ : Aside0 (Kd.R k60 60 wr w.heap.size (fun _ => True) u9 x9_1) := ⟨by rw [← hq_]; exact (by (with_reducible repeat (first | apply Kd.R_alloc | apply Kd.R_drewN | apply Kd.R_drew)); exact HO_9.out)⟩; have n2_ : Aside0 (Below w.heap.size w wr) := ⟨by rw [← hq_]; exact (blw_ HB.out)⟩; clear HO_8 HO_9 HB hq_; have HO_8 := n0_; have HO_9 := n1_; have HB := n2_; clear n0_ n1_ n2_)); obtain ⟨Ao25, co25, eo25⟩ := Kd.R_slice HO_9.out; subst eo25))
              have n0_ := Aside0.mk (Kd.R_drew HO_8.out)
              have n1_ := Aside0.mk (Kd.R_drew HO_9.out)
              have n2_ := Aside0.mk (below_drew1 HB.out)
              clear HO_8
              clear HO_9
              clear HB
              have HO_8 := n0_
              have HO_9 := n1_
              have HB := n2_
              clear n0_ n1_ n2_
              have p234 : 0 ≤ ((ji17) : Int) := of_decide_eq_true asa_
              have q234 : (ji17) < (x9_1.length : Int) := of_decide_eq_true asa_
              obtain ⟨ad234, e234, hx234_0, hx234_1⟩ := at_T60 (Kd.R_reads' HO_9.out).2.2 (ji17) p234 q234
              cases e234
              replace p234 := eq_true p234
              replace q234 := eq_true q234
              have p235 : 0 ≤ (x10_1 : Int) := of_decide_eq_true asa_
              have q235 : x10_1 < (t229.length : Int) := of_decide_eq_true asa_
              obtain ⟨ad235, e235, hx235_0⟩ := Kd.at_int (Kd.R_reads' HO_8.out).2.2 x10_1 p235 q235
              obtain rfl : ad232 = ad235 := (by injection e235)
              replace p235 := eq_true p235
              replace q235 := eq_true q235
              refine start_ (n := 15) (S := fun w' => w'.cell? (ad234.add (((ji17)).toNat * 2)) = some (.int .i64 ((rd_T60 x9_1 (ji17)).f0)) ∧ w'.cell? ⟨(ad234.add (((ji17)).toNat * 2)).block, (ad234.add (((ji17)).toNat * 2)).off + 1, none⟩ = some (.int .i64 ((rd_T60 x9_1 (ji17)).f1)) ∧ w'.cell? (ad232.add (x10_1).toNat) = some (.int .i64 (rd t229 x10_1))) (ds := []) #[false, false, false, false, false, false, false, false, false, false, false, false, false, false, false] (by kernel_rfl) rfl rfl ⟨hx234_0, hx234_1, hx235_0⟩ (fun hHeld => ?_); refine with_tabW spoolref05_Set.tab11 spoolref05_Set.bits11 (fun HT_ HW_ => ?_)
              generalize wr.drew = w26 at HO_8 HO_9 HB hx234_0 hx234_1 hx235_0 hHeld ⊢
              refine pq_ (i := 0) (n := 39) (bA 15 1) (any_of HT_.out (by kernel_rfl)) ?_
              refine pq_ (i := 1) (n := 40) (bA 15 3) (any_of HT_.out (by kernel_rfl)) ?_
              refine pq_ (i := 2) (n := 41) (bA 15 7) (any_of HT_.out (by kernel_rfl)) ?_
              refine pq_ (i := 3) (n := 42) (bA 15 15) (any_of HT_.out (by kernel_rfl)) ?_
              refine pq_ (i := 4) (n := 43) (bA 15 31) (any_of HT_.out (by kernel_rfl)) ?_
              refine pq_ (i := 5) (n := 44) (bA 15 63) (any_of HT_.out (by kernel_rfl)) ?_
              refine pq_ (i := 6) (n := 45) (bA 15 127) (any_of HT_.out (by kernel_rfl)) ?_
              refine pq_ (i := 8) (n := 47) (bA 15 383) (any_of HT_.out (by kernel_rfl)) ?_
              refine pq_ (i := 9) (n := 48) (bA 15 895) (any_of HT_.out (by kernel_rfl)) ?_
              refine pq_ (i := 10) (n := 49) (bA 15 1919) (any_of HT_.out (by kernel_rfl)) ?_
              refine take_ (i := 7) (N := some 46) (v := ?_) (a' := ?_) (bA 15 2047) rfl rfl (take_ofW HT_.out HW_.out (by kernel_rfl)) (fun _ _ _ h => h) (Or.inl ⟨by rfl, ?_⟩) hHeld ?_ ?_
              rotate_left
              ·rintro w' ⟨s0, s1, s2⟩
               go_simp
               with_reducible rfl
              rotate_left
              ·exact nrm_
              refine take_ (i := 11) (N := some 50) (v := ?_) (a' := ?_) (bA 15 4095) rfl rfl (take_ofW HT_.out HW_.out (by kernel_rfl)) (fun _ _ _ h => h) (Or.inl ⟨by rfl, ?_⟩) hHeld ?_ ?_
              rotate_left
              ·rintro w' ⟨s0, s1, s2⟩
               go_simp
               with_reducible rfl
              rotate_left
              ·exact nrm_
              refine pq_ (i := 12) (n := 51) (bA 15 8191) (any_of HT_.out (by kernel_rfl)) ?_
              refine pq_ (i := 13) (n := 52) (bA 15 16383) (any_of HT_.out (by kernel_rfl)) ?_
              refine pq_ (i := 14) (n := 53) (bA 15 32767) (any_of HT_.out (by kernel_rfl)) ?_
              refine done_ (done_of HT_.out (by kernel_rfl)) ?_
              try go_wp2
              have n0_ := Aside0.mk (Kd.R_drew HO_8.out)
              have n1_ := Aside0.mk (Kd.R_drew HO_9.out)
              have n2_ := Aside0.mk (below_drew1 HB.out)
              clear HO_8
              clear HO_9
              clear HB
              have HO_8 := n0_
              have HO_9 := n1_
              have HB := n2_
              clear n0_ n1_ n2_
              have p236 : 0 ≤ ((ji17) : Int) := of_decide_eq_true asa_
              have q236 : (ji17) < (x9_1.length : Int) := of_decide_eq_true asa_
              obtain ⟨ad236, e236, hx236_0, hx236_1⟩ := at_T60 (Kd.R_reads' HO_9.out).2.2 (ji17) p236 q236
              obtain rfl : ad234 = ad236 := (by injection e236)
              replace p236 := eq_true p236
              replace q236 := eq_true q236
              have p237 : 0 ≤ ((ji21) : Int) := of_decide_eq_true asa_
              have q237 : (ji21) < (t229.length : Int) := of_decide_eq_true asa_
              obtain ⟨ad237, e237, hx237_0⟩ := Kd.at_int (Kd.R_reads' HO_8.out).2.2 (ji21) p237 q237
              obtain rfl : ad232 = ad237 := (by injection e237)
              replace p237 := eq_true p237
              replace q237 := eq_true q237
              have p23 : 0 ≤ ((ji17) : Int) := of_decide_eq_true asa_
              have q23 : ((ji17) : Int) < ((x9_1.length : Int) : Int) := of_decide_eq_true asa_
              obtain ⟨go23, co23, eo23, gb23, gl23, cl23, HG23⟩ := Kd.R_form HO_9.out (by omega)
              (first | cases eo23 | (injection eo23 with ea_ en_ ec_; (first | subst ea_ | (injection ea_ with ea_; subst ea_)); subst ec_; clear en_))
              have GB23 := Aside0.mk gb23
              have GG23 := Aside0.mk HG23
              clear gb23 gl23 HG23
              (first | simp only [add_plain] at hx234_0 | skip)
              (first | simp only [add_plain] at hx234_1 | skip)
              (first | simp only [add_plain] at hx236_0 | skip)
              (first | simp only [add_plain] at hx236_1 | skip)
              obtain ⟨ce23, hcl23, hM23, hcc23, hfr23⟩ := Kd.R_elem HO_9.out z60 ((ji17) : Int) p23 q23
              obtain rfl := k60_openM hM23
              have hx23_0 : World.cell? _ ⟨go23, ((ji17) : Int).toNat * 2, none⟩ = some (.int .i64 ((rd_T60 x9_1 (ji17)).f0)) := hcc23 0 _ rfl
              have hx23_1 : World.cell? _ ⟨go23, ((ji17) : Int).toNat * 2 + 1, none⟩ = some (.int .i64 ((rd_T60 x9_1 (ji17)).f1)) := hcc23 1 _ rfl
              have hf23_0 : World.frozen? _ ⟨go23, ((ji17) : Int).toNat * 2, none⟩ = false := hfr23 0
              have hf23_1 : World.frozen? _ ⟨go23, ((ji17) : Int).toNat * 2 + 1, none⟩ = false := hfr23 1
              clear hcl23 hcc23 hfr23 hM23
              replace p23 := eq_true p23
              replace q23 := eq_true q23
              obtain ⟨ce28, hcl28, hM28, hcc28, hfr28⟩ := Kd.R_elem HO_9.out z60 ((ji17) : Int) (of_decide_eq_true asa_) (by have h_ : ((ji17) : Int) < ((x9_1.length : Int) : Int) := of_decide_eq_true asa_; first | exact h_ | (have e_ := (Kd.R_reads' HO_9.out).1; omega) | simpa using h_)
              obtain rfl := k60_openM hM28
              have HP28 := (Kd.R_seg HO_9.out ((ji17) : Int) (of_decide_eq_true asa_) (by have h_ : ((ji17) : Int) < ((x9_1.length : Int) : Int) := of_decide_eq_true asa_; first | exact h_ | (have e_ := (Kd.R_reads' HO_9.out).1; omega) | simpa using h_) (seg := [.int .i64 ((rd_T60 x9_1 (ji17)).f0), .int .i64 (wrap64 ((rd t229 (ji21)) - 1))]) (j := 0) hcl28 hcc28 (show 2 ≤ 2 from by decide) (x' := (⟨(rd_T60 x9_1 (ji17)).f0, wrap64 ((rd t229 (ji21)) - 1)⟩ : S60)) (k60_mkM _ _ _ (⟨(rd_T60 x9_1 (ji17)).f0, wrap64 ((rd t229 (ji21)) - 1)⟩ : S60) ) (fun _ hk => hk)).1
              rw [← Ny238.out] at HP28
              have HQ28 := Aside0.mk HP28
              clear hcl28 hcc28 hfr28 hM28 HP28
              refine start_ (n := 16) (S := fun w' => w'.cell? ⟨go23, (((ji17)).toNat * 2), none⟩ = some (.int .i64 ((rd_T60 x9_1 (ji17)).f0)) ∧ w'.cell? ⟨go23, (((ji17)).toNat * 2) + 1, none⟩ = some (.int .i64 ((rd_T60 x9_1 (ji17)).f1)) ∧ w'.cell? (ad232.add ((ji21)).toNat) = some (.int .i64 (rd t229 (ji21)))) (ds := [15]) #[false, false, false, false, false, false, false, false, false, false, false, false, false, false, false, false] (by kernel_rfl) rfl rfl ⟨hx236_0, hx236_1, hx237_0⟩ (fun hHeld => ?_); refine with_tabW spoolref05_Set.tab12 spoolref05_Set.bits12 (fun HT_ HW_ => ?_)
              generalize w26.drew = w27 at HO_8 HO_9 HB GG23 HQ28 hf23_0 hf23_1 hx234_0 hx234_1 hx236_0 hx236_1 hx237_0 hx23_0 hx23_1 hHeld ⊢
              refine pq_ (i := 0) (n := 54) (bA 16 1) (any_of HT_.out (by kernel_rfl)) ?_
              refine pq_ (i := 1) (n := 55) (bA 16 3) (any_of HT_.out (by kernel_rfl)) ?_
              refine pq_ (i := 2) (n := 56) (bA 16 7) (any_of HT_.out (by kernel_rfl)) ?_
              refine pq_ (i := 3) (n := 57) (bA 16 15) (any_of HT_.out (by kernel_rfl)) ?_
              refine pq_ (i := 4) (n := 58) (bA 16 31) (any_of HT_.out (by kernel_rfl)) ?_
              refine pq_ (i := 5) (n := 59) (bA 16 63) (any_of HT_.out (by kernel_rfl)) ?_
              refine pq_ (i := 7) (n := 61) (bA 16 191) (any_of HT_.out (by kernel_rfl)) ?_
              refine pq_ (i := 8) (n := 62) (bA 16 447) (any_of HT_.out (by kernel_rfl)) ?_
              refine pq_ (i := 9) (n := 63) (bA 16 959) (any_of HT_.out (by kernel_rfl)) ?_
              refine pq_ (i := 10) (n := 64) (bA 16 1983) (any_of HT_.out (by kernel_rfl)) ?_
              refine take_ (i := 6) (N := some 60) (v := ?_) (a' := ?_) (bA 16 2047) rfl rfl (take_ofW HT_.out HW_.out (by kernel_rfl)) (fun _ _ _ h => h) (Or.inl ⟨by rfl, ?_⟩) hHeld ?_ ?_
              rotate_left
              ·rintro w' ⟨s0, s1, s2⟩
               go_simp
               with_reducible rfl
              rotate_left
              ·exact nrm_
              refine take_ (i := 11) (N := some 65) (v := ?_) (a' := ?_) (bA 16 4095) rfl rfl (take_ofW HT_.out HW_.out (by kernel_rfl)) (fun _ _ _ h => h) (Or.inl ⟨by rfl, ?_⟩) hHeld ?_ ?_
              rotate_left
              ·rintro w' ⟨s0, s1, s2⟩
               go_simp
               with_reducible rfl
              rotate_left
              ·exact nrm_
              refine pq_ (i := 12) (n := 66) (bA 16 8191) (any_of HT_.out (by kernel_rfl)) ?_
              refine pq_ (i := 13) (n := 67) (bA 16 16383) (any_of HT_.out (by kernel_rfl)) ?_
              refine pq_ (i := 14) (n := 68) (bA 16 32767) (any_of HT_.out (by kernel_rfl)) ?_
              refine last_ (i := 15) (N := none) #[true, true, true, true, true, true, true, true, true, true, true, true, true, true, true, true] rfl rfl (one_of HT_.out (by kernel_rfl)) (by decide) (fun K hK => ?_)
              refine skip_ (w1 := ?_) (by rfl) rfl ?_ ?_
              rotate_left
              ·go_simp
               rfl
              refine hK.out _ _ ?_
              clear hK K
              refine done_ (done_of HT_.out (by kernel_rfl)) ?_
              try go_wp2
              go_roundg k1
              case measure => have := HK1.out; omega
              case rel => exact ⟨(y238), (ji21), (by first | rfl | (simp; done) | (simp only [← hji21] <;> (first | rfl | simp)) | (simp [*]; done)), H', ⟨by have := HK1.out; omega⟩, ⟨by (with_reducible repeat (first | apply Kd.R_alloc | apply Kd.R_drewN | apply Kd.R_drew)); exact Kd.R_mono (Kd.R_far (p := ⟨go23, ((ji17) : Int).toNat * 2 + 1, none⟩) (Kd.R_far (p := ⟨go23, ((ji17) : Int).toNat * 2, none⟩) (Kd.R_types HO_8.out GG23.out (by decide)) (fun _ hk => hk.2) (.int .i64 ((rd_T60 x9_1 (ji17)).f0))) (fun _ hk => hk.2) (.int .i64 (wrap64 ((rd t229 (ji21)) - 1)))) (fun _ hk => trivial)⟩, ⟨by (with_reducible repeat (first | apply Kd.R_alloc | apply Kd.R_drewN | apply Kd.R_drew)); exact HQ28.out⟩, ⟨bla_ HB.out⟩⟩
             ·rw [if_neg c22] at H
              exact absurd H (by simp)
            ·rw [if_neg c20] at H
             have c20b0 : (((rd_T60 x9_1 (ji17)).f1) == (wrap64 ((rd t229 x10_1) - 1))) = false := beq_eq_false_iff_ne.mpr c20
             have c20b1 : (((rd_T60 x9_1 (ji17)).f1) != (wrap64 ((rd t229 x10_1) - 1))) = true := bne_iff_ne.mpr c20
             obtain ⟨ji29, hji29⟩ : ∃ j_ : Int, (wrap64 (x10_1 + 1)) = j_ := ⟨_, rfl⟩
             replace H : (if 0 ≤ (ji29) then (if x9_1.length < 8796093022208 then (spoolref05_Set.l0 k1 a0 l1 l2 t229 (x9_1 ++ [(⟨rd t229 x10_1, wrap64 ((rd t229 (ji29)) - 1)⟩ : S60)]) ji29) else (none)) else (none)) = some r := by first | (rw [hji29] at H; exact H) | (simp only [hji29] at H ⊢; exact H)
             (try rw [hji29] at c11b0)
             (try rw [hji29] at A14)
             have hji29w : (IntKind.i64.wrap (x10_1 + 1)) = ji29 := (i64_w _).trans hji29
             by_cases c30 : 0 ≤ (ji29)
             ·rw [if_pos c30] at H
              have c30b0 : decide (0 ≤ (ji29)) = true := decide_eq_true c30
              clear c30
              by_cases c31 : x9_1.length < 8796093022208
              ·rw [if_pos c31] at H
               have LMc31 := Aside0.mk c31
               clear c31
               obtain ⟨y241, hy241⟩ : ∃ y_ : List (S60), y_ = (x9_1 ++ [(⟨rd t229 x10_1, wrap64 ((rd t229 (ji29)) - 1)⟩ : S60)]) := ⟨_, rfl⟩
               replace H : (spoolref05_Set.l0 k1 a0 l1 l2 t229 y241 ji29) = some r := by first | (rw [hy241]; with_reducible exact H) | (have H2_ := (Option.bind_some _ _).symm.trans H; rw [hy241]; with_reducible exact H2_) | (have H2_ := (Option.bind_some _ _).symm.trans H; with_reducible exact H2_) | with_reducible exact H | (rw [hy241]; exact H) | exact H
               have Ny241 := Aside0.mk hy241
               clear hy241
               have H' := Aside0.mk H
               clear H
               obtain ⟨Ao32, co32, eo32⟩ := Kd.R_slice HO_8.out
               subst eo32
               have p232 : 0 ≤ (x10_1 : Int) := of_decide_eq_true asa_
               have q232 : x10_1 < (t229.length : Int) := of_decide_eq_true asa_
               obtain ⟨ad232, e232, hx232_0⟩ := Kd.at_int (Kd.R_reads' HO_8.out).2.2 x10_1 p232 q232
               cases e232
               replace p232 := eq_true p232
               replace q232 := eq_true q232
               try go_wp2_with (first | ((with_reducible refine gate_callee (f := 42) rfl ?_); refine goesL_ (some 34) rfl rfl Tryd.func42 (by kernel_rfl) rfl #[.int .i64 a0, .slice A1 l1.length c1, .slice A2 l2.length c2, .int .i64 (rd t229 x10_1)] rfl lma_ ?_; (with_reducible refine (spoolref05_holds.calls k1 a0 _ _ l1 _ _ l2 (rd t229 x10_1) true _ ?side1 ?side2 ?side3 ?side4 A14.out).mono ?_); (case side1 => repeat (first | exact (Kd.C_below HR1.out HB.out) | (with_reducible refine Kd.C_alloc ?_ _) | (with_reducible refine Kd.C_drewN ?_ _) | (with_reducible refine Kd.C_drew ?_))); (case side2 => exact HC1.out); (case side3 => repeat (first | exact (Kd.C_below HR2.out HB.out) | (with_reducible refine Kd.C_alloc ?_ _) | (with_reducible refine Kd.C_drewN ?_ _) | (with_reducible refine Kd.C_drew ?_))); (case side4 => exact HC2.out); rintro e w' ⟨rfl, ⟨nd, rfl⟩⟩; refine ⟨_, rfl, ?_⟩; obtain ⟨Ao33, co33, eo33⟩ := Kd.R_slice HO_9.out; subst eo33))
               (try (rw [drewN_self wr]; generalize hq_ : World.drewN wr _ = wr; have n0_ : Aside0 (Kd.R (Kd.int .i64) 3 wr w.heap.size (fun _ => True) (.slice (some ad232) t229.length co32) t229) := ⟨by rw [← hq_]; exact (by (with_reducible repeat (first | apply Kd.R_alloc | apply Kd.R_drewN | apply Kd.R_drew)); exact HO_8.out)⟩; have n1_ : Aside0 (Kd.R k60 60 wr w.heap.size (fun _ => True) (.slice Ao33 x9_1.length co33) x9_1) := ⟨by rw [← hq_]; exact (by (with_reducible repeat (first | apply Kd.R_alloc | apply Kd.R_drewN | apply Kd.R_drew)); exact HO_9.out)⟩; have n2_ : Aside0 (Below w.heap.size w wr) := ⟨by rw [← hq_]; exact (blw_ HB.out)⟩; clear HO_8 HO_9 HB hq_; have HO_8 := n0_; have HO_9 := n1_; have HB := n2_; clear n0_ n1_ n2_))
               have n0_ := Aside0.mk (Kd.R_drew HO_8.out)
               have n1_ := Aside0.mk (Kd.R_drew HO_9.out)
               have n2_ := Aside0.mk (below_drew1 HB.out)
               clear HO_8
               clear HO_9
               clear HB
               have HO_8 := n0_
               have HO_9 := n1_
               have HB := n2_
               clear n0_ n1_ n2_
               have p234 : 0 ≤ ((ji17) : Int) := of_decide_eq_true asa_
               have q234 : (ji17) < (x9_1.length : Int) := of_decide_eq_true asa_
               obtain ⟨ad234, e234, hx234_0, hx234_1⟩ := at_T60 (Kd.R_reads' HO_9.out).2.2 (ji17) p234 q234
               cases e234
               replace p234 := eq_true p234
               replace q234 := eq_true q234
               have p235 : 0 ≤ (x10_1 : Int) := of_decide_eq_true asa_
               have q235 : x10_1 < (t229.length : Int) := of_decide_eq_true asa_
               obtain ⟨ad235, e235, hx235_0⟩ := Kd.at_int (Kd.R_reads' HO_8.out).2.2 x10_1 p235 q235
               obtain rfl : ad232 = ad235 := (by injection e235)
               replace p235 := eq_true p235
               replace q235 := eq_true q235
               refine start_ (n := 15) (S := fun w' => w'.cell? (ad234.add (((ji17)).toNat * 2)) = some (.int .i64 ((rd_T60 x9_1 (ji17)).f0)) ∧ w'.cell? ⟨(ad234.add (((ji17)).toNat * 2)).block, (ad234.add (((ji17)).toNat * 2)).off + 1, none⟩ = some (.int .i64 ((rd_T60 x9_1 (ji17)).f1)) ∧ w'.cell? (ad232.add (x10_1).toNat) = some (.int .i64 (rd t229 x10_1))) (ds := []) #[false, false, false, false, false, false, false, false, false, false, false, false, false, false, false] (by kernel_rfl) rfl rfl ⟨hx234_0, hx234_1, hx235_0⟩ (fun hHeld => ?_); refine with_tabW spoolref05_Set.tab11 spoolref05_Set.bits11 (fun HT_ HW_ => ?_)
               generalize wr.drew = w34 at HO_8 HO_9 HB hx234_0 hx234_1 hx235_0 hHeld ⊢
               refine pq_ (i := 0) (n := 39) (bA 15 1) (any_of HT_.out (by kernel_rfl)) ?_
               refine pq_ (i := 1) (n := 40) (bA 15 3) (any_of HT_.out (by kernel_rfl)) ?_
               refine pq_ (i := 2) (n := 41) (bA 15 7) (any_of HT_.out (by kernel_rfl)) ?_
               refine pq_ (i := 3) (n := 42) (bA 15 15) (any_of HT_.out (by kernel_rfl)) ?_
               refine pq_ (i := 4) (n := 43) (bA 15 31) (any_of HT_.out (by kernel_rfl)) ?_
               refine pq_ (i := 5) (n := 44) (bA 15 63) (any_of HT_.out (by kernel_rfl)) ?_
               refine pq_ (i := 6) (n := 45) (bA 15 127) (any_of HT_.out (by kernel_rfl)) ?_
               refine pq_ (i := 8) (n := 47) (bA 15 383) (any_of HT_.out (by kernel_rfl)) ?_
               refine pq_ (i := 9) (n := 48) (bA 15 895) (any_of HT_.out (by kernel_rfl)) ?_
               refine pq_ (i := 10) (n := 49) (bA 15 1919) (any_of HT_.out (by kernel_rfl)) ?_
               refine take_ (i := 7) (N := some 46) (v := ?_) (a' := ?_) (bA 15 2047) rfl rfl (take_ofW HT_.out HW_.out (by kernel_rfl)) (fun _ _ _ h => h) (Or.inl ⟨by rfl, ?_⟩) hHeld ?_ ?_
               rotate_left
               ·rintro w' ⟨s0, s1, s2⟩
                go_simp
                with_reducible rfl
               rotate_left
               ·exact nrm_
               refine take_ (i := 11) (N := some 50) (v := ?_) (a' := ?_) (bA 15 4095) rfl rfl (take_ofW HT_.out HW_.out (by kernel_rfl)) (fun _ _ _ h => h) (Or.inl ⟨by rfl, ?_⟩) hHeld ?_ ?_
               rotate_left
               ·rintro w' ⟨s0, s1, s2⟩
                go_simp
                with_reducible rfl
               rotate_left
               ·exact nrm_
               refine pq_ (i := 12) (n := 51) (bA 15 8191) (any_of HT_.out (by kernel_rfl)) ?_
               refine pq_ (i := 13) (n := 52) (bA 15 16383) (any_of HT_.out (by kernel_rfl)) ?_
               refine pq_ (i := 14) (n := 53) (bA 15 32767) (any_of HT_.out (by kernel_rfl)) ?_
               refine done_ (done_of HT_.out (by kernel_rfl)) ?_
               try go_wp2
               have n0_ := Aside0.mk (Kd.R_drew HO_8.out)
               have n1_ := Aside0.mk (Kd.R_drew HO_9.out)
               have n2_ := Aside0.mk (below_drew1 HB.out)
               clear HO_8
               clear HO_9
               clear HB
               have HO_8 := n0_
               have HO_9 := n1_
               have HB := n2_
               clear n0_ n1_ n2_
               have p239 : 0 ≤ (x10_1 : Int) := of_decide_eq_true asa_
               have q239 : x10_1 < (t229.length : Int) := of_decide_eq_true asa_
               obtain ⟨ad239, e239, hx239_0⟩ := Kd.at_int (Kd.R_reads' HO_8.out).2.2 x10_1 p239 q239
               obtain rfl : ad232 = ad239 := (by injection e239)
               replace p239 := eq_true p239
               replace q239 := eq_true q239
               have p240 : 0 ≤ ((ji29) : Int) := of_decide_eq_true asa_
               have q240 : (ji29) < (t229.length : Int) := of_decide_eq_true asa_
               obtain ⟨ad240, e240, hx240_0⟩ := Kd.at_int (Kd.R_reads' HO_8.out).2.2 (ji29) p240 q240
               obtain rfl : ad232 = ad240 := (by injection e240)
               replace p240 := eq_true p240
               replace q240 := eq_true q240
               refine start_ (n := 15) (S := fun w' => w'.cell? (ad232.add (x10_1).toNat) = some (.int .i64 (rd t229 x10_1)) ∧ w'.cell? (ad232.add ((ji29)).toNat) = some (.int .i64 (rd t229 (ji29)))) (ds := [12, 13]) #[false, false, false, false, false, false, false, false, false, false, false, false, false, false, false] (by kernel_rfl) rfl rfl ⟨hx239_0, hx240_0⟩ (fun hHeld => ?_); refine with_tabW spoolref05_Set.tab13 spoolref05_Set.bits13 (fun HT_ HW_ => ?_)
               generalize w34.drew = w35 at HO_8 HO_9 HB hx239_0 hx240_0 hHeld ⊢
               refine pq_ (i := 0) (n := 69) (bA 15 1) (any_of HT_.out (by kernel_rfl)) ?_
               refine pq_ (i := 1) (n := 70) (bA 15 3) (any_of HT_.out (by kernel_rfl)) ?_
               refine pq_ (i := 2) (n := 71) (bA 15 7) (any_of HT_.out (by kernel_rfl)) ?_
               refine pq_ (i := 3) (n := 72) (bA 15 15) (any_of HT_.out (by kernel_rfl)) ?_
               refine pq_ (i := 5) (n := 74) (bA 15 47) (any_of HT_.out (by kernel_rfl)) ?_
               refine pq_ (i := 6) (n := 75) (bA 15 111) (any_of HT_.out (by kernel_rfl)) ?_
               refine pq_ (i := 7) (n := 76) (bA 15 239) (any_of HT_.out (by kernel_rfl)) ?_
               refine pq_ (i := 8) (n := 77) (bA 15 495) (any_of HT_.out (by kernel_rfl)) ?_
               refine take_ (i := 4) (N := some 73) (v := ?_) (a' := ?_) (bA 15 511) rfl rfl (take_ofW HT_.out HW_.out (by kernel_rfl)) (fun _ _ _ h => h) (Or.inl ⟨by rfl, ?_⟩) hHeld ?_ ?_
               rotate_left
               ·rintro w' ⟨s0, s1⟩
                go_simp
                with_reducible rfl
               rotate_left
               ·exact nrm_
               refine take_ (i := 9) (N := some 78) (v := ?_) (a' := ?_) (bA 15 1023) rfl rfl (take_ofW HT_.out HW_.out (by kernel_rfl)) (fun _ _ _ h => h) (Or.inl ⟨by rfl, ?_⟩) hHeld ?_ ?_
               rotate_left
               ·rintro w' ⟨s0, s1⟩
                go_simp
                with_reducible rfl
               rotate_left
               ·exact nrm_
               refine pq_ (i := 10) (n := 79) (bA 15 2047) (any_of HT_.out (by kernel_rfl)) ?_
               refine pq_ (i := 11) (n := 80) (bA 15 4095) (any_of HT_.out (by kernel_rfl)) ?_
               refine last_ (i := 12) (N := some 81) #[true, true, true, true, true, true, true, true, true, true, true, true, true, false, false] rfl rfl (one_of HT_.out (by kernel_rfl)) (by decide) (fun K hK => ?_)
               refine value_ (w1 := ?_) (v := ?_) (by rfl) rfl ?_ ?_
               rotate_left 2
               ·go_simp
                constructor
                ·rfl
                ·rfl
               refine hK.out _ _ ?_
               clear hK K
               refine nm_ (n := 81) ?_
               refine last_ (i := 13) (N := some 82) #[true, true, true, true, true, true, true, true, true, true, true, true, true, true, false] rfl rfl (one_of HT_.out (by kernel_rfl)) (by decide) (fun K hK => ?_)
               refine Kd.R_append_step k60 (w0 := w) w.heap.size (by rfl) (.tmp 69) (.tmp 81) 44 60 (.agg #[(.int .i64 0), (.int .i64 0)]) 16 rfl Tryd.underlying44 info60 rfl (by decide) (by omega) (.slice (some ad234) x9_1.length co33) x9_1 (⟨rd t229 x10_1, wrap64 ((rd t229 (ji29)) - 1)⟩ : S60) [.int .i64 (rd t229 x10_1), .int .i64 (wrap64 ((rd t229 (ji29)) - 1))] (fun _ => True) (fun _ => False) rfl rfl ?aP (fun _ hk => hk.elim) ?aF ?aO ?aB ?aS ?aL ?_
               (case aP => exact k60_mkM _ _ _ (⟨rd t229 x10_1, wrap64 ((rd t229 (ji29)) - 1)⟩ : S60))
               (case aB => exact (blw_ HB.out))
               (case aF => exact (fun _ _ => trivial))
               (case aO => exact (by (with_reducible repeat (first | apply Kd.R_alloc | apply Kd.R_drewN | apply Kd.R_drew)); exact HO_9.out))
               (case aS => exact (below_size (blw_ HB.out)))
               (case aL => have := LMc31.out; omega)
               intro v242 w36 ho hb hg hat
               rw [← Ny241.out] at ho
               have n0_ := Aside0.mk (Kd.R_over' (by (with_reducible repeat (first | apply Kd.R_alloc | apply Kd.R_drewN | apply Kd.R_drew)); exact HO_8.out) (Kd.R_typed (by (with_reducible repeat (first | apply Kd.R_alloc | apply Kd.R_drewN | apply Kd.R_drew)); exact HO_9.out)) (by decide) hg)
               have n1_ := Aside0.mk (hb)
               have n2_ := Aside0.mk (ho)
               clear HO_8
               clear HB
               clear HO_9
               have HO_8 := n0_
               have HB := n1_
               have HO243 := n2_
               clear n0_ n1_ n2_
               clear ho hb hg hat
               refine hK.out _ _ ?_
               clear hK K
               refine nm_ (n := 82) ?_
               refine pq_ (i := 14) (n := 9) (bA 15 32767) (any_of HT_.out (by kernel_rfl)) ?_
               refine done_ (done_of HT_.out (by kernel_rfl)) ?_
               try go_wp2
               go_roundg k1
               case measure => have := HK1.out; omega
               case rel => exact ⟨(y241), (ji29), (by first | rfl | (simp; done) | (simp only [← hji29] <;> (first | rfl | simp)) | (simp [*]; done)), H', ⟨by have := HK1.out; omega⟩, ⟨by (with_reducible repeat (first | apply Kd.R_alloc | apply Kd.R_drewN | apply Kd.R_drew)); exact HO_8.out⟩, ⟨by (with_reducible repeat (first | apply Kd.R_alloc | apply Kd.R_drewN | apply Kd.R_drew)); exact HO243.out⟩, ⟨blw_ HB.out⟩⟩
              ·rw [if_neg c31] at H
               exact absurd H (by simp)
             ·rw [if_neg c30] at H
              exact absurd H (by simp)
           ·rw [if_neg c19] at H
            exact absurd H (by simp)
          ·rw [if_neg c18] at H
           exact absurd H (by simp)
         ·rw [if_neg c16] at H
          have c16b0 : decide (0 ≤ (wrap64 ((x9_1.length : Int) - 1))) = false := decide_eq_false c16
          clear c16
          obtain ⟨ji37, hji37⟩ : ∃ j_ : Int, (wrap64 (x10_1 + 1)) = j_ := ⟨_, rfl⟩
          replace H : (if 0 ≤ (ji37) then (if x9_1.length < 8796093022208 then (spoolref05_Set.l0 k1 a0 l1 l2 t229 (x9_1 ++ [(⟨rd t229 x10_1, wrap64 ((rd t229 (ji37)) - 1)⟩ : S60)]) ji37) else (none)) else (none)) = some r := by first | (rw [hji37] at H; exact H) | (simp only [hji37] at H ⊢; exact H)
          (try rw [hji37] at c11b0)
          (try rw [hji37] at A14)
          have hji37w : (IntKind.i64.wrap (x10_1 + 1)) = ji37 := (i64_w _).trans hji37
          by_cases c38 : 0 ≤ (ji37)
          ·rw [if_pos c38] at H
           have c38b0 : decide (0 ≤ (ji37)) = true := decide_eq_true c38
           clear c38
           by_cases c39 : x9_1.length < 8796093022208
           ·rw [if_pos c39] at H
            have LMc39 := Aside0.mk c39
            clear c39
            obtain ⟨y246, hy246⟩ : ∃ y_ : List (S60), y_ = (x9_1 ++ [(⟨rd t229 x10_1, wrap64 ((rd t229 (ji37)) - 1)⟩ : S60)]) := ⟨_, rfl⟩
            replace H : (spoolref05_Set.l0 k1 a0 l1 l2 t229 y246 ji37) = some r := by first | (rw [hy246]; with_reducible exact H) | (have H2_ := (Option.bind_some _ _).symm.trans H; rw [hy246]; with_reducible exact H2_) | (have H2_ := (Option.bind_some _ _).symm.trans H; with_reducible exact H2_) | with_reducible exact H | (rw [hy246]; exact H) | exact H
            have Ny246 := Aside0.mk hy246
            clear hy246
            have H' := Aside0.mk H
            clear H
            obtain ⟨Ao40, co40, eo40⟩ := Kd.R_slice HO_8.out
            subst eo40
            have p232 : 0 ≤ (x10_1 : Int) := of_decide_eq_true asa_
            have q232 : x10_1 < (t229.length : Int) := of_decide_eq_true asa_
            obtain ⟨ad232, e232, hx232_0⟩ := Kd.at_int (Kd.R_reads' HO_8.out).2.2 x10_1 p232 q232
            cases e232
            replace p232 := eq_true p232
            replace q232 := eq_true q232
            try go_wp2_with (first | ((with_reducible refine gate_callee (f := 42) rfl ?_); refine goesL_ (some 34) rfl rfl Tryd.func42 (by kernel_rfl) rfl #[.int .i64 a0, .slice A1 l1.length c1, .slice A2 l2.length c2, .int .i64 (rd t229 x10_1)] rfl lma_ ?_; (with_reducible refine (spoolref05_holds.calls k1 a0 _ _ l1 _ _ l2 (rd t229 x10_1) true _ ?side1 ?side2 ?side3 ?side4 A14.out).mono ?_); (case side1 => repeat (first | exact (Kd.C_below HR1.out HB.out) | (with_reducible refine Kd.C_alloc ?_ _) | (with_reducible refine Kd.C_drewN ?_ _) | (with_reducible refine Kd.C_drew ?_))); (case side2 => exact HC1.out); (case side3 => repeat (first | exact (Kd.C_below HR2.out HB.out) | (with_reducible refine Kd.C_alloc ?_ _) | (with_reducible refine Kd.C_drewN ?_ _) | (with_reducible refine Kd.C_drew ?_))); (case side4 => exact HC2.out); rintro e w' ⟨rfl, ⟨nd, rfl⟩⟩; refine ⟨_, rfl, ?_⟩; obtain ⟨Ao41, co41, eo41⟩ := Kd.R_slice HO_9.out; subst eo41))
            (try (rw [drewN_self wr]; generalize hq_ : World.drewN wr _ = wr; have n0_ : Aside0 (Kd.R (Kd.int .i64) 3 wr w.heap.size (fun _ => True) (.slice (some ad232) t229.length co40) t229) := ⟨by rw [← hq_]; exact (by (with_reducible repeat (first | apply Kd.R_alloc | apply Kd.R_drewN | apply Kd.R_drew)); exact HO_8.out)⟩; have n1_ : Aside0 (Kd.R k60 60 wr w.heap.size (fun _ => True) (.slice Ao41 x9_1.length co41) x9_1) := ⟨by rw [← hq_]; exact (by (with_reducible repeat (first | apply Kd.R_alloc | apply Kd.R_drewN | apply Kd.R_drew)); exact HO_9.out)⟩; have n2_ : Aside0 (Below w.heap.size w wr) := ⟨by rw [← hq_]; exact (blw_ HB.out)⟩; clear HO_8 HO_9 HB hq_; have HO_8 := n0_; have HO_9 := n1_; have HB := n2_; clear n0_ n1_ n2_))
            have n0_ := Aside0.mk (Kd.R_drew HO_8.out)
            have n1_ := Aside0.mk (Kd.R_drew HO_9.out)
            have n2_ := Aside0.mk (below_drew1 HB.out)
            clear HO_8
            clear HO_9
            clear HB
            have HO_8 := n0_
            have HO_9 := n1_
            have HB := n2_
            clear n0_ n1_ n2_
            refine start_ (n := 15) (S := fun w' => True) (ds := []) #[false, false, false, false, false, false, false, false, false, false, false, false, false, false, false] (by kernel_rfl) rfl rfl trivial (fun hHeld => ?_); refine with_tabW spoolref05_Set.tab11 spoolref05_Set.bits11 (fun HT_ HW_ => ?_)
            generalize wr.drew = w42 at HO_8 HO_9 HB hHeld ⊢
            refine pq_ (i := 0) (n := 39) (bA 15 1) (any_of HT_.out (by kernel_rfl)) ?_
            refine pq_ (i := 1) (n := 40) (bA 15 3) (any_of HT_.out (by kernel_rfl)) ?_
            refine pq_ (i := 2) (n := 41) (bA 15 7) (any_of HT_.out (by kernel_rfl)) ?_
            refine pure_ (i := 3) (N := some 42) (v := undef) (a' := ?_) (bA 15 15) rfl rfl (any_of HT_.out (by kernel_rfl)) (fun _ _ _ h => h) (Or.inr ⟨by rfl, rfl⟩) ?_ ?_
            rotate_left
            ·exact nrm_
            refine pure_ (i := 4) (N := some 43) (v := undef) (a' := ?_) (bA 15 31) rfl rfl (any_of HT_.out (by kernel_rfl)) (fun _ _ _ h => h) (Or.inr ⟨by rfl, rfl⟩) ?_ ?_
            rotate_left
            ·exact nrm_
            refine pure_ (i := 5) (N := some 44) (v := undef) (a' := ?_) (bA 15 63) rfl rfl (any_of HT_.out (by kernel_rfl)) (fun _ _ _ h => h) (Or.inr ⟨by rfl, rfl⟩) ?_ ?_
            rotate_left
            ·exact nrm_
            refine pure_ (i := 6) (N := some 45) (v := undef) (a' := ?_) (bA 15 127) rfl rfl (any_of HT_.out (by kernel_rfl)) (fun _ _ _ h => h) (Or.inr ⟨by rfl, rfl⟩) ?_ ?_
            rotate_left
            ·exact nrm_
            refine pure_ (i := 7) (N := some 46) (v := undef) (a' := ?_) (bA 15 255) rfl rfl (any_of HT_.out (by kernel_rfl)) (fun _ _ _ h => h) (Or.inr ⟨by rfl, rfl⟩) ?_ ?_
            rotate_left
            ·exact nrm_
            refine pure_ (i := 8) (N := some 47) (v := undef) (a' := ?_) (bA 15 511) rfl rfl (any_of HT_.out (by kernel_rfl)) (fun _ _ _ h => h) (Or.inr ⟨by rfl, rfl⟩) ?_ ?_
            rotate_left
            ·exact nrm_
            refine pure_ (i := 9) (N := some 48) (v := undef) (a' := ?_) (bA 15 1023) rfl rfl (any_of HT_.out (by kernel_rfl)) (fun _ _ _ h => h) (Or.inr ⟨by rfl, rfl⟩) ?_ ?_
            rotate_left
            ·exact nrm_
            refine pure_ (i := 10) (N := some 49) (v := undef) (a' := ?_) (bA 15 2047) rfl rfl (any_of HT_.out (by kernel_rfl)) (fun _ _ _ h => h) (Or.inr ⟨by rfl, rfl⟩) ?_ ?_
            rotate_left
            ·exact nrm_
            refine pure_ (i := 11) (N := some 50) (v := undef) (a' := ?_) (bA 15 4095) rfl rfl (any_of HT_.out (by kernel_rfl)) (fun _ _ _ h => h) (Or.inr ⟨by rfl, rfl⟩) ?_ ?_
            rotate_left
            ·exact nrm_
            refine pure_ (i := 12) (N := some 51) (v := undef) (a' := ?_) (bA 15 8191) rfl rfl (any_of HT_.out (by kernel_rfl)) (fun _ _ _ h => h) (Or.inr ⟨by rfl, rfl⟩) ?_ ?_
            rotate_left
            ·exact nrm_
            refine pure_ (i := 13) (N := some 52) (v := undef) (a' := ?_) (bA 15 16383) rfl rfl (any_of HT_.out (by kernel_rfl)) (fun _ _ _ h => h) (Or.inr ⟨by rfl, rfl⟩) ?_ ?_
            rotate_left
            ·exact nrm_
            refine pq_ (i := 14) (n := 53) (bA 15 32767) (any_of HT_.out (by kernel_rfl)) ?_
            refine done_ (done_of HT_.out (by kernel_rfl)) ?_
            try go_wp2
            have n0_ := Aside0.mk (Kd.R_drew HO_8.out)
            have n1_ := Aside0.mk (Kd.R_drew HO_9.out)
            have n2_ := Aside0.mk (below_drew1 HB.out)
            clear HO_8
            clear HO_9
            clear HB
            have HO_8 := n0_
            have HO_9 := n1_
            have HB := n2_
            clear n0_ n1_ n2_
            have p244 : 0 ≤ (x10_1 : Int) := of_decide_eq_true asa_
            have q244 : x10_1 < (t229.length : Int) := of_decide_eq_true asa_
            obtain ⟨ad244, e244, hx244_0⟩ := Kd.at_int (Kd.R_reads' HO_8.out).2.2 x10_1 p244 q244
            obtain rfl : ad232 = ad244 := (by injection e244)
            replace p244 := eq_true p244
            replace q244 := eq_true q244
            have p245 : 0 ≤ ((ji37) : Int) := of_decide_eq_true asa_
            have q245 : (ji37) < (t229.length : Int) := of_decide_eq_true asa_
            obtain ⟨ad245, e245, hx245_0⟩ := Kd.at_int (Kd.R_reads' HO_8.out).2.2 (ji37) p245 q245
            obtain rfl : ad232 = ad245 := (by injection e245)
            replace p245 := eq_true p245
            replace q245 := eq_true q245
            refine start_ (n := 15) (S := fun w' => w'.cell? (ad232.add (x10_1).toNat) = some (.int .i64 (rd t229 x10_1)) ∧ w'.cell? (ad232.add ((ji37)).toNat) = some (.int .i64 (rd t229 (ji37)))) (ds := [12, 13]) #[false, false, false, false, false, false, false, false, false, false, false, false, false, false, false] (by kernel_rfl) rfl rfl ⟨hx244_0, hx245_0⟩ (fun hHeld => ?_); refine with_tabW spoolref05_Set.tab13 spoolref05_Set.bits13 (fun HT_ HW_ => ?_)
            generalize w42.drew = w43 at HO_8 HO_9 HB hx244_0 hx245_0 hHeld ⊢
            refine pq_ (i := 0) (n := 69) (bA 15 1) (any_of HT_.out (by kernel_rfl)) ?_
            refine pq_ (i := 1) (n := 70) (bA 15 3) (any_of HT_.out (by kernel_rfl)) ?_
            refine pq_ (i := 2) (n := 71) (bA 15 7) (any_of HT_.out (by kernel_rfl)) ?_
            refine pq_ (i := 3) (n := 72) (bA 15 15) (any_of HT_.out (by kernel_rfl)) ?_
            refine pq_ (i := 5) (n := 74) (bA 15 47) (any_of HT_.out (by kernel_rfl)) ?_
            refine pq_ (i := 6) (n := 75) (bA 15 111) (any_of HT_.out (by kernel_rfl)) ?_
            refine pq_ (i := 7) (n := 76) (bA 15 239) (any_of HT_.out (by kernel_rfl)) ?_
            refine pq_ (i := 8) (n := 77) (bA 15 495) (any_of HT_.out (by kernel_rfl)) ?_
            refine take_ (i := 4) (N := some 73) (v := ?_) (a' := ?_) (bA 15 511) rfl rfl (take_ofW HT_.out HW_.out (by kernel_rfl)) (fun _ _ _ h => h) (Or.inl ⟨by rfl, ?_⟩) hHeld ?_ ?_
            rotate_left
            ·rintro w' ⟨s0, s1⟩
             go_simp
             with_reducible rfl
            rotate_left
            ·exact nrm_
            refine take_ (i := 9) (N := some 78) (v := ?_) (a' := ?_) (bA 15 1023) rfl rfl (take_ofW HT_.out HW_.out (by kernel_rfl)) (fun _ _ _ h => h) (Or.inl ⟨by rfl, ?_⟩) hHeld ?_ ?_
            rotate_left
            ·rintro w' ⟨s0, s1⟩
             go_simp
             with_reducible rfl
            rotate_left
            ·exact nrm_
            refine pq_ (i := 10) (n := 79) (bA 15 2047) (any_of HT_.out (by kernel_rfl)) ?_
            refine pq_ (i := 11) (n := 80) (bA 15 4095) (any_of HT_.out (by kernel_rfl)) ?_
            refine last_ (i := 12) (N := some 81) #[true, true, true, true, true, true, true, true, true, true, true, true, true, false, false] rfl rfl (one_of HT_.out (by kernel_rfl)) (by decide) (fun K hK => ?_)
            refine value_ (w1 := ?_) (v := ?_) (by rfl) rfl ?_ ?_
            rotate_left 2
            ·go_simp
             constructor
             ·rfl
             ·rfl
            refine hK.out _ _ ?_
            clear hK K
            refine nm_ (n := 81) ?_
            refine last_ (i := 13) (N := some 82) #[true, true, true, true, true, true, true, true, true, true, true, true, true, true, false] rfl rfl (one_of HT_.out (by kernel_rfl)) (by decide) (fun K hK => ?_)
            refine Kd.R_append_step k60 (w0 := w) w.heap.size (by rfl) (.tmp 69) (.tmp 81) 44 60 (.agg #[(.int .i64 0), (.int .i64 0)]) 16 rfl Tryd.underlying44 info60 rfl (by decide) (by omega) (.slice Ao41 x9_1.length co41) x9_1 (⟨rd t229 x10_1, wrap64 ((rd t229 (ji37)) - 1)⟩ : S60) [.int .i64 (rd t229 x10_1), .int .i64 (wrap64 ((rd t229 (ji37)) - 1))] (fun _ => True) (fun _ => False) rfl rfl ?aP (fun _ hk => hk.elim) ?aF ?aO ?aB ?aS ?aL ?_
            (case aP => exact k60_mkM _ _ _ (⟨rd t229 x10_1, wrap64 ((rd t229 (ji37)) - 1)⟩ : S60))
            (case aB => exact (blw_ HB.out))
            (case aF => exact (fun _ _ => trivial))
            (case aO => exact (by (with_reducible repeat (first | apply Kd.R_alloc | apply Kd.R_drewN | apply Kd.R_drew)); exact HO_9.out))
            (case aS => exact (below_size (blw_ HB.out)))
            (case aL => have := LMc39.out; omega)
            intro v247 w44 ho hb hg hat
            rw [← Ny246.out] at ho
            have n0_ := Aside0.mk (Kd.R_over' (by (with_reducible repeat (first | apply Kd.R_alloc | apply Kd.R_drewN | apply Kd.R_drew)); exact HO_8.out) (Kd.R_typed (by (with_reducible repeat (first | apply Kd.R_alloc | apply Kd.R_drewN | apply Kd.R_drew)); exact HO_9.out)) (by decide) hg)
            have n1_ := Aside0.mk (hb)
            have n2_ := Aside0.mk (ho)
            clear HO_8
            clear HB
            clear HO_9
            have HO_8 := n0_
            have HB := n1_
            have HO248 := n2_
            clear n0_ n1_ n2_
            clear ho hb hg hat
            refine hK.out _ _ ?_
            clear hK K
            refine nm_ (n := 82) ?_
            refine pq_ (i := 14) (n := 9) (bA 15 32767) (any_of HT_.out (by kernel_rfl)) ?_
            refine done_ (done_of HT_.out (by kernel_rfl)) ?_
            try go_wp2
            go_roundg k1
            case measure => have := HK1.out; omega
            case rel => exact ⟨(y246), (ji37), (by first | rfl | (simp; done) | (simp only [← hji37] <;> (first | rfl | simp)) | (simp [*]; done)), H', ⟨by have := HK1.out; omega⟩, ⟨by (with_reducible repeat (first | apply Kd.R_alloc | apply Kd.R_drewN | apply Kd.R_drew)); exact HO_8.out⟩, ⟨by (with_reducible repeat (first | apply Kd.R_alloc | apply Kd.R_drewN | apply Kd.R_drew)); exact HO248.out⟩, ⟨blw_ HB.out⟩⟩
           ·rw [if_neg c39] at H
            exact absurd H (by simp)
          ·rw [if_neg c38] at H
           exact absurd H (by simp)
        ·replace c15 := Bool.eq_false_iff.mpr c15
         subst c15
         have H1 : (spoolref05_Set.l0 k1 a0 l1 l2 t229 x9_1 (wrap64 (x10_1 + 1))) = some r := by rw [if_neg (show ¬ (false = true) by decide)] at H; exact H
         clear H
         have H := H1
         clear H1
         have H' := Aside0.mk H
         clear H
         obtain ⟨Ao45, co45, eo45⟩ := Kd.R_slice HO_8.out
         subst eo45
         have p232 : 0 ≤ (x10_1 : Int) := of_decide_eq_true asa_
         have q232 : x10_1 < (t229.length : Int) := of_decide_eq_true asa_
         obtain ⟨ad232, e232, hx232_0⟩ := Kd.at_int (Kd.R_reads' HO_8.out).2.2 x10_1 p232 q232
         cases e232
         replace p232 := eq_true p232
         replace q232 := eq_true q232
         go_wp2_with (first | ((with_reducible refine gate_callee (f := 42) rfl ?_); refine goesL_ (some 34) rfl rfl Tryd.func42 (by kernel_rfl) rfl #[.int .i64 a0, .slice A1 l1.length c1, .slice A2 l2.length c2, .int .i64 (rd t229 x10_1)] rfl lma_ ?_; (with_reducible refine (spoolref05_holds.calls k1 a0 _ _ l1 _ _ l2 (rd t229 x10_1) false _ ?side1 ?side2 ?side3 ?side4 A14.out).mono ?_); (case side1 => repeat (first | exact (Kd.C_below HR1.out HB.out) | (with_reducible refine Kd.C_alloc ?_ _) | (with_reducible refine Kd.C_drewN ?_ _) | (with_reducible refine Kd.C_drew ?_))); (case side2 => exact HC1.out); (case side3 => repeat (first | exact (Kd.C_below HR2.out HB.out) | (with_reducible refine Kd.C_alloc ?_ _) | (with_reducible refine Kd.C_drewN ?_ _) | (with_reducible refine Kd.C_drew ?_))); (case side4 => exact HC2.out); rintro e w' ⟨rfl, ⟨nd, rfl⟩⟩; refine ⟨_, rfl, ?_⟩))
         go_roundg k1
         case measure => have := HK1.out; omega
         case rel => exact ⟨(x9_1), (wrap64 (x10_1 + 1)), fib_, H', ⟨by have := HK1.out; omega⟩, ⟨by (with_reducible repeat (first | apply Kd.R_alloc | apply Kd.R_drewN | apply Kd.R_drew)); exact HO_8.out⟩, ⟨by (with_reducible repeat (first | apply Kd.R_alloc | apply Kd.R_drewN | apply Kd.R_drew)); exact HO_9.out⟩, ⟨blw_ HB.out⟩⟩
       ·rw [if_neg c13] at H
        exact absurd H (by simp)
      ·rw [if_neg c12] at H
       exact absurd H (by simp)
     ·rw [if_neg c11] at H
      have c11b0 : decide ((wrap64 (x10_1 + 1)) < (t229.length : Int)) = false := decide_eq_false c11
      clear c11
      obtain rfl := Option.some.inj H
      obtain ⟨Ao46, co46, eo46⟩ := Kd.R_slice HO_8.out
      subst eo46
      go_wp2
      go_ret
      exact ⟨_, fia_, by (with_reducible repeat (first | apply Kd.R_alloc | apply Kd.R_drewN | apply Kd.R_drew)); exact HO_9.out, blw_ HB.out⟩
  ·rw [if_neg c5] at H
   exact absurd H (by simp)
 ·rw [if_neg c4] at H
  exact absurd H (by simp)
end Go.Proofs.YtlihkebmonfefaaDoor.PG

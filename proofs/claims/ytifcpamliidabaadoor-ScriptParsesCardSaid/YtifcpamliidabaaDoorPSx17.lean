-- WRITTEN BY A PROGRAM OF THIS SESSION (patchprint.py over the kit's print)
import Derived.Test.YtifcpamliidabaaDoorPSx0
import Derived.Test.YtifcpamliidabaaDoorPSx3
import Derived.Test.YtifcpamliidabaaDoorPSx12
import Derived.Test.YtifcpamliidabaaDoorPSx16
namespace Go.Proofs.YtifcpamliidabaaDoor.PS
open Go.RowKit Go.Proofs.YtifcpamliidabaaDoorW.PrintWords Go.Proofs.YtifcpamliidabaaDoorW.PrintLast Go.Proofs.YtifcpamliidabaaDoorW.PrintMore
attribute [local go_sem] max2_int min2_int max_two min_two max_three min_three max_four min_four   -- for this text's walks alone
set_option linter.unusedVariables false
set_option linter.unusedSimpArgs false

attribute [local go_sem high] eqA51
/-! ### spoolref48_Parse: function 10 -/
mutual
def spoolref48_Parse.l0 : Nat → ByteArray → List (S51) → Int → Option ((List (S51)) × Int × Int)
 | 0, _, _, _ => none
 | k + 1, x0, x4, x5 => if x5 ≤ (x0.size : Int) then (spoolref48_Parse.l1 k x0 x4 x5 x5) else (some (x4, 0, 0))
def spoolref48_Parse.j2 : Nat → ByteArray → List (S51) → Int → Int → Option ((List (S51)) × Int × Int)
 | 0, _, _, _, _ => none
 | k + 1, x0, x4, x5, x6 => if 0 ≤ x5 then (if x5 ≤ x6 then (if x6 ≤ (x0.size : Int) then ((spoolref48_Next.f k (x0.extract (x5 : Int).toNat (x6 : Int).toNat) 0).bind fun bt294 => (if bt294.1 < bt294.2 then ((spoolref48_Line.f k (x0.extract (x5 : Int).toNat (x6 : Int).toNat)).bind fun bt296 => (if bt296.2.2.2.2.2.1 = 0 then (if x4.length < 2932031007402 then (spoolref48_Parse.l0 k x0 (x4 ++ [(⟨bt296.1, bt296.2.1, (⟨bt296.2.2.1, bt296.2.2.2.1, bt296.2.2.2.2.1⟩ : S42)⟩ : S51)]) (wrap64 (x6 + 1))) else (none)) else (some (([] : List (S51)), bt296.2.2.2.2.2.1, wrap64 (x5 + bt296.2.2.2.2.2.2))))) else (spoolref48_Parse.l0 k x0 x4 (wrap64 (x6 + 1))))) else (none)) else (none)) else (none)
def spoolref48_Parse.l1 : Nat → ByteArray → List (S51) → Int → Int → Option ((List (S51)) × Int × Int)
 | 0, _, _, _, _ => none
 | k + 1, x0, x4, x5, x6 => if x6 < (x0.size : Int) then (if 0 ≤ x6 then (if (bt x0 x6) = 10 then (spoolref48_Parse.j2 k x0 x4 x5 x6) else (spoolref48_Parse.l1 k x0 x4 x5 (wrap64 (x6 + 1)))) else (none)) else (spoolref48_Parse.j2 k x0 x4 x5 x6)
end
def spoolref48_Parse.f (k : Nat) (a0 : ByteArray) : Option ((List (S51)) × Int × Int) := spoolref48_Parse.l0 k a0 ([] : List (S51)) 0
theorem spoolref48_Parse.mono_l : ∀ k, (∀ y0 y1 y2, LeO (spoolref48_Parse.l0 k y0 y1 y2) (spoolref48_Parse.l0 (k + 1) y0 y1 y2)) ∧ (∀ y0 y1 y2 y3, LeO (spoolref48_Parse.j2 k y0 y1 y2 y3) (spoolref48_Parse.j2 (k + 1) y0 y1 y2 y3)) ∧ (∀ y0 y1 y2 y3, LeO (spoolref48_Parse.l1 k y0 y1 y2 y3) (spoolref48_Parse.l1 (k + 1) y0 y1 y2 y3))
 | 0 => ⟨fun _ _ _ r h => by simp [spoolref48_Parse.l0] at h, fun _ _ _ _ r h => by simp [spoolref48_Parse.j2] at h, fun _ _ _ _ r h => by simp [spoolref48_Parse.l1] at h⟩
 | k + 1 => by
  obtain ⟨ih0, ih1, ih2⟩ := spoolref48_Parse.mono_l k
  refine ⟨?_, ?_, ?_⟩
  ·intro y0 y1 y2
   unfold spoolref48_Parse.l0
   repeat' first
   | (with_reducible exact ih0 _ _ _)
   | (with_reducible exact ih1 _ _ _ _)
   | (with_reducible exact ih2 _ _ _ _)
   | (with_reducible exact spoolref48_Line.mono _ _)
   | (with_reducible exact spoolref48_Next.mono _ _ _)
   | (with_reducible exact LeO.refl _)
   | (with_reducible exact LeO.none _)
   | (with_reducible refine LeO.ite ?_ ?_)
   | (with_reducible refine LeO.bind ?_ (fun _ => ?_))
   | exact ih0 _ _ _
   | exact ih1 _ _ _ _
   | exact ih2 _ _ _ _
   | exact spoolref48_Line.mono _ _
   | exact spoolref48_Next.mono _ _ _
   | exact LeO.none _
   | refine LeO.ite ?_ ?_
   | refine LeO.bind ?_ (fun _ => ?_)
  ·intro y0 y1 y2 y3
   unfold spoolref48_Parse.j2
   repeat' first
   | (with_reducible exact ih0 _ _ _)
   | (with_reducible exact ih1 _ _ _ _)
   | (with_reducible exact ih2 _ _ _ _)
   | (with_reducible exact spoolref48_Line.mono _ _)
   | (with_reducible exact spoolref48_Next.mono _ _ _)
   | (with_reducible exact LeO.refl _)
   | (with_reducible exact LeO.none _)
   | (with_reducible refine LeO.ite ?_ ?_)
   | (with_reducible refine LeO.bind ?_ (fun _ => ?_))
   | exact ih0 _ _ _
   | exact ih1 _ _ _ _
   | exact ih2 _ _ _ _
   | exact spoolref48_Line.mono _ _
   | exact spoolref48_Next.mono _ _ _
   | exact LeO.none _
   | refine LeO.ite ?_ ?_
   | refine LeO.bind ?_ (fun _ => ?_)
  ·intro y0 y1 y2 y3
   unfold spoolref48_Parse.l1
   repeat' first
   | (with_reducible exact ih0 _ _ _)
   | (with_reducible exact ih1 _ _ _ _)
   | (with_reducible exact ih2 _ _ _ _)
   | (with_reducible exact spoolref48_Line.mono _ _)
   | (with_reducible exact spoolref48_Next.mono _ _ _)
   | (with_reducible exact LeO.refl _)
   | (with_reducible exact LeO.none _)
   | (with_reducible refine LeO.ite ?_ ?_)
   | (with_reducible refine LeO.bind ?_ (fun _ => ?_))
   | exact ih0 _ _ _
   | exact ih1 _ _ _ _
   | exact ih2 _ _ _ _
   | exact spoolref48_Line.mono _ _
   | exact spoolref48_Next.mono _ _ _
   | exact LeO.none _
   | refine LeO.ite ?_ ?_
   | refine LeO.bind ?_ (fun _ => ?_)
theorem spoolref48_Parse.mono : ∀ a0 k, LeO (spoolref48_Parse.f k a0) (spoolref48_Parse.f (k + 1) a0) := by
 intro a0 k
 obtain ⟨ih0, ih1, ih2⟩ := spoolref48_Parse.mono_l k
 unfold spoolref48_Parse.f
 repeat' first
   | (with_reducible exact ih0 _ _ _)
   | (with_reducible exact ih1 _ _ _ _)
   | (with_reducible exact ih2 _ _ _ _)
   | (with_reducible exact spoolref48_Line.mono _ _)
   | (with_reducible exact spoolref48_Next.mono _ _ _)
   | (with_reducible exact LeO.refl _)
   | (with_reducible exact LeO.none _)
   | (with_reducible refine LeO.ite ?_ ?_)
   | (with_reducible refine LeO.bind ?_ (fun _ => ?_))
   | exact ih0 _ _ _
   | exact ih1 _ _ _ _
   | exact ih2 _ _ _ _
   | exact spoolref48_Line.mono _ _
   | exact spoolref48_Next.mono _ _ _
   | exact LeO.none _
   | refine LeO.ite ?_ ?_
   | refine LeO.bind ?_ (fun _ => ?_)
def spoolref48_Parse.T11 : Bool × List (List Nat × List Nat) := (true, [([], []), ([0], [0]), ([], []), ([], []), ([3], [3]), ([2, 4], [2, 4]), ([1, 5], [1, 5]), ([], []), ([6, 7, 0, 1, 2, 3, 4, 5, 6, 7], [6])])
def spoolref48_Parse.B11 : List Nat := [0, 1, 0, 0, 8, 28, 63, 0, 255]
theorem spoolref48_Parse.tab11 : rtab .any (opsOf Tryd.f10 11) = spoolref48_Parse.T11 := by kernel_rfl
theorem spoolref48_Parse.bits11 : waitsOk spoolref48_Parse.T11.2 spoolref48_Parse.B11 = true := by kernel_rfl
set_option maxHeartbeats 8000000 in
set_option maxRecDepth 100000 in
theorem spoolref48_Parse.calls (k : Nat) (a0 : ByteArray) (r1 : List (S51)) (r2 : Int) (r3 : Int) (w : World) (h : spoolref48_Parse.f k a0 = some (r1, r2, r3)) :
  Calls Tryd.prog 10 #[.string a0] w fun e w' => ∃ v0_ : Value, e = .returned (.tuple #[v0_, .agg #[.int .i64 r2, .int .i64 r3]]) ∧ Kd.R k51 51 w' w.heap.size (fun _ => True) v0_ r1 ∧ Below w.heap.size w w' := by
 have hu26 := Tryd.underlying26
 have hu51 := Tryd.underlying51
 have HB := Aside0.mk (Below.refl w.heap.size w)
 have H : (spoolref48_Parse.l0 k a0 ([] : List (S51)) 0) = some (r1, r2, r3) := h
 clear h
 have H' := Aside0.mk H
 clear H
 go_enter Tryd.func10, Tryd.ntmps10
 go_wp2_with (first | ((with_reducible refine gate_dst (N := 3) rfl ?_); refine box_event ?hg (N := 3) ?hd (cs := #[.int .i64 0, .int .i64 0]) (t := 26) ?hr ?_; (case hd => rfl); (case hg => rfl); (case hr => first | (go_simp; done) | (go_simp; rfl)); intro gb293 hg w2 hbox hb; have n0_ := Aside0.mk (below_step (blw_ HB.out) hb); have n1_ := Aside0.mk (hbox); have n2_ := Aside0.mk ((by rw [hg]; exact (below_size (blw_ HB.out)) : w.heap.size ≤ gb293)); have n3_ := Aside0.mk ((by rw [hg]; exact (below_size (blw_ HB.out)) : w.heap.size ≤ gb293)); clear HB; have HB := n0_; have BK293 := n1_; have GW293 := n2_; have GE293 := n3_; clear n0_ n1_ n2_ n3_; clear hb hbox hg))
 go_loopg [4, 5] k (fun kq v4 v5 w' => ∃ (x4_1 : List (S51)) (x5_1 : Int) (x294000_1 : Int) (x294001_1 : Int), v5 = .int .i64 x5_1 ∧ Aside0 (spoolref48_Parse.l0 kq a0 x4_1 x5_1 = some (r1, r2, r3)) ∧ Aside0 (kq ≤ k) ∧ Aside0 (Kd.R k51 51 w' w.heap.size (fun _ => True) v4 x4_1) ∧ Aside0 (w'.heap[gb293]? = some (.cells #[.int .i64 x294000_1, .int .i64 x294001_1] 26 (0, 0))) ∧ Aside0 (Below w.heap.size w w'))
 case atStart => exact ⟨(([] : List (S51))), (0), (0), (0), fib_, H', ⟨Nat.le_refl _⟩, ⟨by first | exact Kd.R_nil _ _ _ _ _ | exact Kd.N_nil _ _ _ _ _ | exact Kd.V_nil _ _ _ _ _ | exact Kd.Q_nil _ _ _ _ _ | exact Kd.S_nil _ _ _ _ _⟩, ⟨by exact bkw_ BK293.out⟩, ⟨blg_ HB.out GE293.out⟩⟩
 case round =>
  clear H'
  try clear c1
  try clear p2
  obtain ⟨x4_1, x5_1, x294000_1, x294001_1, rfl, HA, HK1, HO_4, BK293, HB⟩ := hrel
  cases gk with
  | zero => exact absurd HA.out (by simp [spoolref48_Parse.l0])
  | succ k1 =>
   have H := HA.out
   clear HA
   simp only [spoolref48_Parse.l0] at H
   by_cases c3 : x5_1 ≤ (a0.size : Int)
   ·rw [if_pos c3] at H
    have c3b0 : decide (x5_1 ≤ (a0.size : Int)) = true := decide_eq_true c3
    clear c3
    have HC4 := Aside0.mk H
    clear H
    go_upto_block 2 with (fail)
    go_cut [6] (fun v6 wc => ∃ (kq : Nat) (x6_3 : Int), v6 = .int .i64 x6_3 ∧ Aside0 (spoolref48_Parse.j2 kq a0 x4_1 x5_1 x6_3 = some (r1, r2, r3)) ∧ Aside0 (kq ≤ k1) ∧ Aside0 (Kd.R k51 51 wc w.heap.size (fun _ => True) u4 x4_1) ∧ Aside0 (wc.heap[gb293]? = some (.cells #[.int .i64 x294000_1, .int .i64 x294001_1] 26 (0, 0))) ∧ Aside0 (Below w.heap.size w wc))
    case first =>
     have H := HC4.out
     clear HC4
     have H' := Aside0.mk H
     clear H
     go_wp2
     go_loopg [6] k1 (fun kq v6 w' => ∃ (x6_2 : Int), v6 = .int .i64 x6_2 ∧ Aside0 (spoolref48_Parse.l1 kq a0 x4_1 x5_1 x6_2 = some (r1, r2, r3)) ∧ Aside0 (kq ≤ k1) ∧ Aside0 (Kd.R k51 51 w' w.heap.size (fun _ => True) u4 x4_1) ∧ Aside0 (w'.heap[gb293]? = some (.cells #[.int .i64 x294000_1, .int .i64 x294001_1] 26 (0, 0))) ∧ Aside0 (Below w.heap.size w w'))
     case atStart => exact ⟨(x5_1), fib_, H', ⟨Nat.le_refl _⟩, ⟨by (with_reducible repeat (first | apply Kd.R_alloc | apply Kd.R_drewN | apply Kd.R_drew)); exact HO_4.out⟩, ⟨by exact bkw_ BK293.out⟩, ⟨blg_ HB.out GE293.out⟩⟩
     case round =>
      clear H'
      try clear c1
      try clear p2
      try clear c3
      try clear c3b0
      try clear p2
      obtain ⟨x6_2, rfl, HA, HK2, HO_4, BK293, HB⟩ := hrel
      cases gk with
      | zero => exact absurd HA.out (by simp [spoolref48_Parse.l1])
      | succ k2 =>
       have H := HA.out
       clear HA
       simp only [spoolref48_Parse.l1] at H
       by_cases c5 : x6_2 < (a0.size : Int)
       ·rw [if_pos c5] at H
        have c5b0 : decide (x6_2 < (a0.size : Int)) = true := decide_eq_true c5
        clear c5
        (first | rw [c5b0] | (simp only [i64_w, i32_w]; rw [c5b0]) | skip)
        by_cases c6 : 0 ≤ x6_2
        ·rw [if_pos c6] at H
         have c6b0 : decide (0 ≤ x6_2) = true := decide_eq_true c6
         clear c6
         by_cases c8 : (bt a0 x6_2) = 10
         ·rw [if_pos c8] at H
          have c8b0 : ((bt a0 x6_2) == 10) = true := beq_iff_eq.mpr c8
          have c8b1 : ((bt a0 x6_2) != 10) = false := bne_eq_false_iff_eq.mpr c8
          clear c8
          have H' := Aside0.mk H
          clear H
          have p7 : 0 ≤ (x6_2 : Int) := of_decide_eq_true asa_
          have q7 : x6_2 < (a0.size : Int) := of_decide_eq_true asa_
          have hx7 := bt_at a0 x6_2
          replace p7 := eq_true p7
          replace q7 := eq_true q7
          go_wp2
          go_meet
          case rel => exact ⟨_, (x6_2), fib_, H', ⟨by have := HK1.out; have := HK2.out; first | omega | exact Nat.le_refl _⟩, ⟨by (with_reducible repeat (first | apply Kd.R_alloc | apply Kd.R_drewN | apply Kd.R_drew)); exact HO_4.out⟩, ⟨by exact bkw_ BK293.out⟩, ⟨blg_ HB.out GE293.out⟩⟩
         ·rw [if_neg c8] at H
          have c8b0 : ((bt a0 x6_2) == 10) = false := beq_eq_false_iff_ne.mpr c8
          have c8b1 : ((bt a0 x6_2) != 10) = true := bne_iff_ne.mpr c8
          have H' := Aside0.mk H
          clear H
          have p7 : 0 ≤ (x6_2 : Int) := of_decide_eq_true asa_
          have q7 : x6_2 < (a0.size : Int) := of_decide_eq_true asa_
          have hx7 := bt_at a0 x6_2
          replace p7 := eq_true p7
          replace q7 := eq_true q7
          go_wp2
          go_roundg k2
          case measure => have := HK1.out; have := HK2.out; omega
          case rel => exact ⟨(wrap64 (x6_2 + 1)), fib_, H', ⟨by have := HK1.out; have := HK2.out; omega⟩, ⟨by (with_reducible repeat (first | apply Kd.R_alloc | apply Kd.R_drewN | apply Kd.R_drew)); exact HO_4.out⟩, ⟨by exact bkw_ BK293.out⟩, ⟨blg_ HB.out GE293.out⟩⟩
        ·rw [if_neg c6] at H
         exact absurd H (by simp)
       ·rw [if_neg c5] at H
        have c5b0 : decide (x6_2 < (a0.size : Int)) = false := decide_eq_false c5
        clear c5
        (first | rw [c5b0] | (simp only [i64_w, i32_w]; rw [c5b0]) | skip)
        have H' := Aside0.mk H
        clear H
        go_wp2
        go_meet
        case rel => exact ⟨_, (x6_2), fib_, H', ⟨by have := HK1.out; have := HK2.out; first | omega | exact Nat.le_refl _⟩, ⟨by (with_reducible repeat (first | apply Kd.R_alloc | apply Kd.R_drewN | apply Kd.R_drew)); exact HO_4.out⟩, ⟨by exact bkw_ BK293.out⟩, ⟨blg_ HB.out GE293.out⟩⟩
    case rest =>
     clear HC4
     try clear c1
     try clear p2
     try clear c3
     try clear c3b0
     try clear c5
     try clear c5b0
     try clear c6
     try clear c6b0
     try clear p6
     try clear p7
     try clear q7
     try clear hx7
     try clear c8
     try clear c8b0
     try clear c8b1
     try clear p2
     try clear p7
     try clear q7
     obtain ⟨kq, x6_3, rfl, HA, HJ3, HO_4, BK293, HB⟩ := hcut
     cases kq with
     | zero => exact absurd HA.out (by simp [spoolref48_Parse.j2])
     | succ kj3 =>
      have H := HA.out
      clear HA
      simp only [spoolref48_Parse.j2] at H
      by_cases c9 : 0 ≤ x5_1
      ·rw [if_pos c9] at H
       have c9b0 := eq_true c9
       have c9b1 : decide (0 ≤ x5_1) = true := decide_eq_true c9
       clear c9
       by_cases c10 : x5_1 ≤ x6_3
       ·rw [if_pos c10] at H
        have c10b0 := eq_true c10
        have c10b1 : decide (x5_1 ≤ x6_3) = true := decide_eq_true c10
        clear c10
        by_cases c11 : x6_3 ≤ (a0.size : Int)
        ·rw [if_pos c11] at H
         have c11b0 := eq_true c11
         have c11b1 : decide (x6_3 ≤ (a0.size : Int)) = true := decide_eq_true c11
         clear c11
         replace H := Option.bind_eq_some_iff.mp H
         obtain ⟨⟨t294, t295⟩, A120, H⟩ := H
         replace H : (if t294 < t295 then ((spoolref48_Line.f kj3 (a0.extract (x5_1 : Int).toNat (x6_3 : Int).toNat)).bind fun bt296 => (if bt296.2.2.2.2.2.1 = 0 then (if x4_1.length < 2932031007402 then (spoolref48_Parse.l0 kj3 a0 (x4_1 ++ [(⟨bt296.1, bt296.2.1, (⟨bt296.2.2.1, bt296.2.2.2.1, bt296.2.2.2.2.1⟩ : S42)⟩ : S51)]) (wrap64 (x6_3 + 1))) else (none)) else (some (([] : List (S51)), bt296.2.2.2.2.2.1, wrap64 (x5_1 + bt296.2.2.2.2.2.2))))) else (spoolref48_Parse.l0 kj3 a0 x4_1 (wrap64 (x6_3 + 1)))) = some (r1, r2, r3) := H
         have A12 := Aside0.mk A120
         clear A120
         by_cases c13 : t294 < t295
         ·rw [if_pos c13] at H
          have c13b0 : decide (t294 < t295) = true := decide_eq_true c13
          clear c13
          have c14b0 := eq_true (of_decide_eq_true asa_ : 0 ≤ x5_1)
          have c15b0 := eq_true (of_decide_eq_true asa_ : x5_1 ≤ x6_3)
          have c16b0 := eq_true (of_decide_eq_true asa_ : x6_3 ≤ (a0.size : Int))
          replace H := Option.bind_eq_some_iff.mp H
          obtain ⟨⟨t296, t297, t298, t299, t300, t301, t302⟩, A170, H⟩ := H
          replace H : (if t301 = 0 then (if x4_1.length < 2932031007402 then (spoolref48_Parse.l0 kj3 a0 (x4_1 ++ [(⟨t296, t297, (⟨t298, t299, t300⟩ : S42)⟩ : S51)]) (wrap64 (x6_3 + 1))) else (none)) else (some (([] : List (S51)), t301, wrap64 (x5_1 + t302)))) = some (r1, r2, r3) := H
          have A17 := Aside0.mk A170
          clear A170
          by_cases c18 : t301 = 0
          ·rw [if_pos c18] at H
           have c18b0 : (t301 == 0) = true := beq_iff_eq.mpr c18
           have c18b1 : (t301 != 0) = false := bne_eq_false_iff_eq.mpr c18
           clear c18
           by_cases c19 : x4_1.length < 2932031007402
           ·rw [if_pos c19] at H
            have LMc19 := Aside0.mk c19
            clear c19
            obtain ⟨y305, hy305⟩ : ∃ y_ : List (S51), y_ = (x4_1 ++ [(⟨t296, t297, (⟨t298, t299, t300⟩ : S42)⟩ : S51)]) := ⟨_, rfl⟩
            replace H : (spoolref48_Parse.l0 kj3 a0 y305 (wrap64 (x6_3 + 1))) = some (r1, r2, r3) := by first | (rw [hy305]; with_reducible exact H) | (have H2_ := (Option.bind_some _ _).symm.trans H; rw [hy305]; with_reducible exact H2_) | (have H2_ := (Option.bind_some _ _).symm.trans H; with_reducible exact H2_) | with_reducible exact H | (rw [hy305]; exact H) | exact H
            have Ny305 := Aside0.mk hy305
            clear hy305
            have H' := Aside0.mk H
            clear H
            go_wp2_with (first | ((with_reducible refine gate_callee (f := 30) rfl ?_); refine goesL_ (some 33) rfl rfl Tryd.func30 (by kernel_rfl) rfl #[.string (a0.extract (x5_1 : Int).toNat (x6_3 : Int).toNat), .int .i64 0] rfl lma_ ?_; (with_reducible refine (spoolref48_Next.calls kj3 (a0.extract (x5_1 : Int).toNat (x6_3 : Int).toNat) 0 t294 t295 _ A12.out).mono ?_); rintro e w' ⟨rfl, ⟨nd, rfl⟩⟩; refine ⟨_, rfl, ?_⟩; (try (rw [drewN_self wc]; generalize hq_ : World.drewN wc _ = wc; have n0_ : Aside0 (Kd.R k51 51 wc w.heap.size (fun _ => True) u4 x4_1) := ⟨by rw [← hq_]; exact (by (with_reducible repeat (first | apply Kd.R_alloc | apply Kd.R_drewN | apply Kd.R_drew)); exact HO_4.out)⟩; have n1_ : Aside0 (wc.heap[gb293]? = some (.cells #[.int .i64 x294000_1, .int .i64 x294001_1] 26 (0, 0))) := ⟨by rw [← hq_]; exact (by exact bkw_ BK293.out)⟩; have n2_ : Aside0 (Below w.heap.size w wc) := ⟨by rw [← hq_]; exact (blg_ HB.out GE293.out)⟩; clear HO_4 BK293 HB hq_; have HO_4 := n0_; have BK293 := n1_; have HB := n2_; clear n0_ n1_ n2_))) | ((with_reducible refine gate_callee (f := 31) rfl ?_); refine goesL_ (some 44) rfl rfl Tryd.func31 (by kernel_rfl) rfl #[.string (a0.extract (x5_1 : Int).toNat (x6_3 : Int).toNat)] rfl lma_ ?_; (with_reducible refine (spoolref48_Line.calls kj3 (a0.extract (x5_1 : Int).toNat (x6_3 : Int).toNat) t296 t297 t298 t299 t300 t301 t302 _ A17.out).mono ?_); rintro e w20 ⟨rfl, hb⟩; refine ⟨_, rfl, ?_⟩; have n0_ := Aside0.mk (Kd.R_below (by (with_reducible repeat (first | apply Kd.R_alloc | apply Kd.R_drewN | apply Kd.R_drew)); exact HO_4.out) hb); have n1_ := Aside0.mk (blk_below (g := gb293) (o := .cells #[.int .i64 x294000_1, .int .i64 x294001_1] 26 (0, 0)) (by exact bkw_ BK293.out) hb); have n2_ := Aside0.mk (below_step (blg_ HB.out GE293.out) hb); clear HO_4; clear BK293; clear HB; have HO_4 := n0_; have BK293 := n1_; have HB := n2_; clear n0_ n1_ n2_; (try clear hb); (try clear hb2); (try clear hk); (try clear hi)) | ((with_reducible refine gate_dst (N := 9) rfl ?_); refine box_event ?hg (N := 9) ?hd (cs := #[.int .i64 0, .int .i64 0, .int .i64 0, .int .i64 0, .string (⟨#[]⟩ : ByteArray)]) (t := 51) ?hr ?_; (case hd => rfl); (case hg => rfl); (case hr => first | (go_simp; done) | (go_simp; rfl)); intro gb303 hg w21 hbox hb; have n0_ := Aside0.mk (Kd.R_below (Kd.R_elderB (by (with_reducible repeat (first | apply Kd.R_alloc | apply Kd.R_drewN | apply Kd.R_drew)); exact HO_4.out) gb303 (Nat.le_of_eq hg.symm)) hb); have n1_ := Aside0.mk (blk_below (g := gb293) (o := .cells #[.int .i64 x294000_1, .int .i64 x294001_1] 26 (0, 0)) (by exact bkw_ BK293.out) hb); have n2_ := Aside0.mk (below_step (blg_ HB.out GE293.out) hb); have n3_ := Aside0.mk (hbox); have n4_ := Aside0.mk ((by rw [hg]; exact (below_size (blg_ HB.out GE293.out)) : w.heap.size ≤ gb303)); have n5_ := Aside0.mk ((by rw [hg]; exact (below_size (blg_ HB.out GE293.out)) : w.heap.size ≤ gb303)); have n6_ := Aside0.mk ((by rw [hg]; exact Nat.ne_of_lt (blk_lt (g := gb293) (o := .cells #[.int .i64 x294000_1, .int .i64 x294001_1] 26 (0, 0)) (by exact bkw_ BK293.out)) : gb293 ≠ gb303)); have n7_ := Aside0.mk ((by rw [hg]; exact Nat.ne_of_gt (blk_lt (g := gb293) (o := .cells #[.int .i64 x294000_1, .int .i64 x294001_1] 26 (0, 0)) (by exact bkw_ BK293.out)) : gb303 ≠ gb293)); clear HO_4; clear BK293; clear HB; have HO_4 := n0_; have BK293 := n1_; have HB := n2_; have BK303 := n3_; have GW303 := n4_; have GE303 := n5_; have NB293_303 := n6_; have NB303_293 := n7_; clear n0_ n1_ n2_ n3_ n4_ n5_ n6_ n7_; clear hb hbox hg) | ((with_reducible refine gate_dst (N := 10) rfl ?_); refine box_event ?hg (N := 10) ?hd (cs := #[.int .i64 0, .int .i64 0]) (t := 26) ?hr ?_; (case hd => rfl); (case hg => rfl); (case hr => first | (go_simp; done) | (go_simp; rfl)); intro gb304 hg w22 hbox hb; have n0_ := Aside0.mk (Kd.R_below (by (with_reducible repeat (first | apply Kd.R_alloc | apply Kd.R_drewN | apply Kd.R_drew)); exact HO_4.out) hb); have n1_ := Aside0.mk (blk_below (g := gb293) (o := .cells #[.int .i64 x294000_1, .int .i64 x294001_1] 26 (0, 0)) (by exact bkw_ BK293.out) hb); have n2_ := Aside0.mk (blk_below (g := gb303) (o := .cells #[.int .i64 0, .int .i64 0, .int .i64 0, .int .i64 0, .string (⟨#[]⟩ : ByteArray)] 51 (0, 0)) (by exact bkw_ BK303.out) hb); have n3_ := Aside0.mk (below_step (bla_ HB.out) hb); have n4_ := Aside0.mk (hbox); have n5_ := Aside0.mk ((by rw [hg]; exact (below_size (bla_ HB.out)) : w.heap.size ≤ gb304)); have n6_ := Aside0.mk ((by rw [hg]; exact (below_size (bla_ HB.out)) : w.heap.size ≤ gb304)); have n7_ := Aside0.mk ((by rw [hg]; exact Nat.ne_of_lt (blk_lt (g := gb293) (o := .cells #[.int .i64 x294000_1, .int .i64 x294001_1] 26 (0, 0)) (by exact bkw_ BK293.out)) : gb293 ≠ gb304)); have n8_ := Aside0.mk ((by rw [hg]; exact Nat.ne_of_gt (blk_lt (g := gb293) (o := .cells #[.int .i64 x294000_1, .int .i64 x294001_1] 26 (0, 0)) (by exact bkw_ BK293.out)) : gb304 ≠ gb293)); have n9_ := Aside0.mk ((by rw [hg]; exact Nat.ne_of_lt (blk_lt (g := gb303) (o := .cells #[.int .i64 0, .int .i64 0, .int .i64 0, .int .i64 0, .string (⟨#[]⟩ : ByteArray)] 51 (0, 0)) (by exact bkw_ BK303.out)) : gb303 ≠ gb304)); have n10_ := Aside0.mk ((by rw [hg]; exact Nat.ne_of_gt (blk_lt (g := gb303) (o := .cells #[.int .i64 0, .int .i64 0, .int .i64 0, .int .i64 0, .string (⟨#[]⟩ : ByteArray)] 51 (0, 0)) (by exact bkw_ BK303.out)) : gb304 ≠ gb303)); clear HO_4; clear BK293; clear BK303; clear HB; have HO_4 := n0_; have BK293 := n1_; have BK303 := n2_; have HB := n3_; have BK304 := n4_; have GW304 := n5_; have GE304 := n6_; have NB293_304 := n7_; have NB304_293 := n8_; have NB303_304 := n9_; have NB304_303 := n10_; clear n0_ n1_ n2_ n3_ n4_ n5_ n6_ n7_ n8_ n9_ n10_; clear hb hbox hg; have hnb23 := NB303_293.out; have hnc23 := NB293_303.out; have hnb24 := NB303_304.out; have hnc24 := NB304_303.out; have hcz25_0 : w22.cell? ⟨gb303, 0, none⟩ = some (.int .i64 0) := (blk_cell BK303.out 0).trans rfl; have hcz25_1 : w22.cell? ⟨gb303, 1, none⟩ = some (.int .i64 0) := (blk_cell BK303.out 1).trans rfl; have hcz25_2 : w22.cell? ⟨gb303, 2, none⟩ = some (.int .i64 0) := (blk_cell BK303.out 2).trans rfl; have hcz25_3 : w22.cell? ⟨gb303, 3, none⟩ = some (.int .i64 0) := (blk_cell BK303.out 3).trans rfl; have hcz25_4 : w22.cell? ⟨gb303, 4, none⟩ = some (.string (⟨#[]⟩ : ByteArray)) := (blk_cell BK303.out 4).trans rfl; have hfz25_0 := blk_frozen BK303.out 0; have hfz25_1 := blk_frozen BK303.out 1; have hfz25_2 := blk_frozen BK303.out 2; have hfz25_3 := blk_frozen BK303.out 3; have hfz25_4 := blk_frozen BK303.out 4; have hnb26 := NB304_293.out; have hnc26 := NB293_304.out; have hcz27_0 : w22.cell? ⟨gb304, 0, none⟩ = some (.int .i64 0) := (blk_cell BK304.out 0).trans rfl; have hcz27_1 : w22.cell? ⟨gb304, 1, none⟩ = some (.int .i64 0) := (blk_cell BK304.out 1).trans rfl; have hfz27_0 := blk_frozen BK304.out 0; have hfz27_1 := blk_frozen BK304.out 1) | ((with_reducible refine gate_builtin (b := .append) (xs := #[.tmp 57, .tmp 59]) rfl ?_); at_builtin; refine Kd.R_append k51 (w0 := w) w.heap.size rfl (.tmp 57) (.tmp 59) 23 51 (.agg #[(.int .i64 0), (.int .i64 0), (.int .i64 0), (.int .i64 0), (.string ⟨#[]⟩)]) 48 rfl Tryd.underlying23 info51 rfl (by decide) (by omega) u4 x4_1 (⟨t296, t297, (⟨t298, t299, t300⟩ : S42)⟩ : S51) [.int .i64 t296, .int .i64 t297, .int .i64 t298, .int .i64 t299, .string t300] (fun k_ => k_ ≠ gb303) (fun _ => False) rfl (by first | (go_simp; done) | (go_simp; rfl)) ?aP (fun _ hk => hk.elim) ?aF ?aO ?aB ?aS ?aL ?_; (case aP => exact k51_mkM _ _ _ (⟨t296, t297, (⟨t298, t299, t300⟩ : S42)⟩ : S51)); (case aB => exact (bla_ HB.out)); (case aF => exact (fun k_ hk => Kd.freshB (g := gb303) (o := .cells #[.int .i64 t296, .int .i64 t297, .int .i64 t298, .int .i64 t299, .string t300] 51 (0, 0)) (by (with_reducible repeat (first | refine blk_drewN ?_ _ | refine blk_drew ?_ | refine blk_alloc ?_ _)); refine blk_far ?_ NB303_304.out _; (with_reducible repeat (first | refine blk_drewN ?_ _ | refine blk_drew ?_ | refine blk_alloc ?_ _)); refine blk_far ?_ NB303_304.out _; (with_reducible repeat (first | refine blk_drewN ?_ _ | refine blk_drew ?_ | refine blk_alloc ?_ _)); refine blk_put (cs := #[.int .i64 t296, .int .i64 t297, .int .i64 t298, .int .i64 t299, .string (⟨#[]⟩ : ByteArray)]) ?_ 4 _ rfl; (with_reducible repeat (first | refine blk_drewN ?_ _ | refine blk_drew ?_ | refine blk_alloc ?_ _)); refine blk_put (cs := #[.int .i64 t296, .int .i64 t297, .int .i64 t298, .int .i64 0, .string (⟨#[]⟩ : ByteArray)]) ?_ 3 _ rfl; (with_reducible repeat (first | refine blk_drewN ?_ _ | refine blk_drew ?_ | refine blk_alloc ?_ _)); refine blk_put (cs := #[.int .i64 t296, .int .i64 t297, .int .i64 0, .int .i64 0, .string (⟨#[]⟩ : ByteArray)]) ?_ 2 _ rfl; (with_reducible repeat (first | refine blk_drewN ?_ _ | refine blk_drew ?_ | refine blk_alloc ?_ _)); refine blk_put (cs := #[.int .i64 t296, .int .i64 0, .int .i64 0, .int .i64 0, .string (⟨#[]⟩ : ByteArray)]) ?_ 1 _ rfl; (with_reducible repeat (first | refine blk_drewN ?_ _ | refine blk_drew ?_ | refine blk_alloc ?_ _)); refine blk_put (cs := #[.int .i64 0, .int .i64 0, .int .i64 0, .int .i64 0, .string (⟨#[]⟩ : ByteArray)]) ?_ 0 _ rfl; exact bkw_ BK303.out) k_ hk)); (case aO => exact (by (with_reducible repeat (first | apply Kd.R_alloc | apply Kd.R_drewN | apply Kd.R_drew)); exact Kd.R_mono (Kd.R_far (p := ⟨gb304, 1, none⟩) (Kd.R_far (p := ⟨gb304, 0, none⟩) (Kd.R_far (p := ⟨gb303, 4, none⟩) (Kd.R_far (p := ⟨gb303, 3, none⟩) (Kd.R_far (p := ⟨gb303, 2, none⟩) (Kd.R_far (p := ⟨gb303, 1, none⟩) (Kd.R_far (p := ⟨gb303, 0, none⟩) (Kd.R_types (Kd.R_mono HO_4.out (fun k_ hk => (⟨hk, hk.2⟩ : _ ∧ k_ ≠ gb303))) BK304.out (by decide)) (fun _ hk => hk.1.2) (.int .i64 t296)) (fun _ hk => hk.1.2) (.int .i64 t297)) (fun _ hk => hk.1.2) (.int .i64 t298)) (fun _ hk => hk.1.2) (.int .i64 t299)) (fun _ hk => hk.1.2) (.string t300)) (fun _ hk => hk.2) (.int .i64 t301)) (fun _ hk => hk.2) (.int .i64 t302)) (fun _ hk => hk.1.1.2))); (case aS => exact (below_size (bla_ HB.out))); (case aL => have := LMc19.out; omega); intro v306 w28 ho hb hg hat; rw [← Ny305.out] at ho; have n0_ := Aside0.mk (blk_grown (g := gb293) (o := .cells #[.int .i64 x294000_1, .int .i64 x294001_1] 26 (0, 0)) (by (with_reducible repeat (first | refine blk_drewN ?_ _ | refine blk_drew ?_ | refine blk_alloc ?_ _)); refine blk_far ?_ NB293_304.out _; (with_reducible repeat (first | refine blk_drewN ?_ _ | refine blk_drew ?_ | refine blk_alloc ?_ _)); refine blk_far ?_ NB293_304.out _; (with_reducible repeat (first | refine blk_drewN ?_ _ | refine blk_drew ?_ | refine blk_alloc ?_ _)); refine blk_far ?_ NB293_303.out _; (with_reducible repeat (first | refine blk_drewN ?_ _ | refine blk_drew ?_ | refine blk_alloc ?_ _)); refine blk_far ?_ NB293_303.out _; (with_reducible repeat (first | refine blk_drewN ?_ _ | refine blk_drew ?_ | refine blk_alloc ?_ _)); refine blk_far ?_ NB293_303.out _; (with_reducible repeat (first | refine blk_drewN ?_ _ | refine blk_drew ?_ | refine blk_alloc ?_ _)); refine blk_far ?_ NB293_303.out _; (with_reducible repeat (first | refine blk_drewN ?_ _ | refine blk_drew ?_ | refine blk_alloc ?_ _)); refine blk_far ?_ NB293_303.out _; exact bkw_ BK293.out) hg (Kd.R_ne HO_4.out BK293.out (by decide))); have n1_ := Aside0.mk (blk_grown (g := gb303) (o := .cells #[.int .i64 t296, .int .i64 t297, .int .i64 t298, .int .i64 t299, .string t300] 51 (0, 0)) (by (with_reducible repeat (first | refine blk_drewN ?_ _ | refine blk_drew ?_ | refine blk_alloc ?_ _)); refine blk_far ?_ NB303_304.out _; (with_reducible repeat (first | refine blk_drewN ?_ _ | refine blk_drew ?_ | refine blk_alloc ?_ _)); refine blk_far ?_ NB303_304.out _; (with_reducible repeat (first | refine blk_drewN ?_ _ | refine blk_drew ?_ | refine blk_alloc ?_ _)); refine blk_put (cs := #[.int .i64 t296, .int .i64 t297, .int .i64 t298, .int .i64 t299, .string (⟨#[]⟩ : ByteArray)]) ?_ 4 _ rfl; (with_reducible repeat (first | refine blk_drewN ?_ _ | refine blk_drew ?_ | refine blk_alloc ?_ _)); refine blk_put (cs := #[.int .i64 t296, .int .i64 t297, .int .i64 t298, .int .i64 0, .string (⟨#[]⟩ : ByteArray)]) ?_ 3 _ rfl; (with_reducible repeat (first | refine blk_drewN ?_ _ | refine blk_drew ?_ | refine blk_alloc ?_ _)); refine blk_put (cs := #[.int .i64 t296, .int .i64 t297, .int .i64 0, .int .i64 0, .string (⟨#[]⟩ : ByteArray)]) ?_ 2 _ rfl; (with_reducible repeat (first | refine blk_drewN ?_ _ | refine blk_drew ?_ | refine blk_alloc ?_ _)); refine blk_put (cs := #[.int .i64 t296, .int .i64 0, .int .i64 0, .int .i64 0, .string (⟨#[]⟩ : ByteArray)]) ?_ 1 _ rfl; (with_reducible repeat (first | refine blk_drewN ?_ _ | refine blk_drew ?_ | refine blk_alloc ?_ _)); refine blk_put (cs := #[.int .i64 0, .int .i64 0, .int .i64 0, .int .i64 0, .string (⟨#[]⟩ : ByteArray)]) ?_ 0 _ rfl; exact bkw_ BK303.out) hg (Kd.R_away HO_4.out (fun _ hk => hk.2))); have n2_ := Aside0.mk (blk_grown (g := gb304) (o := .cells #[.int .i64 t301, .int .i64 t302] 26 (0, 0)) (by (with_reducible repeat (first | refine blk_drewN ?_ _ | refine blk_drew ?_ | refine blk_alloc ?_ _)); refine blk_put (cs := #[.int .i64 t301, .int .i64 0]) ?_ 1 _ rfl; (with_reducible repeat (first | refine blk_drewN ?_ _ | refine blk_drew ?_ | refine blk_alloc ?_ _)); refine blk_put (cs := #[.int .i64 0, .int .i64 0]) ?_ 0 _ rfl; (with_reducible repeat (first | refine blk_drewN ?_ _ | refine blk_drew ?_ | refine blk_alloc ?_ _)); refine blk_far ?_ NB304_303.out _; (with_reducible repeat (first | refine blk_drewN ?_ _ | refine blk_drew ?_ | refine blk_alloc ?_ _)); refine blk_far ?_ NB304_303.out _; (with_reducible repeat (first | refine blk_drewN ?_ _ | refine blk_drew ?_ | refine blk_alloc ?_ _)); refine blk_far ?_ NB304_303.out _; (with_reducible repeat (first | refine blk_drewN ?_ _ | refine blk_drew ?_ | refine blk_alloc ?_ _)); refine blk_far ?_ NB304_303.out _; (with_reducible repeat (first | refine blk_drewN ?_ _ | refine blk_drew ?_ | refine blk_alloc ?_ _)); refine blk_far ?_ NB304_303.out _; exact bkw_ BK304.out) hg (Kd.R_ne HO_4.out BK304.out (by decide))); have n3_ := Aside0.mk (hb); have n4_ := Aside0.mk (ho); clear BK293; clear BK303; clear BK304; clear HB; clear HO_4; have BK293 := n0_; have BK303 := n1_; have BK304 := n2_; have HB := n3_; have HO307 := n4_; clear n0_ n1_ n2_ n3_ n4_; clear ho hb hg hat))
            go_roundg kj3
            case measure => have := HK1.out; have := HJ3.out; omega
            case rel => exact ⟨(y305), (wrap64 (x6_3 + 1)), (x294000_1), (x294001_1), fib_, H', ⟨by have := HK1.out; have := HJ3.out; omega⟩, ⟨by (with_reducible repeat (first | apply Kd.R_alloc | apply Kd.R_drewN | apply Kd.R_drew)); exact Kd.R_mono HO307.out (fun _ hk => trivial)⟩, ⟨by exact bkw_ BK293.out⟩, ⟨bla_ HB.out⟩⟩
           ·rw [if_neg c19] at H
            exact absurd H (by simp)
          ·rw [if_neg c18] at H
           have c18b0 : (t301 == 0) = false := beq_eq_false_iff_ne.mpr c18
           have c18b1 : (t301 != 0) = true := bne_iff_ne.mpr c18
           simp only [Option.some.injEq, Prod.mk.injEq] at H
           obtain ⟨rfl, rfl, rfl⟩ := H
           try go_wp2_with (first | ((with_reducible refine gate_callee (f := 30) rfl ?_); refine goesL_ (some 33) rfl rfl Tryd.func30 (by kernel_rfl) rfl #[.string (a0.extract (x5_1 : Int).toNat (x6_3 : Int).toNat), .int .i64 0] rfl lma_ ?_; (with_reducible refine (spoolref48_Next.calls kj3 (a0.extract (x5_1 : Int).toNat (x6_3 : Int).toNat) 0 t294 t295 _ A12.out).mono ?_); rintro e w' ⟨rfl, ⟨nd, rfl⟩⟩; refine ⟨_, rfl, ?_⟩; (try (rw [drewN_self wc]; generalize hq_ : World.drewN wc _ = wc; have n0_ : Aside0 (Kd.R k51 51 wc w.heap.size (fun _ => True) u4 x4_1) := ⟨by rw [← hq_]; exact (by (with_reducible repeat (first | apply Kd.R_alloc | apply Kd.R_drewN | apply Kd.R_drew)); exact HO_4.out)⟩; have n1_ : Aside0 (wc.heap[gb293]? = some (.cells #[.int .i64 x294000_1, .int .i64 x294001_1] 26 (0, 0))) := ⟨by rw [← hq_]; exact (by exact bkw_ BK293.out)⟩; have n2_ : Aside0 (Below w.heap.size w wc) := ⟨by rw [← hq_]; exact (blg_ HB.out GE293.out)⟩; clear HO_4 BK293 HB hq_; have HO_4 := n0_; have BK293 := n1_; have HB := n2_; clear n0_ n1_ n2_))) | ((with_reducible refine gate_callee (f := 31) rfl ?_); refine goesL_ (some 44) rfl rfl Tryd.func31 (by kernel_rfl) rfl #[.string (a0.extract (x5_1 : Int).toNat (x6_3 : Int).toNat)] rfl lma_ ?_; (with_reducible refine (spoolref48_Line.calls kj3 (a0.extract (x5_1 : Int).toNat (x6_3 : Int).toNat) t296 t297 t298 t299 t300 t301 t302 _ A17.out).mono ?_); rintro e w29 ⟨rfl, hb⟩; refine ⟨_, rfl, ?_⟩; have n0_ := Aside0.mk (Kd.R_below (by (with_reducible repeat (first | apply Kd.R_alloc | apply Kd.R_drewN | apply Kd.R_drew)); exact HO_4.out) hb); have n1_ := Aside0.mk (blk_below (g := gb293) (o := .cells #[.int .i64 x294000_1, .int .i64 x294001_1] 26 (0, 0)) (by exact bkw_ BK293.out) hb); have n2_ := Aside0.mk (below_step (blg_ HB.out GE293.out) hb); clear HO_4; clear BK293; clear HB; have HO_4 := n0_; have BK293 := n1_; have HB := n2_; clear n0_ n1_ n2_; (try clear hb); (try clear hb2); (try clear hk); (try clear hi)) | ((with_reducible refine gate_dst (N := 9) rfl ?_); refine box_event ?hg (N := 9) ?hd (cs := #[.int .i64 0, .int .i64 0, .int .i64 0, .int .i64 0, .string (⟨#[]⟩ : ByteArray)]) (t := 51) ?hr ?_; (case hd => rfl); (case hg => rfl); (case hr => first | (go_simp; done) | (go_simp; rfl)); intro gb303 hg w30 hbox hb; have n0_ := Aside0.mk (Kd.R_below (Kd.R_elderB (by (with_reducible repeat (first | apply Kd.R_alloc | apply Kd.R_drewN | apply Kd.R_drew)); exact HO_4.out) gb303 (Nat.le_of_eq hg.symm)) hb); have n1_ := Aside0.mk (blk_below (g := gb293) (o := .cells #[.int .i64 x294000_1, .int .i64 x294001_1] 26 (0, 0)) (by exact bkw_ BK293.out) hb); have n2_ := Aside0.mk (below_step (blg_ HB.out GE293.out) hb); have n3_ := Aside0.mk (hbox); have n4_ := Aside0.mk ((by rw [hg]; exact (below_size (blg_ HB.out GE293.out)) : w.heap.size ≤ gb303)); have n5_ := Aside0.mk ((by rw [hg]; exact (below_size (blg_ HB.out GE293.out)) : w.heap.size ≤ gb303)); have n6_ := Aside0.mk ((by rw [hg]; exact Nat.ne_of_lt (blk_lt (g := gb293) (o := .cells #[.int .i64 x294000_1, .int .i64 x294001_1] 26 (0, 0)) (by exact bkw_ BK293.out)) : gb293 ≠ gb303)); have n7_ := Aside0.mk ((by rw [hg]; exact Nat.ne_of_gt (blk_lt (g := gb293) (o := .cells #[.int .i64 x294000_1, .int .i64 x294001_1] 26 (0, 0)) (by exact bkw_ BK293.out)) : gb303 ≠ gb293)); clear HO_4; clear BK293; clear HB; have HO_4 := n0_; have BK293 := n1_; have HB := n2_; have BK303 := n3_; have GW303 := n4_; have GE303 := n5_; have NB293_303 := n6_; have NB303_293 := n7_; clear n0_ n1_ n2_ n3_ n4_ n5_ n6_ n7_; clear hb hbox hg) | ((with_reducible refine gate_dst (N := 10) rfl ?_); refine box_event ?hg (N := 10) ?hd (cs := #[.int .i64 0, .int .i64 0]) (t := 26) ?hr ?_; (case hd => rfl); (case hg => rfl); (case hr => first | (go_simp; done) | (go_simp; rfl)); intro gb304 hg w31 hbox hb; have n0_ := Aside0.mk (Kd.R_below (by (with_reducible repeat (first | apply Kd.R_alloc | apply Kd.R_drewN | apply Kd.R_drew)); exact HO_4.out) hb); have n1_ := Aside0.mk (blk_below (g := gb293) (o := .cells #[.int .i64 x294000_1, .int .i64 x294001_1] 26 (0, 0)) (by exact bkw_ BK293.out) hb); have n2_ := Aside0.mk (blk_below (g := gb303) (o := .cells #[.int .i64 0, .int .i64 0, .int .i64 0, .int .i64 0, .string (⟨#[]⟩ : ByteArray)] 51 (0, 0)) (by exact bkw_ BK303.out) hb); have n3_ := Aside0.mk (below_step (bla_ HB.out) hb); have n4_ := Aside0.mk (hbox); have n5_ := Aside0.mk ((by rw [hg]; exact (below_size (bla_ HB.out)) : w.heap.size ≤ gb304)); have n6_ := Aside0.mk ((by rw [hg]; exact (below_size (bla_ HB.out)) : w.heap.size ≤ gb304)); have n7_ := Aside0.mk ((by rw [hg]; exact Nat.ne_of_lt (blk_lt (g := gb293) (o := .cells #[.int .i64 x294000_1, .int .i64 x294001_1] 26 (0, 0)) (by exact bkw_ BK293.out)) : gb293 ≠ gb304)); have n8_ := Aside0.mk ((by rw [hg]; exact Nat.ne_of_gt (blk_lt (g := gb293) (o := .cells #[.int .i64 x294000_1, .int .i64 x294001_1] 26 (0, 0)) (by exact bkw_ BK293.out)) : gb304 ≠ gb293)); have n9_ := Aside0.mk ((by rw [hg]; exact Nat.ne_of_lt (blk_lt (g := gb303) (o := .cells #[.int .i64 0, .int .i64 0, .int .i64 0, .int .i64 0, .string (⟨#[]⟩ : ByteArray)] 51 (0, 0)) (by exact bkw_ BK303.out)) : gb303 ≠ gb304)); have n10_ := Aside0.mk ((by rw [hg]; exact Nat.ne_of_gt (blk_lt (g := gb303) (o := .cells #[.int .i64 0, .int .i64 0, .int .i64 0, .int .i64 0, .string (⟨#[]⟩ : ByteArray)] 51 (0, 0)) (by exact bkw_ BK303.out)) : gb304 ≠ gb303)); clear HO_4; clear BK293; clear BK303; clear HB; have HO_4 := n0_; have BK293 := n1_; have BK303 := n2_; have HB := n3_; have BK304 := n4_; have GW304 := n5_; have GE304 := n6_; have NB293_304 := n7_; have NB304_293 := n8_; have NB303_304 := n9_; have NB304_303 := n10_; clear n0_ n1_ n2_ n3_ n4_ n5_ n6_ n7_ n8_ n9_ n10_; clear hb hbox hg; have hnb32 := NB303_293.out; have hnc32 := NB293_303.out; have hnb33 := NB303_304.out; have hnc33 := NB304_303.out; have hcz34_0 : w31.cell? ⟨gb303, 0, none⟩ = some (.int .i64 0) := (blk_cell BK303.out 0).trans rfl; have hcz34_1 : w31.cell? ⟨gb303, 1, none⟩ = some (.int .i64 0) := (blk_cell BK303.out 1).trans rfl; have hcz34_2 : w31.cell? ⟨gb303, 2, none⟩ = some (.int .i64 0) := (blk_cell BK303.out 2).trans rfl; have hcz34_3 : w31.cell? ⟨gb303, 3, none⟩ = some (.int .i64 0) := (blk_cell BK303.out 3).trans rfl; have hcz34_4 : w31.cell? ⟨gb303, 4, none⟩ = some (.string (⟨#[]⟩ : ByteArray)) := (blk_cell BK303.out 4).trans rfl; have hfz34_0 := blk_frozen BK303.out 0; have hfz34_1 := blk_frozen BK303.out 1; have hfz34_2 := blk_frozen BK303.out 2; have hfz34_3 := blk_frozen BK303.out 3; have hfz34_4 := blk_frozen BK303.out 4; have hnb35 := NB304_293.out; have hnc35 := NB293_304.out; have hcz36_0 : w31.cell? ⟨gb304, 0, none⟩ = some (.int .i64 0) := (blk_cell BK304.out 0).trans rfl; have hcz36_1 : w31.cell? ⟨gb304, 1, none⟩ = some (.int .i64 0) := (blk_cell BK304.out 1).trans rfl; have hfz36_0 := blk_frozen BK304.out 0; have hfz36_1 := blk_frozen BK304.out 1))
           have n0_ : Aside0 (Kd.R k51 51 (((((((w31.setCell ⟨gb303, 0, none⟩ (.int .i64 t296)).setCell ⟨gb303, 1, none⟩ (.int .i64 t297)).setCell ⟨gb303, 2, none⟩ (.int .i64 t298)).setCell ⟨gb303, 3, none⟩ (.int .i64 t299)).setCell ⟨gb303, 4, none⟩ (.string t300)).setCell ⟨gb304, 0, none⟩ (.int .i64 t301)).setCell ⟨gb304, 1, none⟩ (.int .i64 t302)) w.heap.size (fun k_ => k_ ≠ gb303) u4 x4_1) := ⟨by (with_reducible repeat (first | apply Kd.R_alloc | apply Kd.R_drewN | apply Kd.R_drew)); exact Kd.R_mono (Kd.R_far (p := ⟨gb304, 1, none⟩) (Kd.R_far (p := ⟨gb304, 0, none⟩) (Kd.R_far (p := ⟨gb303, 4, none⟩) (Kd.R_far (p := ⟨gb303, 3, none⟩) (Kd.R_far (p := ⟨gb303, 2, none⟩) (Kd.R_far (p := ⟨gb303, 1, none⟩) (Kd.R_far (p := ⟨gb303, 0, none⟩) (Kd.R_types (Kd.R_mono HO_4.out (fun k_ hk => (⟨hk, hk.2⟩ : _ ∧ k_ ≠ gb303))) BK304.out (by decide)) (fun _ hk => hk.1.2) (.int .i64 t296)) (fun _ hk => hk.1.2) (.int .i64 t297)) (fun _ hk => hk.1.2) (.int .i64 t298)) (fun _ hk => hk.1.2) (.int .i64 t299)) (fun _ hk => hk.1.2) (.string t300)) (fun _ hk => hk.2) (.int .i64 t301)) (fun _ hk => hk.2) (.int .i64 t302)) (fun _ hk => hk.1.1.2)⟩
           have n1_ : Aside0 ((((((((w31.setCell ⟨gb303, 0, none⟩ (.int .i64 t296)).setCell ⟨gb303, 1, none⟩ (.int .i64 t297)).setCell ⟨gb303, 2, none⟩ (.int .i64 t298)).setCell ⟨gb303, 3, none⟩ (.int .i64 t299)).setCell ⟨gb303, 4, none⟩ (.string t300)).setCell ⟨gb304, 0, none⟩ (.int .i64 t301)).setCell ⟨gb304, 1, none⟩ (.int .i64 t302)).heap[gb293]? = some (.cells #[.int .i64 x294000_1, .int .i64 x294001_1] 26 (0, 0))) := ⟨by (with_reducible repeat (first | refine blk_drewN ?_ _ | refine blk_drew ?_ | refine blk_alloc ?_ _)); refine blk_far ?_ NB293_304.out _; (with_reducible repeat (first | refine blk_drewN ?_ _ | refine blk_drew ?_ | refine blk_alloc ?_ _)); refine blk_far ?_ NB293_304.out _; (with_reducible repeat (first | refine blk_drewN ?_ _ | refine blk_drew ?_ | refine blk_alloc ?_ _)); refine blk_far ?_ NB293_303.out _; (with_reducible repeat (first | refine blk_drewN ?_ _ | refine blk_drew ?_ | refine blk_alloc ?_ _)); refine blk_far ?_ NB293_303.out _; (with_reducible repeat (first | refine blk_drewN ?_ _ | refine blk_drew ?_ | refine blk_alloc ?_ _)); refine blk_far ?_ NB293_303.out _; (with_reducible repeat (first | refine blk_drewN ?_ _ | refine blk_drew ?_ | refine blk_alloc ?_ _)); refine blk_far ?_ NB293_303.out _; (with_reducible repeat (first | refine blk_drewN ?_ _ | refine blk_drew ?_ | refine blk_alloc ?_ _)); refine blk_far ?_ NB293_303.out _; exact bkw_ BK293.out⟩
           have n2_ : Aside0 ((((((((w31.setCell ⟨gb303, 0, none⟩ (.int .i64 t296)).setCell ⟨gb303, 1, none⟩ (.int .i64 t297)).setCell ⟨gb303, 2, none⟩ (.int .i64 t298)).setCell ⟨gb303, 3, none⟩ (.int .i64 t299)).setCell ⟨gb303, 4, none⟩ (.string t300)).setCell ⟨gb304, 0, none⟩ (.int .i64 t301)).setCell ⟨gb304, 1, none⟩ (.int .i64 t302)).heap[gb303]? = some (.cells #[.int .i64 t296, .int .i64 t297, .int .i64 t298, .int .i64 t299, .string t300] 51 (0, 0))) := ⟨by (with_reducible repeat (first | refine blk_drewN ?_ _ | refine blk_drew ?_ | refine blk_alloc ?_ _)); refine blk_far ?_ NB303_304.out _; (with_reducible repeat (first | refine blk_drewN ?_ _ | refine blk_drew ?_ | refine blk_alloc ?_ _)); refine blk_far ?_ NB303_304.out _; (with_reducible repeat (first | refine blk_drewN ?_ _ | refine blk_drew ?_ | refine blk_alloc ?_ _)); refine blk_put (cs := #[.int .i64 t296, .int .i64 t297, .int .i64 t298, .int .i64 t299, .string (⟨#[]⟩ : ByteArray)]) ?_ 4 _ rfl; (with_reducible repeat (first | refine blk_drewN ?_ _ | refine blk_drew ?_ | refine blk_alloc ?_ _)); refine blk_put (cs := #[.int .i64 t296, .int .i64 t297, .int .i64 t298, .int .i64 0, .string (⟨#[]⟩ : ByteArray)]) ?_ 3 _ rfl; (with_reducible repeat (first | refine blk_drewN ?_ _ | refine blk_drew ?_ | refine blk_alloc ?_ _)); refine blk_put (cs := #[.int .i64 t296, .int .i64 t297, .int .i64 0, .int .i64 0, .string (⟨#[]⟩ : ByteArray)]) ?_ 2 _ rfl; (with_reducible repeat (first | refine blk_drewN ?_ _ | refine blk_drew ?_ | refine blk_alloc ?_ _)); refine blk_put (cs := #[.int .i64 t296, .int .i64 0, .int .i64 0, .int .i64 0, .string (⟨#[]⟩ : ByteArray)]) ?_ 1 _ rfl; (with_reducible repeat (first | refine blk_drewN ?_ _ | refine blk_drew ?_ | refine blk_alloc ?_ _)); refine blk_put (cs := #[.int .i64 0, .int .i64 0, .int .i64 0, .int .i64 0, .string (⟨#[]⟩ : ByteArray)]) ?_ 0 _ rfl; exact bkw_ BK303.out⟩
           have n3_ : Aside0 ((((((((w31.setCell ⟨gb303, 0, none⟩ (.int .i64 t296)).setCell ⟨gb303, 1, none⟩ (.int .i64 t297)).setCell ⟨gb303, 2, none⟩ (.int .i64 t298)).setCell ⟨gb303, 3, none⟩ (.int .i64 t299)).setCell ⟨gb303, 4, none⟩ (.string t300)).setCell ⟨gb304, 0, none⟩ (.int .i64 t301)).setCell ⟨gb304, 1, none⟩ (.int .i64 t302)).heap[gb304]? = some (.cells #[.int .i64 t301, .int .i64 t302] 26 (0, 0))) := ⟨by (with_reducible repeat (first | refine blk_drewN ?_ _ | refine blk_drew ?_ | refine blk_alloc ?_ _)); refine blk_put (cs := #[.int .i64 t301, .int .i64 0]) ?_ 1 _ rfl; (with_reducible repeat (first | refine blk_drewN ?_ _ | refine blk_drew ?_ | refine blk_alloc ?_ _)); refine blk_put (cs := #[.int .i64 0, .int .i64 0]) ?_ 0 _ rfl; (with_reducible repeat (first | refine blk_drewN ?_ _ | refine blk_drew ?_ | refine blk_alloc ?_ _)); refine blk_far ?_ NB304_303.out _; (with_reducible repeat (first | refine blk_drewN ?_ _ | refine blk_drew ?_ | refine blk_alloc ?_ _)); refine blk_far ?_ NB304_303.out _; (with_reducible repeat (first | refine blk_drewN ?_ _ | refine blk_drew ?_ | refine blk_alloc ?_ _)); refine blk_far ?_ NB304_303.out _; (with_reducible repeat (first | refine blk_drewN ?_ _ | refine blk_drew ?_ | refine blk_alloc ?_ _)); refine blk_far ?_ NB304_303.out _; (with_reducible repeat (first | refine blk_drewN ?_ _ | refine blk_drew ?_ | refine blk_alloc ?_ _)); refine blk_far ?_ NB304_303.out _; exact bkw_ BK304.out⟩
           have n4_ : Aside0 (Below w.heap.size w (((((((w31.setCell ⟨gb303, 0, none⟩ (.int .i64 t296)).setCell ⟨gb303, 1, none⟩ (.int .i64 t297)).setCell ⟨gb303, 2, none⟩ (.int .i64 t298)).setCell ⟨gb303, 3, none⟩ (.int .i64 t299)).setCell ⟨gb303, 4, none⟩ (.string t300)).setCell ⟨gb304, 0, none⟩ (.int .i64 t301)).setCell ⟨gb304, 1, none⟩ (.int .i64 t302))) := ⟨bla_ HB.out⟩
           (try clear HO_4)
           (try clear BK293)
           (try clear BK303)
           (try clear BK304)
           (try clear HB)
           generalize (((((((w31.setCell ⟨gb303, 0, none⟩ (.int .i64 t296)).setCell ⟨gb303, 1, none⟩ (.int .i64 t297)).setCell ⟨gb303, 2, none⟩ (.int .i64 t298)).setCell ⟨gb303, 3, none⟩ (.int .i64 t299)).setCell ⟨gb303, 4, none⟩ (.string t300)).setCell ⟨gb304, 0, none⟩ (.int .i64 t301)).setCell ⟨gb304, 1, none⟩ (.int .i64 t302)) = w37 at n0_ n1_ n2_ n3_ n4_ ⊢
           have HO_4 := n0_
           have BK293 := n1_
           have BK303 := n2_
           have BK304 := n3_
           have HB := n4_
           clear n0_ n1_ n2_ n3_ n4_
           have n0_ := Aside0.mk (Kd.R_drew HO_4.out)
           have n1_ := Aside0.mk (blk_drew BK293.out)
           have n2_ := Aside0.mk (blk_drew BK303.out)
           have n3_ := Aside0.mk (blk_drew BK304.out)
           have n4_ := Aside0.mk (below_drew1 HB.out)
           clear HO_4
           clear BK293
           clear BK303
           clear BK304
           clear HB
           have HO_4 := n0_
           have BK293 := n1_
           have BK303 := n2_
           have BK304 := n3_
           have HB := n4_
           clear n0_ n1_ n2_ n3_ n4_
           refine start_ (n := 9) (S := fun w' => w'.cell? ⟨gb304, 0, none⟩ = some (.int .i64 t301) ∧ w'.cell? ⟨gb304, 1, none⟩ = some (.int .i64 t302)) (ds := [8]) #[false, false, false, false, false, false, false, false, false] (by kernel_rfl) rfl rfl ⟨(blk_cell BK304.out 0).trans rfl, (blk_cell BK304.out 1).trans rfl⟩ (fun hHeld => ?_); refine with_tabW spoolref48_Parse.tab11 spoolref48_Parse.bits11 (fun HT_ HW_ => ?_)
           generalize w37.drew = w38 at HO_4 BK293 BK303 BK304 HB hHeld ⊢
           refine pure_ (i := 0) (N := some 50) (v := ?_) (a' := ?_) #[true, false, false, false, false, false, false, false, false] rfl rfl (any_of HT_.out (by kernel_rfl)) (fun _ _ _ h => h) (Or.inl ⟨by rfl, ?_⟩) ?_ ?_
           rotate_left
           ·intro w'
            go_simp
            with_reducible rfl
           rotate_left
           ·simp only [Act.put, List.setIfInBounds_toArray, List.set_cons_zero, List.set_cons_succ, i64_w, i32_w]
            rfl
           refine pure_ (i := 2) (N := some 52) (v := ?_) (a' := ?_) #[true, false, true, false, false, false, false, false, false] rfl rfl (any_of HT_.out (by kernel_rfl)) (fun _ _ _ h => h) (Or.inl ⟨by rfl, ?_⟩) ?_ ?_
           rotate_left
           ·intro w'
            go_simp
            with_reducible rfl
           rotate_left
           ·simp only [Act.put, List.setIfInBounds_toArray, List.set_cons_zero, List.set_cons_succ, i64_w, i32_w]
            rfl
           refine pure_ (i := 3) (N := some 53) (v := ?_) (a' := ?_) #[true, false, true, true, false, false, false, false, false] rfl rfl (any_of HT_.out (by kernel_rfl)) (fun _ _ _ h => h) (Or.inl ⟨by rfl, ?_⟩) ?_ ?_
           rotate_left
           ·intro w'
            go_simp
            with_reducible rfl
           rotate_left
           ·simp only [Act.put, List.setIfInBounds_toArray, List.set_cons_zero, List.set_cons_succ, i64_w, i32_w]
            rfl
           refine pure_ (i := 7) (N := some 2) (v := ?_) (a' := ?_) #[true, false, true, true, false, false, false, true, false] rfl rfl (any_of HT_.out (by kernel_rfl)) (fun _ _ _ h => h) (Or.inl ⟨by rfl, ?_⟩) ?_ ?_
           rotate_left
           ·intro w'
            go_simp
            with_reducible rfl
           rotate_left
           ·simp only [Act.put, List.setIfInBounds_toArray, List.set_cons_zero, List.set_cons_succ, i64_w, i32_w]
            rfl
           refine take_ (i := 1) (N := some 51) (v := ?_) (a' := ?_) #[true, true, true, true, false, false, false, true, false] rfl rfl (take_ofW HT_.out HW_.out (by kernel_rfl)) (fun _ _ _ h => h) (Or.inl ⟨by rfl, ?_⟩) hHeld ?_ ?_
           rotate_left
           ·rintro w' ⟨s0, s1⟩
            go_simp
            with_reducible rfl
           rotate_left
           ·simp only [Act.put, List.setIfInBounds_toArray, List.set_cons_zero, List.set_cons_succ, i64_w, i32_w]
            rfl
           refine take_ (i := 4) (N := some 54) (v := ?_) (a' := ?_) #[true, true, true, true, true, false, false, true, false] rfl rfl (take_ofW HT_.out HW_.out (by kernel_rfl)) (fun _ _ _ h => h) (Or.inl ⟨by rfl, ?_⟩) hHeld ?_ ?_
           rotate_left
           ·rintro w' ⟨s0, s1⟩
            go_simp
            with_reducible rfl
           rotate_left
           ·simp only [Act.put, List.setIfInBounds_toArray, List.set_cons_zero, List.set_cons_succ, i64_w, i32_w]
            rfl
           refine pure_ (i := 5) (N := some 55) (v := ?_) (a' := ?_) #[true, true, true, true, true, true, false, true, false] rfl rfl (any_of HT_.out (by kernel_rfl)) (fun _ _ _ h => h) (Or.inl ⟨by rfl, ?_⟩) ?_ ?_
           rotate_left
           ·intro w'
            go_simp
            with_reducible rfl
           rotate_left
           ·simp only [Act.put, List.setIfInBounds_toArray, List.set_cons_zero, List.set_cons_succ, i64_w, i32_w]
            rfl
           refine pure_ (i := 6) (N := some 56) (v := ?_) (a' := ?_) #[true, true, true, true, true, true, true, true, false] rfl rfl (any_of HT_.out (by kernel_rfl)) (fun _ _ _ h => h) (Or.inl ⟨by rfl, ?_⟩) ?_ ?_
           rotate_left
           ·intro w'
            go_simp
            with_reducible rfl
           rotate_left
           ·simp only [Act.put, List.setIfInBounds_toArray, List.set_cons_zero, List.set_cons_succ, i64_w, i32_w]
            rfl
           refine last_ (i := 8) (N := none) #[true, true, true, true, true, true, true, true, true] rfl rfl (one_of HT_.out (by kernel_rfl)) (by decide) (fun K hK => ?_)
           have hs39 : w38.cell? ⟨gb293, 0, none⟩ = some (.int .i64 x294000_1) := (blk_cell BK293.out 0).trans rfl
           have hfs39 := blk_frozen BK293.out 0
           have hns39_1 := NB303_293.out
           have hns39_2 := NB304_293.out
           have hms39_1 := NB293_303.out
           have hms39_2 := NB293_304.out
           have hs40 : w38.cell? ⟨gb293, 1, none⟩ = some (.int .i64 x294001_1) := (blk_cell BK293.out 1).trans rfl
           have hfs40 := blk_frozen BK293.out 1
           have hns40_1 := NB303_293.out
           have hns40_2 := NB304_293.out
           have hms40_1 := NB293_303.out
           have hms40_2 := NB293_304.out
           refine skip_ (w1 := ?_) (by rfl) rfl ?_ ?_
           rotate_left
           ·go_simp
            rfl
           refine hK.out _ _ ?_
           clear hK K
           refine done_ (done_of HT_.out (by kernel_rfl)) ?_
           try go_wp2
           refine bodyPost_ret (results_tc rfl _ _ gb293 26 #[.int .i64 t301, .int .i64 (wrap64 (x5_1 + t302))] (0, 0) _ rfl (by (with_reducible repeat (first | refine blk_drewN ?_ _ | refine blk_drew ?_ | refine blk_alloc ?_ _)); refine blk_put (cs := #[.int .i64 t301, .int .i64 x294001_1]) ?_ 1 _ rfl; (with_reducible repeat (first | refine blk_drewN ?_ _ | refine blk_drew ?_ | refine blk_alloc ?_ _)); refine blk_put (cs := #[.int .i64 x294000_1, .int .i64 x294001_1]) ?_ 0 _ rfl; exact bkw_ BK293.out) Tryd.underlying26 rfl (by kernel_rfl)) rfl ?_
           exact ⟨_, fia_, by first | exact Kd.R_nil _ _ _ _ _ | exact Kd.N_nil _ _ _ _ _ | exact Kd.V_nil _ _ _ _ _ | exact Kd.Q_nil _ _ _ _ _ | exact Kd.S_nil _ _ _ _ _, bla_ HB.out⟩
         ·rw [if_neg c13] at H
          have c13b0 : decide (t294 < t295) = false := decide_eq_false c13
          clear c13
          have H' := Aside0.mk H
          clear H
          go_wp2_with (first | ((with_reducible refine gate_callee (f := 30) rfl ?_); refine goesL_ (some 33) rfl rfl Tryd.func30 (by kernel_rfl) rfl #[.string (a0.extract (x5_1 : Int).toNat (x6_3 : Int).toNat), .int .i64 0] rfl lma_ ?_; (with_reducible refine (spoolref48_Next.calls kj3 (a0.extract (x5_1 : Int).toNat (x6_3 : Int).toNat) 0 t294 t295 _ A12.out).mono ?_); rintro e w' ⟨rfl, ⟨nd, rfl⟩⟩; refine ⟨_, rfl, ?_⟩))
          go_roundg kj3
          case measure => have := HK1.out; have := HJ3.out; omega
          case rel => exact ⟨(x4_1), (wrap64 (x6_3 + 1)), (x294000_1), (x294001_1), fib_, H', ⟨by have := HK1.out; have := HJ3.out; omega⟩, ⟨by (with_reducible repeat (first | apply Kd.R_alloc | apply Kd.R_drewN | apply Kd.R_drew)); exact HO_4.out⟩, ⟨by exact bkw_ BK293.out⟩, ⟨blg_ HB.out GE293.out⟩⟩
        ·rw [if_neg c11] at H
         exact absurd H (by simp)
       ·rw [if_neg c10] at H
        exact absurd H (by simp)
      ·rw [if_neg c9] at H
       exact absurd H (by simp)
   ·rw [if_neg c3] at H
    have c3b0 : decide (x5_1 ≤ (a0.size : Int)) = false := decide_eq_false c3
    clear c3
    simp only [Option.some.injEq, Prod.mk.injEq] at H
    obtain ⟨rfl, rfl, rfl⟩ := H
    have hcz41_0 : wr.cell? ⟨gb293, 0, none⟩ = some (.int .i64 x294000_1) := (blk_cell BK293.out 0).trans rfl
    have hcz41_1 : wr.cell? ⟨gb293, 1, none⟩ = some (.int .i64 x294001_1) := (blk_cell BK293.out 1).trans rfl
    have hfz41_0 := blk_frozen BK293.out 0
    have hfz41_1 := blk_frozen BK293.out 1
    go_wp2
    refine bodyPost_ret (results_tc rfl _ _ gb293 26 #[.int .i64 0, .int .i64 0] (0, 0) _ rfl (by (with_reducible repeat (first | refine blk_drewN ?_ _ | refine blk_drew ?_ | refine blk_alloc ?_ _)); refine blk_put (cs := #[.int .i64 0, .int .i64 x294001_1]) ?_ 1 _ rfl; (with_reducible repeat (first | refine blk_drewN ?_ _ | refine blk_drew ?_ | refine blk_alloc ?_ _)); refine blk_put (cs := #[.int .i64 x294000_1, .int .i64 x294001_1]) ?_ 0 _ rfl; exact bkw_ BK293.out) Tryd.underlying26 rfl (by kernel_rfl)) rfl ?_
    exact ⟨_, fia_, by (with_reducible repeat (first | apply Kd.R_alloc | apply Kd.R_drewN | apply Kd.R_drew)); exact Kd.R_mono (Kd.R_far (p := ⟨gb293, 1, none⟩) (Kd.R_far (p := ⟨gb293, 0, none⟩) (Kd.R_types HO_4.out BK293.out (by decide)) (fun _ hk => hk.2) (.int .i64 0)) (fun _ hk => hk.2) (.int .i64 0)) (fun _ hk => trivial), blg_ HB.out GE293.out⟩

/-! ### spoolref48_Same: function 11 -/
def spoolref48_Same.l0 : Nat → List (S51) → List (S51) → Int → Option (Bool)
 | 0, _, _, _ => none
 | k + 1, x0, x1, x5 => if x5 < (x0.length : Int) then (if 0 ≤ x5 then (if x5 < (x1.length : Int) then (if (!(((rd_T51 x0 x5).f0) == ((rd_T51 x1 x5).f0)) || (!(((rd_T51 x0 x5).f1) == ((rd_T51 x1 x5).f1)) || ((!(((rd_T51 x0 x5).f2.f0) == ((rd_T51 x1 x5).f2.f0)) || (!(((rd_T51 x0 x5).f2.f1) == ((rd_T51 x1 x5).f2.f1)) || (!((((rd_T51 x0 x5).f2.f2).toList) == (((rd_T51 x1 x5).f2.f2).toList)))))))) = true then (some false) else (spoolref48_Same.l0 k x0 x1 (wrap64 (x5 + 1)))) else (none)) else (none)) else (some true)
def spoolref48_Same.f (k : Nat) (l0 : List (S51)) (l1 : List (S51)) : Option (Bool) := if (l0.length : Int) = (l1.length : Int) then (spoolref48_Same.l0 k l0 l1 0) else (some false)
theorem spoolref48_Same.mono_l : ∀ k, (∀ y0 y1 y2, LeO (spoolref48_Same.l0 k y0 y1 y2) (spoolref48_Same.l0 (k + 1) y0 y1 y2))
 | 0 => fun _ _ _ r h => by simp [spoolref48_Same.l0] at h
 | k + 1 => by
  have ih0 := spoolref48_Same.mono_l k
  ·intro y0 y1 y2
   unfold spoolref48_Same.l0
   repeat' first
   | (with_reducible exact ih0 _ _ _)
   | (with_reducible exact LeO.refl _)
   | (with_reducible exact LeO.none _)
   | (with_reducible refine LeO.ite ?_ ?_)
   | (with_reducible refine LeO.bind ?_ (fun _ => ?_))
   | exact ih0 _ _ _
   | exact LeO.none _
   | refine LeO.ite ?_ ?_
   | refine LeO.bind ?_ (fun _ => ?_)
theorem spoolref48_Same.mono : ∀ a0 a1 k, LeO (spoolref48_Same.f k a0 a1) (spoolref48_Same.f (k + 1) a0 a1) := by
 intro a0 a1 k
 have ih0 := spoolref48_Same.mono_l k
 unfold spoolref48_Same.f
 repeat' first
   | (with_reducible exact ih0 _ _ _)
   | (with_reducible exact LeO.refl _)
   | (with_reducible exact LeO.none _)
   | (with_reducible refine LeO.ite ?_ ?_)
   | (with_reducible refine LeO.bind ?_ (fun _ => ?_))
   | exact ih0 _ _ _
   | exact LeO.none _
   | refine LeO.ite ?_ ?_
   | refine LeO.bind ?_ (fun _ => ?_)
set_option maxHeartbeats 8000000 in
set_option maxRecDepth 100000 in
theorem spoolref48_Same.calls (k : Nat) (A0 : Option Addr) (c0 : Nat) (l0 : List (S51)) (A1 : Option Addr) (c1 : Nat) (l1 : List (S51)) (r : Bool) (w : World) (hr0 : Kd.C k51 w A0 l0.length l0) (hc0 : l0.length ≤ c0) (hr1 : Kd.C k51 w A1 l1.length l1) (hc1 : l1.length ≤ c1) (h : spoolref48_Same.f k l0 l1 = some r) :
  Calls Tryd.prog 11 #[.slice A0 l0.length c0, .slice A1 l1.length c1] w fun e w' => e = .returned (.bool r) ∧ Drawn0 w w' := by
 have hu51 := Tryd.underlying51
 have HR0 := Aside0.mk hr0
 have HC0 := Aside0.mk hc0
 clear hr0 hc0
 have HR1 := Aside0.mk hr1
 have HC1 := Aside0.mk hc1
 clear hr1 hc1
 have H : (if (l0.length : Int) = (l1.length : Int) then (spoolref48_Same.l0 k l0 l1 0) else (some false)) = some r := h
 clear h
 by_cases c3 : (l0.length : Int) = (l1.length : Int)
 ·rw [if_pos c3] at H
  have c3b0 : ((l0.length : Int) == (l1.length : Int)) = true := beq_iff_eq.mpr c3
  have c3b1 : ((l0.length : Int) != (l1.length : Int)) = false := bne_eq_false_iff_eq.mpr c3
  have c3b2 : (l0.length == l1.length) = true := by first | simpa using c3 | (simp at c3 ⊢; omega)
  clear c3
  have H' := Aside0.mk H
  clear H
  go_enter Tryd.func11, Tryd.ntmps11
  go_wp2
  repeat (go_quiet (fail); try go_wp2)
  go_loopg [5] k (fun kq v5 w' => ∃ (x5_1 : Int), v5 = .int .i64 x5_1 ∧ Aside0 (spoolref48_Same.l0 kq l0 l1 x5_1 = some r) ∧ Aside0 (kq ≤ k) ∧ Drawn0 w w')
  case atStart => exact ⟨(0), fib_, H', ⟨Nat.le_refl _⟩, by repeat (first | exact Drawn0.refl _ | apply Drawn0.step)⟩
  case round =>
   clear H'
   try clear c1
   try clear p2
   try clear c3
   try clear c3b0
   try clear c3b1
   try clear c3b2
   obtain ⟨x5_1, rfl, HA, HK1, ⟨m1, rfl⟩⟩ := hrel
   cases gk with
   | zero => exact absurd HA.out (by simp [spoolref48_Same.l0])
   | succ k1 =>
    have H := HA.out
    clear HA
    simp only [spoolref48_Same.l0] at H
    by_cases c4 : x5_1 < (l0.length : Int)
    ·rw [if_pos c4] at H
     have c4b0 : decide (x5_1 < (l0.length : Int)) = true := decide_eq_true c4
     clear c4
     by_cases c5 : 0 ≤ x5_1
     ·rw [if_pos c5] at H
      have c5b0 : decide (0 ≤ x5_1) = true := decide_eq_true c5
      clear c5
      by_cases c6 : x5_1 < (l1.length : Int)
      ·rw [if_pos c6] at H
       have c6b0 : decide (x5_1 < (l1.length : Int)) = true := decide_eq_true c6
       clear c6
       by_cases c7 : (!(((rd_T51 l0 x5_1).f0) == ((rd_T51 l1 x5_1).f0)) || (!(((rd_T51 l0 x5_1).f1) == ((rd_T51 l1 x5_1).f1)) || ((!(((rd_T51 l0 x5_1).f2.f0) == ((rd_T51 l1 x5_1).f2.f0)) || (!(((rd_T51 l0 x5_1).f2.f1) == ((rd_T51 l1 x5_1).f2.f1)) || (!((((rd_T51 l0 x5_1).f2.f2).toList) == (((rd_T51 l1 x5_1).f2.f2).toList)))))))) = true
       ·rw [if_pos c7] at H
        have c7b0 : (!(((rd_T51 l0 x5_1).f0) == ((rd_T51 l1 x5_1).f0)) || (!(((rd_T51 l0 x5_1).f1) == ((rd_T51 l1 x5_1).f1)) || ((!(((rd_T51 l0 x5_1).f2.f0) == ((rd_T51 l1 x5_1).f2.f0)) || (!(((rd_T51 l0 x5_1).f2.f1) == ((rd_T51 l1 x5_1).f2.f1)) || (!((((rd_T51 l0 x5_1).f2.f2).toList) == (((rd_T51 l1 x5_1).f2.f2).toList)))))))) = true := c7
        clear c7
        obtain rfl := Option.some.inj H
        have p308 : 0 ≤ (x5_1 : Int) := of_decide_eq_true asa_
        have q308 : x5_1 < (l0.length : Int) := of_decide_eq_true asa_
        obtain ⟨ad308, e308, hx308_0, hx308_1, hx308_2, hx308_3, hx308_4⟩ := at_T51 HR0.out x5_1 p308 q308
        cases e308
        replace p308 := eq_true p308
        replace q308 := eq_true q308
        have p309 : 0 ≤ (x5_1 : Int) := of_decide_eq_true asa_
        have q309 : x5_1 < (l1.length : Int) := of_decide_eq_true asa_
        obtain ⟨ad309, e309, hx309_0, hx309_1, hx309_2, hx309_3, hx309_4⟩ := at_T51 HR1.out x5_1 p309 q309
        cases e309
        replace p309 := eq_true p309
        replace q309 := eq_true q309
        go_wp2
        repeat (go_quiet (fail); try go_wp2)
        go_ret
        exact ⟨fib_, by repeat (first | exact Drawn0.refl _ | apply Drawn0.step)⟩
       ·rw [if_neg c7] at H
        have c7b0 : (!(((rd_T51 l0 x5_1).f0) == ((rd_T51 l1 x5_1).f0)) || (!(((rd_T51 l0 x5_1).f1) == ((rd_T51 l1 x5_1).f1)) || ((!(((rd_T51 l0 x5_1).f2.f0) == ((rd_T51 l1 x5_1).f2.f0)) || (!(((rd_T51 l0 x5_1).f2.f1) == ((rd_T51 l1 x5_1).f2.f1)) || (!((((rd_T51 l0 x5_1).f2.f2).toList) == (((rd_T51 l1 x5_1).f2.f2).toList)))))))) = false := by simpa using c7
        clear c7
        have H' := Aside0.mk H
        clear H
        have p308 : 0 ≤ (x5_1 : Int) := of_decide_eq_true asa_
        have q308 : x5_1 < (l0.length : Int) := of_decide_eq_true asa_
        obtain ⟨ad308, e308, hx308_0, hx308_1, hx308_2, hx308_3, hx308_4⟩ := at_T51 HR0.out x5_1 p308 q308
        cases e308
        replace p308 := eq_true p308
        replace q308 := eq_true q308
        have p309 : 0 ≤ (x5_1 : Int) := of_decide_eq_true asa_
        have q309 : x5_1 < (l1.length : Int) := of_decide_eq_true asa_
        obtain ⟨ad309, e309, hx309_0, hx309_1, hx309_2, hx309_3, hx309_4⟩ := at_T51 HR1.out x5_1 p309 q309
        cases e309
        replace p309 := eq_true p309
        replace q309 := eq_true q309
        go_wp2
        repeat (go_quiet (fail); try go_wp2)
        go_roundg k1
        case measure => have := HK1.out; omega
        case rel => exact ⟨(wrap64 (x5_1 + 1)), fib_, H', ⟨by have := HK1.out; omega⟩, by repeat (first | exact Drawn0.refl _ | apply Drawn0.step)⟩
      ·rw [if_neg c6] at H
       exact absurd H (by simp)
     ·rw [if_neg c5] at H
      exact absurd H (by simp)
    ·rw [if_neg c4] at H
     have c4b0 : decide (x5_1 < (l0.length : Int)) = false := decide_eq_false c4
     clear c4
     obtain rfl := Option.some.inj H
     go_wp2
     repeat (go_quiet (fail); try go_wp2)
     go_ret
     exact ⟨fib_, by repeat (first | exact Drawn0.refl _ | apply Drawn0.step)⟩
 ·rw [if_neg c3] at H
  have c3b0 : ((l0.length : Int) == (l1.length : Int)) = false := beq_eq_false_iff_ne.mpr c3
  have c3b1 : ((l0.length : Int) != (l1.length : Int)) = true := bne_iff_ne.mpr c3
  have c3b2 : (l0.length == l1.length) = false := by first | simpa using c3 | (simp at c3 ⊢; omega)
  obtain rfl := Option.some.inj H
  go_enter Tryd.func11, Tryd.ntmps11
  go_wp2
  repeat (go_quiet (fail); try go_wp2)
  go_ret
  exact ⟨fib_, by repeat (first | exact Drawn0.refl _ | apply Drawn0.step)⟩

end Go.Proofs.YtifcpamliidabaaDoor.PS

-- slim

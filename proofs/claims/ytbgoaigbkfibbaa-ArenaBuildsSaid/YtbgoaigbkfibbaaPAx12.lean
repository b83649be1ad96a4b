-- WRITTEN BY A PROGRAM OF THIS SESSION (patchprint.py over the kit's print)
import Derived.Test.YtbgoaigbkfibbaaPAx0
import Derived.Test.YtbgoaigbkfibbaaPAx10
import Derived.Test.YtbgoaigbkfibbaaPAx11
namespace Go.Proofs.Ytbgoaigbkfibbaa.PA
open Go.RowKit Go.Proofs.YtbgoaigbkfibbaaW.PrintWords Go.Proofs.YtbgoaigbkfibbaaW.PrintLast Go.Proofs.YtbgoaigbkfibbaaW.PrintMore
attribute [local go_sem] max2_int min2_int max_two min_two max_three min_three max_four min_four   -- for this text's walks alone
set_option linter.unusedVariables false
set_option linter.unusedSimpArgs false

/-! ### spoolref05_Set: function 19 -/
def spoolref05_Set.l0 : Nat → Int → List (S55) → List (S55) → List Int → List (S55) → Int → Option ((List (S55)))
 | 0, _, _, _, _, _, _ => none
 | k + 1, x0, x1, x2, x8, x9, x10 => if (wrap64 (x10 + 1)) < (x8.length : Int) then (if 0 ≤ x10 then (if x10 < (x8.length : Int) then ((spoolref05_holds.f k x0 x1 x2 (rd x8 x10)).bind fun t279 => (if t279 = true then (if (wrap64 ((x9.length : Int) - 1)) ≥ 0 then (if 0 ≤ (wrap64 ((x9.length : Int) - 1)) then (if (wrap64 ((x9.length : Int) - 1)) < (x9.length : Int) then (if ((rd_T55 x9 (wrap64 ((x9.length : Int) - 1))).f1) = (wrap64 ((rd x8 x10) - 1)) then (if 0 ≤ (wrap64 (x10 + 1)) then (spoolref05_Set.l0 k x0 x1 x2 x8 (x9.set ((wrap64 ((x9.length : Int) - 1)) : Int).toNat (⟨(rd_T55 x9 (wrap64 ((x9.length : Int) - 1))).f0, wrap64 ((rd x8 (wrap64 (x10 + 1))) - 1)⟩ : S55)) (wrap64 (x10 + 1))) else (none)) else (if 0 ≤ (wrap64 (x10 + 1)) then (if x9.length < 8796093022208 then (spoolref05_Set.l0 k x0 x1 x2 x8 (x9 ++ [(⟨rd x8 x10, wrap64 ((rd x8 (wrap64 (x10 + 1))) - 1)⟩ : S55)]) (wrap64 (x10 + 1))) else (none)) else (none))) else (none)) else (none)) else (if 0 ≤ (wrap64 (x10 + 1)) then (if x9.length < 8796093022208 then (spoolref05_Set.l0 k x0 x1 x2 x8 (x9 ++ [(⟨rd x8 x10, wrap64 ((rd x8 (wrap64 (x10 + 1))) - 1)⟩ : S55)]) (wrap64 (x10 + 1))) else (none)) else (none))) else (spoolref05_Set.l0 k x0 x1 x2 x8 x9 (wrap64 (x10 + 1))))) else (none)) else (none)) else (some x9)
def spoolref05_Set.f (k : Nat) (a0 : Int) (l1 : List (S55)) (l2 : List (S55)) : Option ((List (S55))) := if ([] : List (S55)).length + l1.length < 8796093022208 then ((some (([] : List (S55)) ++ l1 : List (S55))).bind fun y269 => (if y269.length + l2.length < 8796093022208 then ((spoolref05_ends.f k (y269 ++ l2)).bind fun t275 => (spoolref05_Set.l0 k a0 l1 l2 t275 ([] : List (S55)) 0)) else (none))) else (none)
def spoolref05_Set.T11 : Bool × List (List Nat × List Nat) := (true, [([], []), ([0], [0]), ([1], [1]), ([2], [2]), ([2], [2]), ([3, 4, 2], [2, 3, 4]), ([5, 2], [2, 5]), ([6, 2], [2, 6]), ([2], [2]), ([2], [2]), ([8, 9, 2], [2, 8, 9]), ([10, 2], [2, 10]), ([11, 2], [2, 11]), ([7, 12, 2], [2, 7, 12]), ([2, 13], [2, 13])])
def spoolref05_Set.B11 : List Nat := [0, 1, 3, 7, 7, 31, 63, 127, 7, 7, 775, 1799, 3847, 8191, 16383]
theorem spoolref05_Set.tab11 : rtab .any (opsOf Try.f19 11) = spoolref05_Set.T11 := by kernel_rfl
theorem spoolref05_Set.bits11 : waitsOk spoolref05_Set.T11.2 spoolref05_Set.B11 = true := by kernel_rfl
def spoolref05_Set.T12 : Bool × List (List Nat × List Nat) := (true, [([], []), ([], []), ([], []), ([], []), ([2, 3], [2, 3]), ([4], [4]), ([5], [5]), ([], []), ([], []), ([8], [8]), ([7, 9], [7, 9]), ([10], [10]), ([11], [11]), ([6, 12], [6, 12]), ([0, 1, 0, 1, 2, 3, 4, 5, 6, 7, 8, 9, 10, 11, 12, 13], [0, 1]), ([14, 13, 0, 1, 2, 3, 4, 5, 6, 7, 8, 9, 10, 11, 12, 13], [13, 14])])
def spoolref05_Set.B12 : List Nat := [0, 0, 0, 0, 12, 28, 60, 0, 0, 256, 896, 1920, 3968, 8188, 16383, 32767]
theorem spoolref05_Set.tab12 : rtab .any (opsOf Try.f19 12) = spoolref05_Set.T12 := by kernel_rfl
theorem spoolref05_Set.bits12 : waitsOk spoolref05_Set.T12.2 spoolref05_Set.B12 = true := by kernel_rfl
def spoolref05_Set.T13 : Bool × List (List Nat × List Nat) := (true, [([], []), ([], []), ([], []), ([1, 2], [1, 2]), ([3], [3]), ([], []), ([], []), ([6], [6]), ([5, 7], [5, 7]), ([8], [8]), ([9], [9]), ([4, 10], [4, 10]), ([11], [11]), ([0, 12], [0, 12]), ([13, 13, 0, 1, 2, 3, 4, 5, 6, 7, 8, 9, 10, 11, 12, 13], [0, 13])])
def spoolref05_Set.B13 : List Nat := [0, 0, 0, 6, 14, 0, 0, 64, 224, 480, 992, 2046, 4094, 8191, 16383]
theorem spoolref05_Set.tab13 : rtab .any (opsOf Try.f19 13) = spoolref05_Set.T13 := by kernel_rfl
theorem spoolref05_Set.bits13 : waitsOk spoolref05_Set.T13.2 spoolref05_Set.B13 = true := by kernel_rfl
set_option maxHeartbeats 8000000 in
set_option maxRecDepth 100000 in
theorem spoolref05_Set.calls (k : Nat) (a0 : Int) (A1 : Option Addr) (c1 : Nat) (l1 : List (S55)) (A2 : Option Addr) (c2 : Nat) (l2 : List (S55)) (r : List (S55)) (w : World) (hr1 : Kd.C k55 w A1 l1.length l1) (hc1 : l1.length ≤ c1) (hr2 : Kd.C k55 w A2 l2.length l2) (hc2 : l2.length ≤ c2) (h : spoolref05_Set.f k a0 l1 l2 = some r) :
  Calls Try.prog 19 #[.int .i64 a0, .slice A1 l1.length c1, .slice A2 l2.length c2] w fun e w' => ∃ v0_ : Value, e = .returned (v0_) ∧ Kd.R k55 55 w' w.heap.size (fun _ => True) v0_ r ∧ Below w.heap.size w w' := by
 have hu55 := Try.underlying55
 have HR1 := Aside0.mk hr1
 have HC1 := Aside0.mk hc1
 clear hr1 hc1
 have HR2 := Aside0.mk hr2
 have HC2 := Aside0.mk hc2
 clear hr2 hc2
 have HB := Aside0.mk (Below.refl w.heap.size w)
 have H : (if ([] : List (S55)).length + l1.length < 8796093022208 then ((some (([] : List (S55)) ++ l1 : List (S55))).bind fun y269 => (if y269.length + l2.length < 8796093022208 then ((spoolref05_ends.f k (y269 ++ l2)).bind fun t275 => (spoolref05_Set.l0 k a0 l1 l2 t275 ([] : List (S55)) 0)) else (none))) else (none)) = some r := h
 clear h
 by_cases c4 : ([] : List (S55)).length + l1.length < 8796093022208
 ·rw [if_pos c4] at H
  have LMc4 := Aside0.mk c4
  clear c4
  obtain ⟨y269, hy269⟩ : ∃ y_ : List (S55), y_ = (([] : List (S55)) ++ l1) := ⟨_, rfl⟩
  replace H : (if y269.length + l2.length < 8796093022208 then ((spoolref05_ends.f k (y269 ++ l2)).bind fun t275 => (spoolref05_Set.l0 k a0 l1 l2 t275 ([] : List (S55)) 0)) else (none)) = some r := by first | (rw [hy269]; with_reducible exact H) | (have H2_ := (Option.bind_some _ _).symm.trans H; rw [hy269]; with_reducible exact H2_) | (have H2_ := (Option.bind_some _ _).symm.trans H; with_reducible exact H2_) | with_reducible exact H | (rw [hy269]; exact H) | exact H
  have Ny269 := Aside0.mk hy269
  clear hy269
  by_cases c5 : y269.length + l2.length < 8796093022208
  ·rw [if_pos c5] at H
   have LMc5 := Aside0.mk c5
   clear c5
   obtain ⟨y272, hy272⟩ : ∃ y_ : List (S55), y_ = (y269 ++ l2) := ⟨_, rfl⟩
   replace H : ((spoolref05_ends.f k y272).bind fun t275 => (spoolref05_Set.l0 k a0 l1 l2 t275 ([] : List (S55)) 0)) = some r := by first | (rw [hy272]; with_reducible exact H) | (have H2_ := (Option.bind_some _ _).symm.trans H; rw [hy272]; with_reducible exact H2_) | (have H2_ := (Option.bind_some _ _).symm.trans H; with_reducible exact H2_) | with_reducible exact H | (rw [hy272]; exact H) | exact H
   have Ny272 := Aside0.mk hy272
   clear hy272
   replace H := Option.bind_eq_some_iff.mp H
   obtain ⟨t275, A60, H⟩ := H
   replace H : (spoolref05_Set.l0 k a0 l1 l2 t275 ([] : List (S55)) 0) = some r := H
   have A6 := Aside0.mk A60
   clear A60
   have H' := Aside0.mk H
   clear H
   go_enter Try.func19, Try.ntmps19
   go_wp2_with (first | ((with_reducible refine gate_builtin (b := .append) (xs := #[.tmp 12, .tmp 13]) rfl ?_); at_builtin; refine Kd.R_append_rows k55 (w0 := w) w.heap.size rfl (.tmp 12) (.tmp 13) 37 55 (.agg #[(.int .i64 0), (.int .i64 0)]) 16 rfl Try.underlying37 info55 rfl (by decide) (by omega) (.slice none 0 0) ([] : List (S55)) l1 _ _ _ (fun _ => True) (fun _ => False) rfl rfl ?aO ?aR (fun _ _ h => h) (fun _ h => h.elim) ?aF ?aB ?aS ?aL ?_; (case aR => repeat (first | exact HR1.out | (with_reducible refine Kd.C_alloc ?_ _) | (with_reducible refine Kd.C_drewN ?_ _) | (with_reducible refine Kd.C_drew ?_))); (case aB => exact (blw_ HB.out)); (case aF => exact (fun _ _ => trivial)); (case aO => exact ((Kd.R_nil _ _ _ _ (fun _ => True)))); (case aS => exact (below_size (blw_ HB.out))); (case aL => have := LMc4.out; omega); intro v270 w7 ho hb hg hat; rw [← Ny269.out] at ho; have n0_ := Aside0.mk (hb); have n1_ := Aside0.mk (ho); clear HB; have HB := n0_; have HO271 := n1_; clear n0_ n1_; clear ho hb hg hat) | ((with_reducible refine gate_builtin (b := .append) (xs := #[.tmp 15, .tmp 16]) rfl ?_); at_builtin; refine Kd.R_append_rows k55 (w0 := w) w.heap.size rfl (.tmp 15) (.tmp 16) 37 55 (.agg #[(.int .i64 0), (.int .i64 0)]) 16 rfl Try.underlying37 info55 rfl (by decide) (by omega) v270 y269 l2 _ _ _ (fun _ => True) (fun _ => False) rfl rfl ?aO ?aR (fun _ _ h => h) (fun _ h => h.elim) ?aF ?aB ?aS ?aL ?_; (case aR => repeat (first | exact (Kd.C_below HR2.out HB.out) | (with_reducible refine Kd.C_alloc ?_ _) | (with_reducible refine Kd.C_drewN ?_ _) | (with_reducible refine Kd.C_drew ?_))); (case aB => exact (blw_ HB.out)); (case aF => exact (fun _ _ => trivial)); (case aO => exact (by (with_reducible repeat (first | apply Kd.R_alloc | apply Kd.R_drewN | apply Kd.R_drew)); exact HO271.out)); (case aS => exact (below_size (blw_ HB.out))); (case aL => have := LMc5.out; omega); intro v273 w8 ho hb hg hat; rw [← Ny272.out] at ho; have n0_ := Aside0.mk (hb); have n1_ := Aside0.mk (ho); clear HB; clear HO271; have HB := n0_; have HO274 := n1_; clear n0_ n1_; clear ho hb hg hat; obtain ⟨Ao9, co9, eo9⟩ := Kd.R_slice HO274.out; subst eo9) | ((with_reducible refine gate_callee (f := 38) rfl ?_); refine goesL_ (some 19) rfl rfl Try.func38 (by kernel_rfl) rfl #[.slice Ao9 y272.length co9] rfl lma_ ?_; (with_reducible refine (spoolref05_ends.calls k _ _ y272 t275 _ ?side1 ?side2 A6.out).mono ?_); (case side1 => repeat (first | exact (Kd.R_reads' HO274.out).2.2 | (with_reducible refine Kd.C_alloc ?_ _) | (with_reducible refine Kd.C_drewN ?_ _) | (with_reducible refine Kd.C_drew ?_))); (case side2 => exact (Kd.R_reads' HO274.out).2.1); rintro e w10 ⟨v276, rfl, ho0, hb⟩; refine ⟨_, rfl, ?_⟩; have n0_ := Aside0.mk (Kd.R_below (by (with_reducible repeat (first | apply Kd.R_alloc | apply Kd.R_drewN | apply Kd.R_drew)); exact HO274.out) hb); have n1_ := Aside0.mk (Kd.R_lower ho0 (below_size (blw_ HB.out))); have n2_ := Aside0.mk (below_step (blw_ HB.out) hb); clear HO274; clear HB; have HO274 := n0_; have HO277 := n1_; have HB := n2_; clear n0_ n1_ n2_; (try clear hb); (try clear hb2); (try clear hk); (try clear hi); (try clear ho0)))
   go_loopg [9, 10] k (fun kq v9 v10 w' => ∃ (x9_1 : List (S55)) (x10_1 : Int), v10 = .int .i64 x10_1 ∧ Aside0 (spoolref05_Set.l0 kq a0 l1 l2 t275 x9_1 x10_1 = some r) ∧ Aside0 (kq ≤ k) ∧ Aside0 (Kd.R (Kd.int .i64) 3 w' w.heap.size (fun _ => True) v276 t275) ∧ Aside0 (Kd.R k55 55 w' w.heap.size (fun _ => True) v9 x9_1) ∧ Aside0 (Below w.heap.size w w'))
   case atStart => exact ⟨(([] : List (S55))), (0), fib_, H', ⟨Nat.le_refl _⟩, ⟨by (with_reducible repeat (first | apply Kd.R_alloc | apply Kd.R_drewN | apply Kd.R_drew)); exact HO277.out⟩, ⟨by first | exact Kd.R_nil _ _ _ _ _ | exact Kd.N_nil _ _ _ _ _ | exact Kd.V_nil _ _ _ _ _ | exact Kd.Q_nil _ _ _ _ _ | exact Kd.S_nil _ _ _ _ _⟩, ⟨blw_ HB.out⟩⟩
   case round =>
    clear H'
    try clear c1
    try clear c2
    try clear p2
    try clear c3
    try clear c4
    try clear c5
    obtain ⟨x9_1, x10_1, rfl, HA, HK1, HO_8, HO_9, HB⟩ := hrel
    cases gk with
    | zero => exact absurd HA.out (by simp [spoolref05_Set.l0])
    | succ k1 =>
     have H := HA.out
     clear HA
     simp only [spoolref05_Set.l0] at H
     by_cases c11 : (wrap64 (x10_1 + 1)) < (t275.length : Int)
     ·rw [if_pos c11] at H
      have c11b0 : decide ((wrap64 (x10_1 + 1)) < (t275.length : Int)) = true := decide_eq_true c11
      clear c11
      by_cases c12 : 0 ≤ x10_1
      ·rw [if_pos c12] at H
       have c12b0 : decide (0 ≤ x10_1) = true := decide_eq_true c12
       clear c12
       by_cases c13 : x10_1 < (t275.length : Int)
       ·rw [if_pos c13] at H
        have c13b0 : decide (x10_1 < (t275.length : Int)) = true := decide_eq_true c13
        clear c13
        replace H := Option.bind_eq_some_iff.mp H
        obtain ⟨t279, A140, H⟩ := H
        replace H : (if t279 = true then (if (wrap64 ((x9_1.length : Int) - 1)) ≥ 0 then (if 0 ≤ (wrap64 ((x9_1.length : Int) - 1)) then (if (wrap64 ((x9_1.length : Int) - 1)) < (x9_1.length : Int) then (if ((rd_T55 x9_1 (wrap64 ((x9_1.length : Int) - 1))).f1) = (wrap64 ((rd t275 x10_1) - 1)) then (if 0 ≤ (wrap64 (x10_1 + 1)) then (spoolref05_Set.l0 k1 a0 l1 l2 t275 (x9_1.set ((wrap64 ((x9_1.length : Int) - 1)) : Int).toNat (⟨(rd_T55 x9_1 (wrap64 ((x9_1.length : Int) - 1))).f0, wrap64 ((rd t275 (wrap64 (x10_1 + 1))) - 1)⟩ : S55)) (wrap64 (x10_1 + 1))) else (none)) else (if 0 ≤ (wrap64 (x10_1 + 1)) then (if x9_1.length < 8796093022208 then (spoolref05_Set.l0 k1 a0 l1 l2 t275 (x9_1 ++ [(⟨rd t275 x10_1, wrap64 ((rd t275 (wrap64 (x10_1 + 1))) - 1)⟩ : S55)]) (wrap64 (x10_1 + 1))) else (none)) else (none))) else (none)) else (none)) else (if 0 ≤ (wrap64 (x10_1 + 1)) then (if x9_1.length < 8796093022208 then (spoolref05_Set.l0 k1 a0 l1 l2 t275 (x9_1 ++ [(⟨rd t275 x10_1, wrap64 ((rd t275 (wrap64 (x10_1 + 1))) - 1)⟩ : S55)]) (wrap64 (x10_1 + 1))) else (none)) else (none))) else (spoolref05_Set.l0 k1 a0 l1 l2 t275 x9_1 (wrap64 (x10_1 + 1)))) = some r := H
        have A14 := Aside0.mk A140
        clear A140
        by_cases c15 : t279 = true
        ·subst c15
         have H1 : (if (wrap64 ((x9_1.length : Int) - 1)) ≥ 0 then (if 0 ≤ (wrap64 ((x9_1.length : Int) - 1)) then (if (wrap64 ((x9_1.length : Int) - 1)) < (x9_1.length : Int) then (if ((rd_T55 x9_1 (wrap64 ((x9_1.length : Int) - 1))).f1) = (wrap64 ((rd t275 x10_1) - 1)) then (if 0 ≤ (wrap64 (x10_1 + 1)) then (spoolref05_Set.l0 k1 a0 l1 l2 t275 (x9_1.set ((wrap64 ((x9_1.length : Int) - 1)) : Int).toNat (⟨(rd_T55 x9_1 (wrap64 ((x9_1.length : Int) - 1))).f0, wrap64 ((rd t275 (wrap64 (x10_1 + 1))) - 1)⟩ : S55)) (wrap64 (x10_1 + 1))) else (none)) else (if 0 ≤ (wrap64 (x10_1 + 1)) then (if x9_1.length < 8796093022208 then (spoolref05_Set.l0 k1 a0 l1 l2 t275 (x9_1 ++ [(⟨rd t275 x10_1, wrap64 ((rd t275 (wrap64 (x10_1 + 1))) - 1)⟩ : S55)]) (wrap64 (x10_1 + 1))) else (none)) else (none))) else (none)) else (none)) else (if 0 ≤ (wrap64 (x10_1 + 1)) then (if x9_1.length < 8796093022208 then (spoolref05_Set.l0 k1 a0 l1 l2 t275 (x9_1 ++ [(⟨rd t275 x10_1, wrap64 ((rd t275 (wrap64 (x10_1 + 1))) - 1)⟩ : S55)]) (wrap64 (x10_1 + 1))) else (none)) else (none))) = some r := by rw [if_pos rfl] at H; exact H
         clear H
         have H := H1
         clear H1
         by_cases c16 : (wrap64 ((x9_1.length : Int) - 1)) ≥ 0
         ·rw [if_pos c16] at H
          have c16b0 : decide (0 ≤ (wrap64 ((x9_1.length : Int) - 1))) = true := decide_eq_true c16
          clear c16
          obtain ⟨ji17, hji17⟩ : ∃ j_ : Int, (wrap64 ((x9_1.length : Int) - 1)) = j_ := ⟨_, rfl⟩
          replace H : (if 0 ≤ (ji17) then (if (ji17) < (x9_1.length : Int) then (if ((rd_T55 x9_1 (ji17)).f1) = (wrap64 ((rd t275 x10_1) - 1)) then (if 0 ≤ (wrap64 (x10_1 + 1)) then (spoolref05_Set.l0 k1 a0 l1 l2 t275 (x9_1.set ((ji17) : Int).toNat (⟨(rd_T55 x9_1 (ji17)).f0, wrap64 ((rd t275 (wrap64 (x10_1 + 1))) - 1)⟩ : S55)) (wrap64 (x10_1 + 1))) else (none)) else (if 0 ≤ (wrap64 (x10_1 + 1)) then (if x9_1.length < 8796093022208 then (spoolref05_Set.l0 k1 a0 l1 l2 t275 (x9_1 ++ [(⟨rd t275 x10_1, wrap64 ((rd t275 (wrap64 (x10_1 + 1))) - 1)⟩ : S55)]) (wrap64 (x10_1 + 1))) else (none)) else (none))) else (none)) else (none)) = some r := by first | (rw [hji17] at H; exact H) | (simp only [hji17] at H ⊢; exact H)
          (try rw [hji17] at c16b0)
          (try rw [hji17] at A14)
          have hji17w : (IntKind.i64.wrap ((x9_1.length : Int) - 1)) = ji17 := (i64_w _).trans hji17
          by_cases c18 : 0 ≤ (ji17)
          ·rw [if_pos c18] at H
           have c18b0 : decide (0 ≤ (ji17)) = true := decide_eq_true c18
           clear c18
           by_cases c19 : (ji17) < (x9_1.length : Int)
           ·rw [if_pos c19] at H
            have c19b0 : decide ((ji17) < (x9_1.length : Int)) = true := decide_eq_true c19
            clear c19
            by_cases c20 : ((rd_T55 x9_1 (ji17)).f1) = (wrap64 ((rd t275 x10_1) - 1))
            ·rw [if_pos c20] at H
             have c20b0 : (((rd_T55 x9_1 (ji17)).f1) == (wrap64 ((rd t275 x10_1) - 1))) = true := beq_iff_eq.mpr c20
             have c20b1 : (((rd_T55 x9_1 (ji17)).f1) != (wrap64 ((rd t275 x10_1) - 1))) = false := bne_eq_false_iff_eq.mpr c20
             clear c20
             obtain ⟨ji21, hji21⟩ : ∃ j_ : Int, (wrap64 (x10_1 + 1)) = j_ := ⟨_, rfl⟩
             replace H : (if 0 ≤ (ji21) then (spoolref05_Set.l0 k1 a0 l1 l2 t275 (x9_1.set ((ji17) : Int).toNat (⟨(rd_T55 x9_1 (ji17)).f0, wrap64 ((rd t275 (ji21)) - 1)⟩ : S55)) ji21) else (none)) = some r := by first | (rw [hji21] at H; exact H) | (simp only [hji21] at H ⊢; exact H)
             (try rw [hji21] at c11b0)
             (try rw [hji21] at A14)
             have hji21w : (IntKind.i64.wrap (x10_1 + 1)) = ji21 := (i64_w _).trans hji21
             by_cases c22 : 0 ≤ (ji21)
             ·rw [if_pos c22] at H
              have c22b0 : decide (0 ≤ (ji21)) = true := decide_eq_true c22
              clear c22
              obtain ⟨y284, hy284⟩ : ∃ y_ : List (S55), y_ = (x9_1.set ((ji17) : Int).toNat (⟨(rd_T55 x9_1 (ji17)).f0, wrap64 ((rd t275 (ji21)) - 1)⟩ : S55)) := ⟨_, rfl⟩
              replace H : (spoolref05_Set.l0 k1 a0 l1 l2 t275 y284 ji21) = some r := by first | (rw [hy284]; with_reducible exact H) | (have H2_ := (Option.bind_some _ _).symm.trans H; rw [hy284]; with_reducible exact H2_) | (have H2_ := (Option.bind_some _ _).symm.trans H; with_reducible exact H2_) | with_reducible exact H | (rw [hy284]; exact H) | exact H
              have Ny284 := Aside0.mk hy284
              clear hy284
              have H' := Aside0.mk H
              clear H
              obtain ⟨Ao24, co24, eo24⟩ := Kd.R_slice HO_8.out
              subst eo24
              have p278 : 0 ≤ (x10_1 : Int) := of_decide_eq_true asa_
              have q278 : x10_1 < (t275.length : Int) := of_decide_eq_true asa_
              obtain ⟨ad278, e278, hx278_0⟩ := Kd.at_int (Kd.R_reads' HO_8.out).2.2 x10_1 p278 q278
              cases e278
              replace p278 := eq_true p278
              replace q278 := eq_true q278
              try go_wp2_with (first | ((with_reducible refine gate_callee (f := 39) rfl ?_); refine goesL_ (some 34) rfl rfl Try.func39 (by kernel_rfl) rfl #[.int .i64 a0, .slice A1 l1.length c1, .slice A2 l2.length c2, .int .i64 (rd t275 x10_1)] rfl lma_ ?_; (with_reducible refine (spoolref05_holds.calls k1 a0 _ _ l1 _ _ l2 (rd t275 x10_1) true _ ?side1 ?side2 ?side3 ?side4 A14.out).mono ?_); (case side1 => repeat (first | exact (Kd.C_below HR1.out HB.out) | (with_reducible refine Kd.C_alloc ?_ _) | (with_reducible refine Kd.C_drewN ?_ _) | (with_reducible refine Kd.C_drew ?_))); (case side2 => exact HC1.out); (case side3 => repeat (first | exact (Kd.C_below HR2.out HB.out) | (with_reducible refine Kd.C_alloc ?_ _) | (with_reducible refine Kd.C_drewN ?_ _) | (with_reducible refine Kd.C_drew ?_))); (case side4 => exact HC2.out); rintro e w' ⟨rfl, ⟨nd, rfl⟩⟩; refine ⟨_, rfl, ?_⟩; (try (rw [drewN_self wr]; generalize hq_ : World.drewN wr _ = wr; have n0_ : Aside0 (Kd.R (Kd.int .i64) 3 wr w.heap.size (fun _ => True) (.slice (some ad278) t275.length co24) t275) := ⟨by rw [← hq_]; exact (by (with_reducible repeat (first | apply Kd.R_alloc | apply Kd.R_drewN | apply Kd.R_drew)); exact HO_8.out)⟩; have n1_ : Aside0 (Kd.R k55 55 wr w.heap.size (fun _ => True) u9 x9_1) := ⟨by rw [← hq_]; exact (by (with_reducible repeat (first | apply Kd.R_alloc | apply Kd.R_drewN | apply Kd.R_drew)); exact HO_9.out)⟩; have n2_ : Aside0 (Below w.heap.size w wr) := ⟨by rw [← hq_]; exact (blw_ HB.out)⟩; clear HO_8 HO_9 HB hq_; have HO_8 := n0_; have HO_9 := n1_; have HB := n2_; clear n0_ n1_ n2_)); obtain ⟨Ao25, co25, eo25⟩ := Kd.R_slice HO_9.out; subst eo25))
              have n0_ := Aside0.mk (Kd.R_drew HO_8.out)
              have n1_ := Aside0.mk (Kd.R_drew HO_9.out)
              have n2_ := Aside0.mk (below_drew1 HB.out)
              clear HO_8
              clear HO_9
              clear HB
              have HO_8 := n0_
              have HO_9 := n1_
              have HB := n2_
              clear n0_ n1_ n2_
              have p280 : 0 ≤ ((ji17) : Int) := of_decide_eq_true asa_
              have q280 : (ji17) < (x9_1.length : Int) := of_decide_eq_true asa_
              obtain ⟨ad280, e280, hx280_0, hx280_1⟩ := at_T55 (Kd.R_reads' HO_9.out).2.2 (ji17) p280 q280
              cases e280
              replace p280 := eq_true p280
              replace q280 := eq_true q280
              have p281 : 0 ≤ (x10_1 : Int) := of_decide_eq_true asa_
              have q281 : x10_1 < (t275.length : Int) := of_decide_eq_true asa_
              obtain ⟨ad281, e281, hx281_0⟩ := Kd.at_int (Kd.R_reads' HO_8.out).2.2 x10_1 p281 q281
              obtain rfl : ad278 = ad281 := (by injection e281)
              replace p281 := eq_true p281
              replace q281 := eq_true q281
              refine start_ (n := 15) (S := fun w' => w'.cell? (ad280.add (((ji17)).toNat * 2)) = some (.int .i64 ((rd_T55 x9_1 (ji17)).f0)) ∧ w'.cell? ⟨(ad280.add (((ji17)).toNat * 2)).block, (ad280.add (((ji17)).toNat * 2)).off + 1, none⟩ = some (.int .i64 ((rd_T55 x9_1 (ji17)).f1)) ∧ w'.cell? (ad278.add (x10_1).toNat) = some (.int .i64 (rd t275 x10_1))) (ds := []) #[false, false, false, false, false, false, false, false, false, false, false, false, false, false, false] (by kernel_rfl) rfl rfl ⟨hx280_0, hx280_1, hx281_0⟩ (fun hHeld => ?_); refine with_tabW spoolref05_Set.tab11 spoolref05_Set.bits11 (fun HT_ HW_ => ?_)
              generalize wr.drew = w26 at HO_8 HO_9 HB hx280_0 hx280_1 hx281_0 hHeld ⊢
              refine pq_ (i := 0) (n := 39) (bA 15 1) (any_of HT_.out (by kernel_rfl)) ?_
              refine pq_ (i := 1) (n := 40) (bA 15 3) (any_of HT_.out (by kernel_rfl)) ?_
              refine pq_ (i := 2) (n := 41) (bA 15 7) (any_of HT_.out (by kernel_rfl)) ?_
              refine pq_ (i := 3) (n := 42) (bA 15 15) (any_of HT_.out (by kernel_rfl)) ?_
              refine pq_ (i := 4) (n := 43) (bA 15 31) (any_of HT_.out (by kernel_rfl)) ?_
              refine pq_ (i := 5) (n := 44) (bA 15 63) (any_of HT_.out (by kernel_rfl)) ?_
              refine pq_ (i := 6) (n := 45) (bA 15 127) (any_of HT_.out (by kernel_rfl)) ?_
              refine pq_ (i := 8) (n := 47) (bA 15 383) (any_of HT_.out (by kernel_rfl)) ?_
              refine pq_ (i := 9) (n := 48) (bA 15 895) (any_of HT_.out (by kernel_rfl)) ?_
              refine pq_ (i := 10) (n := 49) (bA 15 1919) (any_of HT_.out (by kernel_rfl)) ?_
              refine take_ (i := 7) (N := some 46) (v := ?_) (a' := ?_) (bA 15 2047) rfl rfl (take_ofW HT_.out HW_.out (by kernel_rfl)) (fun _ _ _ h => h) (Or.inl ⟨by rfl, ?_⟩) hHeld ?_ ?_
              rotate_left
              ·rintro w' ⟨s0, s1, s2⟩
               go_simp
               with_reducible rfl
              rotate_left
              ·exact nrm_
              refine take_ (i := 11) (N := some 50) (v := ?_) (a' := ?_) (bA 15 4095) rfl rfl (take_ofW HT_.out HW_.out (by kernel_rfl)) (fun _ _ _ h => h) (Or.inl ⟨by rfl, ?_⟩) hHeld ?_ ?_
              rotate_left
              ·rintro w' ⟨s0, s1, s2⟩
               go_simp
               with_reducible rfl
              rotate_left
              ·exact nrm_
              refine pq_ (i := 12) (n := 51) (bA 15 8191) (any_of HT_.out (by kernel_rfl)) ?_
              refine pq_ (i := 13) (n := 52) (bA 15 16383) (any_of HT_.out (by kernel_rfl)) ?_
              refine pq_ (i := 14) (n := 53) (bA 15 32767) (any_of HT_.out (by kernel_rfl)) ?_
              refine done_ (done_of HT_.out (by kernel_rfl)) ?_
              try go_wp2
              have n0_ := Aside0.mk (Kd.R_drew HO_8.out)
              have n1_ := Aside0.mk (Kd.R_drew HO_9.out)
              have n2_ := Aside0.mk (below_drew1 HB.out)
              clear HO_8
              clear HO_9
              clear HB
              have HO_8 := n0_
              have HO_9 := n1_
              have HB := n2_
              clear n0_ n1_ n2_
              have p282 : 0 ≤ ((ji17) : Int) := of_decide_eq_true asa_
              have q282 : (ji17) < (x9_1.length : Int) := of_decide_eq_true asa_
              obtain ⟨ad282, e282, hx282_0, hx282_1⟩ := at_T55 (Kd.R_reads' HO_9.out).2.2 (ji17) p282 q282
              obtain rfl : ad280 = ad282 := (by injection e282)
              replace p282 := eq_true p282
              replace q282 := eq_true q282
              have p283 : 0 ≤ ((ji21) : Int) := of_decide_eq_true asa_
              have q283 : (ji21) < (t275.length : Int) := of_decide_eq_true asa_
              obtain ⟨ad283, e283, hx283_0⟩ := Kd.at_int (Kd.R_reads' HO_8.out).2.2 (ji21) p283 q283
              obtain rfl : ad278 = ad283 := (by injection e283)
              replace p283 := eq_true p283
              replace q283 := eq_true q283
              have p23 : 0 ≤ ((ji17) : Int) := of_decide_eq_true asa_
              have q23 : ((ji17) : Int) < ((x9_1.length : Int) : Int) := of_decide_eq_true asa_
              obtain ⟨go23, co23, eo23, gb23, gl23, cl23, HG23⟩ := Kd.R_form HO_9.out (by omega)
              (first | cases eo23 | (injection eo23 with ea_ en_ ec_; (first | subst ea_ | (injection ea_ with ea_; subst ea_)); subst ec_; clear en_))
              have GB23 := Aside0.mk gb23
              have GG23 := Aside0.mk HG23
              clear gb23 gl23 HG23
              (first | simp only [add_plain] at hx280_0 | skip)
              (first | simp only [add_plain] at hx280_1 | skip)
              (first | simp only [add_plain] at hx282_0 | skip)
              (first | simp only [add_plain] at hx282_1 | skip)
              obtain ⟨ce23, hcl23, hM23, hcc23, hfr23⟩ := Kd.R_elem HO_9.out z55 ((ji17) : Int) p23 q23
              obtain rfl := k55_openM hM23
              have hx23_0 : World.cell? _ ⟨go23, ((ji17) : Int).toNat * 2, none⟩ = some (.int .i64 ((rd_T55 x9_1 (ji17)).f0)) := hcc23 0 _ rfl
              have hx23_1 : World.cell? _ ⟨go23, ((ji17) : Int).toNat * 2 + 1, none⟩ = some (.int .i64 ((rd_T55 x9_1 (ji17)).f1)) := hcc23 1 _ rfl
              have hf23_0 : World.frozen? _ ⟨go23, ((ji17) : Int).toNat * 2, none⟩ = false := hfr23 0
              have hf23_1 : World.frozen? _ ⟨go23, ((ji17) : Int).toNat * 2 + 1, none⟩ = false := hfr23 1
              clear hcl23 hcc23 hfr23 hM23
              replace p23 := eq_true p23
              replace q23 := eq_true q23
              obtain ⟨ce28, hcl28, hM28, hcc28, hfr28⟩ := Kd.R_elem HO_9.out z55 ((ji17) : Int) (of_decide_eq_true asa_) (by have h_ : ((ji17) : Int) < ((x9_1.length : Int) : Int) := of_decide_eq_true asa_; first | exact h_ | (have e_ := (Kd.R_reads' HO_9.out).1; omega) | simpa using h_)
              obtain rfl := k55_openM hM28
              have HP28 := (Kd.R_seg HO_9.out ((ji17) : Int) (of_decide_eq_true asa_) (by have h_ : ((ji17) : Int) < ((x9_1.length : Int) : Int) := of_decide_eq_true asa_; first | exact h_ | (have e_ := (Kd.R_reads' HO_9.out).1; omega) | simpa using h_) (seg := [.int .i64 ((rd_T55 x9_1 (ji17)).f0), .int .i64 (wrap64 ((rd t275 (ji21)) - 1))]) (j := 0) hcl28 hcc28 (show 2 ≤ 2 from by decide) (x' := (⟨(rd_T55 x9_1 (ji17)).f0, wrap64 ((rd t275 (ji21)) - 1)⟩ : S55)) (k55_mkM _ _ _ (⟨(rd_T55 x9_1 (ji17)).f0, wrap64 ((rd t275 (ji21)) - 1)⟩ : S55) ) (fun _ hk => hk)).1
              rw [← Ny284.out] at HP28
              have HQ28 := Aside0.mk HP28
              clear hcl28 hcc28 hfr28 hM28 HP28
              refine start_ (n := 16) (S := fun w' => w'.cell? ⟨go23, (((ji17)).toNat * 2), none⟩ = some (.int .i64 ((rd_T55 x9_1 (ji17)).f0)) ∧ w'.cell? ⟨go23, (((ji17)).toNat * 2) + 1, none⟩ = some (.int .i64 ((rd_T55 x9_1 (ji17)).f1)) ∧ w'.cell? (ad278.add ((ji21)).toNat) = some (.int .i64 (rd t275 (ji21)))) (ds := [15]) #[false, false, false, false, false, false, false, false, false, false, false, false, false, false, false, false] (by kernel_rfl) rfl rfl ⟨hx282_0, hx282_1, hx283_0⟩ (fun hHeld => ?_); refine with_tabW spoolref05_Set.tab12 spoolref05_Set.bits12 (fun HT_ HW_ => ?_)
              generalize w26.drew = w27 at HO_8 HO_9 HB GG23 HQ28 hf23_0 hf23_1 hx23_0 hx23_1 hx280_0 hx280_1 hx282_0 hx282_1 hx283_0 hHeld ⊢
              refine pq_ (i := 0) (n := 54) (bA 16 1) (any_of HT_.out (by kernel_rfl)) ?_
              refine pq_ (i := 1) (n := 55) (bA 16 3) (any_of HT_.out (by kernel_rfl)) ?_
              refine pq_ (i := 2) (n := 56) (bA 16 7) (any_of HT_.out (by kernel_rfl)) ?_
              refine pq_ (i := 3) (n := 57) (bA 16 15) (any_of HT_.out (by kernel_rfl)) ?_
              refine pq_ (i := 4) (n := 58) (bA 16 31) (any_of HT_.out (by kernel_rfl)) ?_
              refine pq_ (i := 5) (n := 59) (bA 16 63) (any_of HT_.out (by kernel_rfl)) ?_
              refine pq_ (i := 7) (n := 61) (bA 16 191) (any_of HT_.out (by kernel_rfl)) ?_
              refine pq_ (i := 8) (n := 62) (bA 16 447) (any_of HT_.out (by kernel_rfl)) ?_
              refine pq_ (i := 9) (n := 63) (bA 16 959) (any_of HT_.out (by kernel_rfl)) ?_
              refine pq_ (i := 10) (n := 64) (bA 16 1983) (any_of HT_.out (by kernel_rfl)) ?_
              refine take_ (i := 6) (N := some 60) (v := ?_) (a' := ?_) (bA 16 2047) rfl rfl (take_ofW HT_.out HW_.out (by kernel_rfl)) (fun _ _ _ h => h) (Or.inl ⟨by rfl, ?_⟩) hHeld ?_ ?_
              rotate_left
              ·rintro w' ⟨s0, s1, s2⟩
               go_simp
               with_reducible rfl
              rotate_left
              ·exact nrm_
              refine take_ (i := 11) (N := some 65) (v := ?_) (a' := ?_) (bA 16 4095) rfl rfl (take_ofW HT_.out HW_.out (by kernel_rfl)) (fun _ _ _ h => h) (Or.inl ⟨by rfl, ?_⟩) hHeld ?_ ?_
              rotate_left
              ·rintro w' ⟨s0, s1, s2⟩
               go_simp
               with_reducible rfl
              rotate_left
              ·exact nrm_
              refine pq_ (i := 12) (n := 66) (bA 16 8191) (any_of HT_.out (by kernel_rfl)) ?_
              refine pq_ (i := 13) (n := 67) (bA 16 16383) (any_of HT_.out (by kernel_rfl)) ?_
              refine pq_ (i := 14) (n := 68) (bA 16 32767) (any_of HT_.out (by kernel_rfl)) ?_
              refine last_ (i := 15) (N := none) #[true, true, true, true, true, true, true, true, true, true, true, true, true, true, true, true] rfl rfl (one_of HT_.out (by kernel_rfl)) (by decide) (fun K hK => ?_)
              refine skip_ (w1 := ?_) (by rfl) rfl ?_ ?_
              rotate_left
              ·go_simp
               rfl
              refine hK.out _ _ ?_
              clear hK K
              refine done_ (done_of HT_.out (by kernel_rfl)) ?_
              try go_wp2
              go_roundg k1
              case measure => have := HK1.out; omega
              case rel => exact ⟨(y284), (ji21), (by first | rfl | (simp; done) | (simp only [← hji21] <;> (first | rfl | simp)) | (simp [*]; done)), H', ⟨by have := HK1.out; omega⟩, ⟨by (with_reducible repeat (first | apply Kd.R_alloc | apply Kd.R_drewN | apply Kd.R_drew)); exact Kd.R_mono (Kd.R_far (p := ⟨go23, ((ji17) : Int).toNat * 2 + 1, none⟩) (Kd.R_far (p := ⟨go23, ((ji17) : Int).toNat * 2, none⟩) (Kd.R_types HO_8.out GG23.out (by decide)) (fun _ hk => hk.2) (.int .i64 ((rd_T55 x9_1 (ji17)).f0))) (fun _ hk => hk.2) (.int .i64 (wrap64 ((rd t275 (ji21)) - 1)))) (fun _ hk => trivial)⟩, ⟨by (with_reducible repeat (first | apply Kd.R_alloc | apply Kd.R_drewN | apply Kd.R_drew)); exact HQ28.out⟩, ⟨bla_ HB.out⟩⟩
             ·rw [if_neg c22] at H
              exact absurd H (by simp)
            ·rw [if_neg c20] at H
             have c20b0 : (((rd_T55 x9_1 (ji17)).f1) == (wrap64 ((rd t275 x10_1) - 1))) = false := beq_eq_false_iff_ne.mpr c20
             have c20b1 : (((rd_T55 x9_1 (ji17)).f1) != (wrap64 ((rd t275 x10_1) - 1))) = true := bne_iff_ne.mpr c20
             obtain ⟨ji29, hji29⟩ : ∃ j_ : Int, (wrap64 (x10_1 + 1)) = j_ := ⟨_, rfl⟩
             replace H : (if 0 ≤ (ji29) then (if x9_1.length < 8796093022208 then (spoolref05_Set.l0 k1 a0 l1 l2 t275 (x9_1 ++ [(⟨rd t275 x10_1, wrap64 ((rd t275 (ji29)) - 1)⟩ : S55)]) ji29) else (none)) else (none)) = some r := by first | (rw [hji29] at H; exact H) | (simp only [hji29] at H ⊢; exact H)
             (try rw [hji29] at c11b0)
             (try rw [hji29] at A14)
             have hji29w : (IntKind.i64.wrap (x10_1 + 1)) = ji29 := (i64_w _).trans hji29
             by_cases c30 : 0 ≤ (ji29)
             ·rw [if_pos c30] at H
              have c30b0 : decide (0 ≤ (ji29)) = true := decide_eq_true c30
              clear c30
              by_cases c31 : x9_1.length < 8796093022208
              ·rw [if_pos c31] at H
               have LMc31 := Aside0.mk c31
               clear c31
               obtain ⟨y287, hy287⟩ : ∃ y_ : List (S55), y_ = (x9_1 ++ [(⟨rd t275 x10_1, wrap64 ((rd t275 (ji29)) - 1)⟩ : S55)]) := ⟨_, rfl⟩
               replace H : (spoolref05_Set.l0 k1 a0 l1 l2 t275 y287 ji29) = some r := by first | (rw [hy287]; with_reducible exact H) | (have H2_ := (Option.bind_some _ _).symm.trans H; rw [hy287]; with_reducible exact H2_) | (have H2_ := (Option.bind_some _ _).symm.trans H; with_reducible exact H2_) | with_reducible exact H | (rw [hy287]; exact H) | exact H
               have Ny287 := Aside0.mk hy287
               clear hy287
               have H' := Aside0.mk H
               clear H
               obtain ⟨Ao32, co32, eo32⟩ := Kd.R_slice HO_8.out
               subst eo32
               have p278 : 0 ≤ (x10_1 : Int) := of_decide_eq_true asa_
               have q278 : x10_1 < (t275.length : Int) := of_decide_eq_true asa_
               obtain ⟨ad278, e278, hx278_0⟩ := Kd.at_int (Kd.R_reads' HO_8.out).2.2 x10_1 p278 q278
               cases e278
               replace p278 := eq_true p278
               replace q278 := eq_true q278
               try go_wp2_with (first | ((with_reducible refine gate_callee (f := 39) rfl ?_); refine goesL_ (some 34) rfl rfl Try.func39 (by kernel_rfl) rfl #[.int .i64 a0, .slice A1 l1.length c1, .slice A2 l2.length c2, .int .i64 (rd t275 x10_1)] rfl lma_ ?_; (with_reducible refine (spoolref05_holds.calls k1 a0 _ _ l1 _ _ l2 (rd t275 x10_1) true _ ?side1 ?side2 ?side3 ?side4 A14.out).mono ?_); (case side1 => repeat (first | exact (Kd.C_below HR1.out HB.out) | (with_reducible refine Kd.C_alloc ?_ _) | (with_reducible refine Kd.C_drewN ?_ _) | (with_reducible refine Kd.C_drew ?_))); (case side2 => exact HC1.out); (case side3 => repeat (first | exact (Kd.C_below HR2.out HB.out) | (with_reducible refine Kd.C_alloc ?_ _) | (with_reducible refine Kd.C_drewN ?_ _) | (with_reducible refine Kd.C_drew ?_))); (case side4 => exact HC2.out); rintro e w' ⟨rfl, ⟨nd, rfl⟩⟩; refine ⟨_, rfl, ?_⟩; obtain ⟨Ao33, co33, eo33⟩ := Kd.R_slice HO_9.out; subst eo33))
               (try (rw [drewN_self wr]; generalize hq_ : World.drewN wr _ = wr; have n0_ : Aside0 (Kd.R (Kd.int .i64) 3 wr w.heap.size (fun _ => True) (.slice (some ad278) t275.length co32) t275) := ⟨by rw [← hq_]; exact (by (with_reducible repeat (first | apply Kd.R_alloc | apply Kd.R_drewN | apply Kd.R_drew)); exact HO_8.out)⟩; have n1_ : Aside0 (Kd.R k55 55 wr w.heap.size (fun _ => True) (.slice Ao33 x9_1.length co33) x9_1) := ⟨by rw [← hq_]; exact (by (with_reducible repeat (first | apply Kd.R_alloc | apply Kd.R_drewN | apply Kd.R_drew)); exact HO_9.out)⟩; have n2_ : Aside0 (Below w.heap.size w wr) := ⟨by rw [← hq_]; exact (blw_ HB.out)⟩; clear HO_8 HO_9 HB hq_; have HO_8 := n0_; have HO_9 := n1_; have HB := n2_; clear n0_ n1_ n2_))
               have n0_ := Aside0.mk (Kd.R_drew HO_8.out)
               have n1_ := Aside0.mk (Kd.R_drew HO_9.out)
               have n2_ := Aside0.mk (below_drew1 HB.out)
               clear HO_8
               clear HO_9
               clear HB
               have HO_8 := n0_
               have HO_9 := n1_
               have HB := n2_
               clear n0_ n1_ n2_
               have p280 : 0 ≤ ((ji17) : Int) := of_decide_eq_true asa_
               have q280 : (ji17) < (x9_1.length : Int) := of_decide_eq_true asa_
               obtain ⟨ad280, e280, hx280_0, hx280_1⟩ := at_T55 (Kd.R_reads' HO_9.out).2.2 (ji17) p280 q280
               cases e280
               replace p280 := eq_true p280
               replace q280 := eq_true q280
               have p281 : 0 ≤ (x10_1 : Int) := of_decide_eq_true asa_
               have q281 : x10_1 < (t275.length : Int) := of_decide_eq_true asa_
               obtain ⟨ad281, e281, hx281_0⟩ := Kd.at_int (Kd.R_reads' HO_8.out).2.2 x10_1 p281 q281
               obtain rfl : ad278 = ad281 := (by injection e281)
               replace p281 := eq_true p281
               replace q281 := eq_true q281
               refine start_ (n := 15) (S := fun w' => w'.cell? (ad280.add (((ji17)).toNat * 2)) = some (.int .i64 ((rd_T55 x9_1 (ji17)).f0)) ∧ w'.cell? ⟨(ad280.add (((ji17)).toNat * 2)).block, (ad280.add (((ji17)).toNat * 2)).off + 1, none⟩ = some (.int .i64 ((rd_T55 x9_1 (ji17)).f1)) ∧ w'.cell? (ad278.add (x10_1).toNat) = some (.int .i64 (rd t275 x10_1))) (ds := []) #[false, false, false, false, false, false, false, false, false, false, false, false, false, false, false] (by kernel_rfl) rfl rfl ⟨hx280_0, hx280_1, hx281_0⟩ (fun hHeld => ?_); refine with_tabW spoolref05_Set.tab11 spoolref05_Set.bits11 (fun HT_ HW_ => ?_)
               generalize wr.drew = w34 at HO_8 HO_9 HB hx280_0 hx280_1 hx281_0 hHeld ⊢
               refine pq_ (i := 0) (n := 39) (bA 15 1) (any_of HT_.out (by kernel_rfl)) ?_
               refine pq_ (i := 1) (n := 40) (bA 15 3) (any_of HT_.out (by kernel_rfl)) ?_
               refine pq_ (i := 2) (n := 41) (bA 15 7) (any_of HT_.out (by kernel_rfl)) ?_
               refine pq_ (i := 3) (n := 42) (bA 15 15) (any_of HT_.out (by kernel_rfl)) ?_
               refine pq_ (i := 4) (n := 43) (bA 15 31) (any_of HT_.out (by kernel_rfl)) ?_
               refine pq_ (i := 5) (n := 44) (bA 15 63) (any_of HT_.out (by kernel_rfl)) ?_
               refine pq_ (i := 6) (n := 45) (bA 15 127) (any_of HT_.out (by kernel_rfl)) ?_
               refine pq_ (i := 8) (n := 47) (bA 15 383) (any_of HT_.out (by kernel_rfl)) ?_
               refine pq_ (i := 9) (n := 48) (bA 15 895) (any_of HT_.out (by kernel_rfl)) ?_
               refine pq_ (i := 10) (n := 49) (bA 15 1919) (any_of HT_.out (by kernel_rfl)) ?_
               refine take_ (i := 7) (N := some 46) (v := ?_) (a' := ?_) (bA 15 2047) rfl rfl (take_ofW HT_.out HW_.out (by kernel_rfl)) (fun _ _ _ h => h) (Or.inl ⟨by rfl, ?_⟩) hHeld ?_ ?_
               rotate_left
               ·rintro w' ⟨s0, s1, s2⟩
                go_simp
                with_reducible rfl
               rotate_left
               ·exact nrm_
               refine take_ (i := 11) (N := some 50) (v := ?_) (a' := ?_) (bA 15 4095) rfl rfl (take_ofW HT_.out HW_.out (by kernel_rfl)) (fun _ _ _ h => h) (Or.inl ⟨by rfl, ?_⟩) hHeld ?_ ?_
               rotate_left
               ·rintro w' ⟨s0, s1, s2⟩
                go_simp
                with_reducible rfl
               rotate_left
               ·exact nrm_
               refine pq_ (i := 12) (n := 51) (bA 15 8191) (any_of HT_.out (by kernel_rfl)) ?_
               refine pq_ (i := 13) (n := 52) (bA 15 16383) (any_of HT_.out (by kernel_rfl)) ?_
               refine pq_ (i := 14) (n := 53) (bA 15 32767) (any_of HT_.out (by kernel_rfl)) ?_
               refine done_ (done_of HT_.out (by kernel_rfl)) ?_
               try go_wp2
               have n0_ := Aside0.mk (Kd.R_drew HO_8.out)
               have n1_ := Aside0.mk (Kd.R_drew HO_9.out)
               have n2_ := Aside0.mk (below_drew1 HB.out)
               clear HO_8
               clear HO_9
               clear HB
               have HO_8 := n0_
               have HO_9 := n1_
               have HB := n2_
               clear n0_ n1_ n2_
               have p285 : 0 ≤ (x10_1 : Int) := of_decide_eq_true asa_
               have q285 : x10_1 < (t275.length : Int) := of_decide_eq_true asa_
               obtain ⟨ad285, e285, hx285_0⟩ := Kd.at_int (Kd.R_reads' HO_8.out).2.2 x10_1 p285 q285
               obtain rfl : ad278 = ad285 := (by injection e285)
               replace p285 := eq_true p285
               replace q285 := eq_true q285
               have p286 : 0 ≤ ((ji29) : Int) := of_decide_eq_true asa_
               have q286 : (ji29) < (t275.length : Int) := of_decide_eq_true asa_
               obtain ⟨ad286, e286, hx286_0⟩ := Kd.at_int (Kd.R_reads' HO_8.out).2.2 (ji29) p286 q286
               obtain rfl : ad278 = ad286 := (by injection e286)
               replace p286 := eq_true p286
               replace q286 := eq_true q286
               refine start_ (n := 15) (S := fun w' => w'.cell? (ad278.add (x10_1).toNat) = some (.int .i64 (rd t275 x10_1)) ∧ w'.cell? (ad278.add ((ji29)).toNat) = some (.int .i64 (rd t275 (ji29)))) (ds := [12, 13]) #[false, false, false, false, false, false, false, false, false, false, false, false, false, false, false] (by kernel_rfl) rfl rfl ⟨hx285_0, hx286_0⟩ (fun hHeld => ?_); refine with_tabW spoolref05_Set.tab13 spoolref05_Set.bits13 (fun HT_ HW_ => ?_)
               generalize w34.drew = w35 at HO_8 HO_9 HB hx285_0 hx286_0 hHeld ⊢
               refine pq_ (i := 0) (n := 69) (bA 15 1) (any_of HT_.out (by kernel_rfl)) ?_
               refine pq_ (i := 1) (n := 70) (bA 15 3) (any_of HT_.out (by kernel_rfl)) ?_
               refine pq_ (i := 2) (n := 71) (bA 15 7) (any_of HT_.out (by kernel_rfl)) ?_
               refine pq_ (i := 3) (n := 72) (bA 15 15) (any_of HT_.out (by kernel_rfl)) ?_
               refine pq_ (i := 5) (n := 74) (bA 15 47) (any_of HT_.out (by kernel_rfl)) ?_
               refine pq_ (i := 6) (n := 75) (bA 15 111) (any_of HT_.out (by kernel_rfl)) ?_
               refine pq_ (i := 7) (n := 76) (bA 15 239) (any_of HT_.out (by kernel_rfl)) ?_
               refine pq_ (i := 8) (n := 77) (bA 15 495) (any_of HT_.out (by kernel_rfl)) ?_
               refine take_ (i := 4) (N := some 73) (v := ?_) (a' := ?_) (bA 15 511) rfl rfl (take_ofW HT_.out HW_.out (by kernel_rfl)) (fun _ _ _ h => h) (Or.inl ⟨by rfl, ?_⟩) hHeld ?_ ?_
               rotate_left
               ·rintro w' ⟨s0, s1⟩
                go_simp
                with_reducible rfl
               rotate_left
               ·exact nrm_
               refine take_ (i := 9) (N := some 78) (v := ?_) (a' := ?_) (bA 15 1023) rfl rfl (take_ofW HT_.out HW_.out (by kernel_rfl)) (fun _ _ _ h => h) (Or.inl ⟨by rfl, ?_⟩) hHeld ?_ ?_
               rotate_left
               ·rintro w' ⟨s0, s1⟩
                go_simp
                with_reducible rfl
               rotate_left
               ·exact nrm_
               refine pq_ (i := 10) (n := 79) (bA 15 2047) (any_of HT_.out (by kernel_rfl)) ?_
               refine pq_ (i := 11) (n := 80) (bA 15 4095) (any_of HT_.out (by kernel_rfl)) ?_
               refine last_ (i := 12) (N := some 81) #[true, true, true, true, true, true, true, true, true, true, true, true, true, false, false] rfl rfl (one_of HT_.out (by kernel_rfl)) (by decide) (fun K hK => ?_)
               refine value_ (w1 := ?_) (v := ?_) (by rfl) rfl ?_ ?_
               rotate_left 2
               ·go_simp
                constructor
                ·rfl
                ·rfl
               refine hK.out _ _ ?_
               clear hK K
               refine norm_ (a' := ?_) ?_ ?_
               rotate_left
               ·show Act.put _ (some 81) _ = _
                exact nrm_
               refine last_ (i := 13) (N := some 82) #[true, true, true, true, true, true, true, true, true, true, true, true, true, true, false] rfl rfl (one_of HT_.out (by kernel_rfl)) (by decide) (fun K hK => ?_)
               refine Kd.R_append_step k55 (w0 := w) w.heap.size (by rfl) (.tmp 69) (.tmp 81) 37 55 (.agg #[(.int .i64 0), (.int .i64 0)]) 16 rfl Try.underlying37 info55 rfl (by decide) (by omega) (.slice (some ad280) x9_1.length co33) x9_1 (⟨rd t275 x10_1, wrap64 ((rd t275 (ji29)) - 1)⟩ : S55) [.int .i64 (rd t275 x10_1), .int .i64 (wrap64 ((rd t275 (ji29)) - 1))] (fun _ => True) (fun _ => False) rfl rfl ?aP (fun _ hk => hk.elim) ?aF ?aO ?aB ?aS ?aL ?_
               (case aP => exact k55_mkM _ _ _ (⟨rd t275 x10_1, wrap64 ((rd t275 (ji29)) - 1)⟩ : S55))
               (case aB => exact (blw_ HB.out))
               (case aF => exact (fun _ _ => trivial))
               (case aO => exact (by (with_reducible repeat (first | apply Kd.R_alloc | apply Kd.R_drewN | apply Kd.R_drew)); exact HO_9.out))
               (case aS => exact (below_size (blw_ HB.out)))
               (case aL => have := LMc31.out; omega)
               intro v288 w36 ho hb hg hat
               rw [← Ny287.out] at ho
               have n0_ := Aside0.mk (Kd.R_over' (by (with_reducible repeat (first | apply Kd.R_alloc | apply Kd.R_drewN | apply Kd.R_drew)); exact HO_8.out) (Kd.R_typed (by (with_reducible repeat (first | apply Kd.R_alloc | apply Kd.R_drewN | apply Kd.R_drew)); exact HO_9.out)) (by decide) hg)
               have n1_ := Aside0.mk (hb)
               have n2_ := Aside0.mk (ho)
               clear HO_8
               clear HB
               clear HO_9
               have HO_8 := n0_
               have HB := n1_
               have HO289 := n2_
               clear n0_ n1_ n2_
               clear ho hb hg hat
               refine hK.out _ _ ?_
               clear hK K
               refine norm_ (a' := ?_) ?_ ?_
               rotate_left
               ·show Act.put _ (some 82) _ = _
                exact nrm_
               refine pq_ (i := 14) (n := 9) (bA 15 32767) (any_of HT_.out (by kernel_rfl)) ?_
               refine done_ (done_of HT_.out (by kernel_rfl)) ?_
               try go_wp2
               go_roundg k1
               case measure => have := HK1.out; omega
               case rel => exact ⟨(y287), (ji29), (by first | rfl | (simp; done) | (simp only [← hji29] <;> (first | rfl | simp)) | (simp [*]; done)), H', ⟨by have := HK1.out; omega⟩, ⟨by (with_reducible repeat (first | apply Kd.R_alloc | apply Kd.R_drewN | apply Kd.R_drew)); exact HO_8.out⟩, ⟨by (with_reducible repeat (first | apply Kd.R_alloc | apply Kd.R_drewN | apply Kd.R_drew)); exact HO289.out⟩, ⟨blw_ HB.out⟩⟩
              ·rw [if_neg c31] at H
               exact absurd H (by simp)
             ·rw [if_neg c30] at H
              exact absurd H (by simp)
           ·rw [if_neg c19] at H
            exact absurd H (by simp)
          ·rw [if_neg c18] at H
           exact absurd H (by simp)
         ·rw [if_neg c16] at H
          have c16b0 : decide (0 ≤ (wrap64 ((x9_1.length : Int) - 1))) = false := decide_eq_false c16
          clear c16
          obtain ⟨ji37, hji37⟩ : ∃ j_ : Int, (wrap64 (x10_1 + 1)) = j_ := ⟨_, rfl⟩
          replace H : (if 0 ≤ (ji37) then (if x9_1.length < 8796093022208 then (spoolref05_Set.l0 k1 a0 l1 l2 t275 (x9_1 ++ [(⟨rd t275 x10_1, wrap64 ((rd t275 (ji37)) - 1)⟩ : S55)]) ji37) else (none)) else (none)) = some r := by first | (rw [hji37] at H; exact H) | (simp only [hji37] at H ⊢; exact H)
          (try rw [hji37] at c11b0)
          (try rw [hji37] at A14)
          have hji37w : (IntKind.i64.wrap (x10_1 + 1)) = ji37 := (i64_w _).trans hji37
          by_cases c38 : 0 ≤ (ji37)
          ·rw [if_pos c38] at H
           have c38b0 : decide (0 ≤ (ji37)) = true := decide_eq_true c38
           clear c38
           by_cases c39 : x9_1.length < 8796093022208
           ·rw [if_pos c39] at H
            have LMc39 := Aside0.mk c39
            clear c39
            obtain ⟨y292, hy292⟩ : ∃ y_ : List (S55), y_ = (x9_1 ++ [(⟨rd t275 x10_1, wrap64 ((rd t275 (ji37)) - 1)⟩ : S55)]) := ⟨_, rfl⟩
            replace H : (spoolref05_Set.l0 k1 a0 l1 l2 t275 y292 ji37) = some r := by first | (rw [hy292]; with_reducible exact H) | (have H2_ := (Option.bind_some _ _).symm.trans H; rw [hy292]; with_reducible exact H2_) | (have H2_ := (Option.bind_some _ _).symm.trans H; with_reducible exact H2_) | with_reducible exact H | (rw [hy292]; exact H) | exact H
            have Ny292 := Aside0.mk hy292
            clear hy292
            have H' := Aside0.mk H
            clear H
            obtain ⟨Ao40, co40, eo40⟩ := Kd.R_slice HO_8.out
            subst eo40
            have p278 : 0 ≤ (x10_1 : Int) := of_decide_eq_true asa_
            have q278 : x10_1 < (t275.length : Int) := of_decide_eq_true asa_
            obtain ⟨ad278, e278, hx278_0⟩ := Kd.at_int (Kd.R_reads' HO_8.out).2.2 x10_1 p278 q278
            cases e278
            replace p278 := eq_true p278
            replace q278 := eq_true q278
            try go_wp2_with (first | ((with_reducible refine gate_callee (f := 39) rfl ?_); refine goesL_ (some 34) rfl rfl Try.func39 (by kernel_rfl) rfl #[.int .i64 a0, .slice A1 l1.length c1, .slice A2 l2.length c2, .int .i64 (rd t275 x10_1)] rfl lma_ ?_; (with_reducible refine (spoolref05_holds.calls k1 a0 _ _ l1 _ _ l2 (rd t275 x10_1) true _ ?side1 ?side2 ?side3 ?side4 A14.out).mono ?_); (case side1 => repeat (first | exact (Kd.C_below HR1.out HB.out) | (with_reducible refine Kd.C_alloc ?_ _) | (with_reducible refine Kd.C_drewN ?_ _) | (with_reducible refine Kd.C_drew ?_))); (case side2 => exact HC1.out); (case side3 => repeat (first | exact (Kd.C_below HR2.out HB.out) | (with_reducible refine Kd.C_alloc ?_ _) | (with_reducible refine Kd.C_drewN ?_ _) | (with_reducible refine Kd.C_drew ?_))); (case side4 => exact HC2.out); rintro e w' ⟨rfl, ⟨nd, rfl⟩⟩; refine ⟨_, rfl, ?_⟩; obtain ⟨Ao41, co41, eo41⟩ := Kd.R_slice HO_9.out; subst eo41))
            (try (rw [drewN_self wr]; generalize hq_ : World.drewN wr _ = wr; have n0_ : Aside0 (Kd.R (Kd.int .i64) 3 wr w.heap.size (fun _ => True) (.slice (some ad278) t275.length co40) t275) := ⟨by rw [← hq_]; exact (by (with_reducible repeat (first | apply Kd.R_alloc | apply Kd.R_drewN | apply Kd.R_drew)); exact HO_8.out)⟩; have n1_ : Aside0 (Kd.R k55 55 wr w.heap.size (fun _ => True) (.slice Ao41 x9_1.length co41) x9_1) := ⟨by rw [← hq_]; exact (by (with_reducible repeat (first | apply Kd.R_alloc | apply Kd.R_drewN | apply Kd.R_drew)); exact HO_9.out)⟩; have n2_ : Aside0 (Below w.heap.size w wr) := ⟨by rw [← hq_]; exact (blw_ HB.out)⟩; clear HO_8 HO_9 HB hq_; have HO_8 := n0_; have HO_9 := n1_; have HB := n2_; clear n0_ n1_ n2_))
            have n0_ := Aside0.mk (Kd.R_drew HO_8.out)
            have n1_ := Aside0.mk (Kd.R_drew HO_9.out)
            have n2_ := Aside0.mk (below_drew1 HB.out)
            clear HO_8
            clear HO_9
            clear HB
            have HO_8 := n0_
            have HO_9 := n1_
            have HB := n2_
            clear n0_ n1_ n2_
            refine start_ (n := 15) (S := fun w' => True) (ds := []) #[false, false, false, false, false, false, false, false, false, false, false, false, false, false, false] (by kernel_rfl) rfl rfl trivial (fun hHeld => ?_); refine with_tabW spoolref05_Set.tab11 spoolref05_Set.bits11 (fun HT_ HW_ => ?_)
            generalize wr.drew = w42 at HO_8 HO_9 HB hHeld ⊢
            refine pq_ (i := 0) (n := 39) (bA 15 1) (any_of HT_.out (by kernel_rfl)) ?_
            refine pq_ (i := 1) (n := 40) (bA 15 3) (any_of HT_.out (by kernel_rfl)) ?_
            refine pq_ (i := 2) (n := 41) (bA 15 7) (any_of HT_.out (by kernel_rfl)) ?_
            refine pure_ (i := 3) (N := some 42) (v := undef) (a' := ?_) (bA 15 15) rfl rfl (any_of HT_.out (by kernel_rfl)) (fun _ _ _ h => h) (Or.inr ⟨by rfl, rfl⟩) ?_ ?_
            rotate_left
            ·exact nrm_
            refine pure_ (i := 4) (N := some 43) (v := undef) (a' := ?_) (bA 15 31) rfl rfl (any_of HT_.out (by kernel_rfl)) (fun _ _ _ h => h) (Or.inr ⟨by rfl, rfl⟩) ?_ ?_
            rotate_left
            ·exact nrm_
            refine pure_ (i := 5) (N := some 44) (v := undef) (a' := ?_) (bA 15 63) rfl rfl (any_of HT_.out (by kernel_rfl)) (fun _ _ _ h => h) (Or.inr ⟨by rfl, rfl⟩) ?_ ?_
            rotate_left
            ·exact nrm_
            refine pure_ (i := 6) (N := some 45) (v := undef) (a' := ?_) (bA 15 127) rfl rfl (any_of HT_.out (by kernel_rfl)) (fun _ _ _ h => h) (Or.inr ⟨by rfl, rfl⟩) ?_ ?_
            rotate_left
            ·exact nrm_
            refine pure_ (i := 7) (N := some 46) (v := undef) (a' := ?_) (bA 15 255) rfl rfl (any_of HT_.out (by kernel_rfl)) (fun _ _ _ h => h) (Or.inr ⟨by rfl, rfl⟩) ?_ ?_
            rotate_left
            ·exact nrm_
            refine pure_ (i := 8) (N := some 47) (v := undef) (a' := ?_) (bA 15 511) rfl rfl (any_of HT_.out (by kernel_rfl)) (fun _ _ _ h => h) (Or.inr ⟨by rfl, rfl⟩) ?_ ?_
            rotate_left
            ·exact nrm_
            refine pure_ (i := 9) (N := some 48) (v := undef) (a' := ?_) (bA 15 1023) rfl rfl (any_of HT_.out (by kernel_rfl)) (fun _ _ _ h => h) (Or.inr ⟨by rfl, rfl⟩) ?_ ?_
            rotate_left
            ·exact nrm_
            refine pure_ (i := 10) (N := some 49) (v := undef) (a' := ?_) (bA 15 2047) rfl rfl (any_of HT_.out (by kernel_rfl)) (fun _ _ _ h => h) (Or.inr ⟨by rfl, rfl⟩) ?_ ?_
            rotate_left
            ·exact nrm_
            refine pure_ (i := 11) (N := some 50) (v := undef) (a' := ?_) (bA 15 4095) rfl rfl (any_of HT_.out (by kernel_rfl)) (fun _ _ _ h => h) (Or.inr ⟨by rfl, rfl⟩) ?_ ?_
            rotate_left
            ·exact nrm_
            refine pure_ (i := 12) (N := some 51) (v := undef) (a' := ?_) (bA 15 8191) rfl rfl (any_of HT_.out (by kernel_rfl)) (fun _ _ _ h => h) (Or.inr ⟨by rfl, rfl⟩) ?_ ?_
            rotate_left
            ·exact nrm_
            refine pure_ (i := 13) (N := some 52) (v := undef) (a' := ?_) (bA 15 16383) rfl rfl (any_of HT_.out (by kernel_rfl)) (fun _ _ _ h => h) (Or.inr ⟨by rfl, rfl⟩) ?_ ?_
            rotate_left
            ·exact nrm_
            refine pq_ (i := 14) (n := 53) (bA 15 32767) (any_of HT_.out (by kernel_rfl)) ?_
            refine done_ (done_of HT_.out (by kernel_rfl)) ?_
            try go_wp2
            have n0_ := Aside0.mk (Kd.R_drew HO_8.out)
            have n1_ := Aside0.mk (Kd.R_drew HO_9.out)
            have n2_ := Aside0.mk (below_drew1 HB.out)
            clear HO_8
            clear HO_9
            clear HB
            have HO_8 := n0_
            have HO_9 := n1_
            have HB := n2_
            clear n0_ n1_ n2_
            have p290 : 0 ≤ (x10_1 : Int) := of_decide_eq_true asa_
            have q290 : x10_1 < (t275.length : Int) := of_decide_eq_true asa_
            obtain ⟨ad290, e290, hx290_0⟩ := Kd.at_int (Kd.R_reads' HO_8.out).2.2 x10_1 p290 q290
            obtain rfl : ad278 = ad290 := (by injection e290)
            replace p290 := eq_true p290
            replace q290 := eq_true q290
            have p291 : 0 ≤ ((ji37) : Int) := of_decide_eq_true asa_
            have q291 : (ji37) < (t275.length : Int) := of_decide_eq_true asa_
            obtain ⟨ad291, e291, hx291_0⟩ := Kd.at_int (Kd.R_reads' HO_8.out).2.2 (ji37) p291 q291
            obtain rfl : ad278 = ad291 := (by injection e291)
            replace p291 := eq_true p291
            replace q291 := eq_true q291
            refine start_ (n := 15) (S := fun w' => w'.cell? (ad278.add (x10_1).toNat) = some (.int .i64 (rd t275 x10_1)) ∧ w'.cell? (ad278.add ((ji37)).toNat) = some (.int .i64 (rd t275 (ji37)))) (ds := [12, 13]) #[false, false, false, false, false, false, false, false, false, false, false, false, false, false, false] (by kernel_rfl) rfl rfl ⟨hx290_0, hx291_0⟩ (fun hHeld => ?_); refine with_tabW spoolref05_Set.tab13 spoolref05_Set.bits13 (fun HT_ HW_ => ?_)
            generalize w42.drew = w43 at HO_8 HO_9 HB hx290_0 hx291_0 hHeld ⊢
            refine pq_ (i := 0) (n := 69) (bA 15 1) (any_of HT_.out (by kernel_rfl)) ?_
            refine pq_ (i := 1) (n := 70) (bA 15 3) (any_of HT_.out (by kernel_rfl)) ?_
            refine pq_ (i := 2) (n := 71) (bA 15 7) (any_of HT_.out (by kernel_rfl)) ?_
            refine pq_ (i := 3) (n := 72) (bA 15 15) (any_of HT_.out (by kernel_rfl)) ?_
            refine pq_ (i := 5) (n := 74) (bA 15 47) (any_of HT_.out (by kernel_rfl)) ?_
            refine pq_ (i := 6) (n := 75) (bA 15 111) (any_of HT_.out (by kernel_rfl)) ?_
            refine pq_ (i := 7) (n := 76) (bA 15 239) (any_of HT_.out (by kernel_rfl)) ?_
            refine pq_ (i := 8) (n := 77) (bA 15 495) (any_of HT_.out (by kernel_rfl)) ?_
            refine take_ (i := 4) (N := some 73) (v := ?_) (a' := ?_) (bA 15 511) rfl rfl (take_ofW HT_.out HW_.out (by kernel_rfl)) (fun _ _ _ h => h) (Or.inl ⟨by rfl, ?_⟩) hHeld ?_ ?_
            rotate_left
            ·rintro w' ⟨s0, s1⟩
             go_simp
             with_reducible rfl
            rotate_left
            ·exact nrm_
            refine take_ (i := 9) (N := some 78) (v := ?_) (a' := ?_) (bA 15 1023) rfl rfl (take_ofW HT_.out HW_.out (by kernel_rfl)) (fun _ _ _ h => h) (Or.inl ⟨by rfl, ?_⟩) hHeld ?_ ?_
            rotate_left
            ·rintro w' ⟨s0, s1⟩
             go_simp
             with_reducible rfl
            rotate_left
            ·exact nrm_
            refine pq_ (i := 10) (n := 79) (bA 15 2047) (any_of HT_.out (by kernel_rfl)) ?_
            refine pq_ (i := 11) (n := 80) (bA 15 4095) (any_of HT_.out (by kernel_rfl)) ?_
            refine last_ (i := 12) (N := some 81) #[true, true, true, true, true, true, true, true, true, true, true, true, true, false, false] rfl rfl (one_of HT_.out (by kernel_rfl)) (by decide) (fun K hK => ?_)
            refine value_ (w1 := ?_) (v := ?_) (by rfl) rfl ?_ ?_
            rotate_left 2
            ·go_simp
             constructor
             ·rfl
             ·rfl
            refine hK.out _ _ ?_
            clear hK K
            refine norm_ (a' := ?_) ?_ ?_
            rotate_left
            ·show Act.put _ (some 81) _ = _
             exact nrm_
            refine last_ (i := 13) (N := some 82) #[true, true, true, true, true, true, true, true, true, true, true, true, true, true, false] rfl rfl (one_of HT_.out (by kernel_rfl)) (by decide) (fun K hK => ?_)
            refine Kd.R_append_step k55 (w0 := w) w.heap.size (by rfl) (.tmp 69) (.tmp 81) 37 55 (.agg #[(.int .i64 0), (.int .i64 0)]) 16 rfl Try.underlying37 info55 rfl (by decide) (by omega) (.slice Ao41 x9_1.length co41) x9_1 (⟨rd t275 x10_1, wrap64 ((rd t275 (ji37)) - 1)⟩ : S55) [.int .i64 (rd t275 x10_1), .int .i64 (wrap64 ((rd t275 (ji37)) - 1))] (fun _ => True) (fun _ => False) rfl rfl ?aP (fun _ hk => hk.elim) ?aF ?aO ?aB ?aS ?aL ?_
            (case aP => exact k55_mkM _ _ _ (⟨rd t275 x10_1, wrap64 ((rd t275 (ji37)) - 1)⟩ : S55))
            (case aB => exact (blw_ HB.out))
            (case aF => exact (fun _ _ => trivial))
            (case aO => exact (by (with_reducible repeat (first | apply Kd.R_alloc | apply Kd.R_drewN | apply Kd.R_drew)); exact HO_9.out))
            (case aS => exact (below_size (blw_ HB.out)))
            (case aL => have := LMc39.out; omega)
            intro v293 w44 ho hb hg hat
            rw [← Ny292.out] at ho
            have n0_ := Aside0.mk (Kd.R_over' (by (with_reducible repeat (first | apply Kd.R_alloc | apply Kd.R_drewN | apply Kd.R_drew)); exact HO_8.out) (Kd.R_typed (by (with_reducible repeat (first | apply Kd.R_alloc | apply Kd.R_drewN | apply Kd.R_drew)); exact HO_9.out)) (by decide) hg)
            have n1_ := Aside0.mk (hb)
            have n2_ := Aside0.mk (ho)
            clear HO_8
            clear HB
            clear HO_9
            have HO_8 := n0_
            have HB := n1_
            have HO294 := n2_
            clear n0_ n1_ n2_
            clear ho hb hg hat
            refine hK.out _ _ ?_
            clear hK K
            refine norm_ (a' := ?_) ?_ ?_
            rotate_left
            ·show Act.put _ (some 82) _ = _
             exact nrm_
            refine pq_ (i := 14) (n := 9) (bA 15 32767) (any_of HT_.out (by kernel_rfl)) ?_
            refine done_ (done_of HT_.out (by kernel_rfl)) ?_
            try go_wp2
            go_roundg k1
            case measure => have := HK1.out; omega
            case rel => exact ⟨(y292), (ji37), (by first | rfl | (simp; done) | (simp only [← hji37] <;> (first | rfl | simp)) | (simp [*]; done)), H', ⟨by have := HK1.out; omega⟩, ⟨by (with_reducible repeat (first | apply Kd.R_alloc | apply Kd.R_drewN | apply Kd.R_drew)); exact HO_8.out⟩, ⟨by (with_reducible repeat (first | apply Kd.R_alloc | apply Kd.R_drewN | apply Kd.R_drew)); exact HO294.out⟩, ⟨blw_ HB.out⟩⟩
           ·rw [if_neg c39] at H
            exact absurd H (by simp)
          ·rw [if_neg c38] at H
           exact absurd H (by simp)
        ·replace c15 := Bool.eq_false_iff.mpr c15
         subst c15
         have H1 : (spoolref05_Set.l0 k1 a0 l1 l2 t275 x9_1 (wrap64 (x10_1 + 1))) = some r := by rw [if_neg (show ¬ (false = true) by decide)] at H; exact H
         clear H
         have H := H1
         clear H1
         have H' := Aside0.mk H
         clear H
         obtain ⟨Ao45, co45, eo45⟩ := Kd.R_slice HO_8.out
         subst eo45
         have p278 : 0 ≤ (x10_1 : Int) := of_decide_eq_true asa_
         have q278 : x10_1 < (t275.length : Int) := of_decide_eq_true asa_
         obtain ⟨ad278, e278, hx278_0⟩ := Kd.at_int (Kd.R_reads' HO_8.out).2.2 x10_1 p278 q278
         cases e278
         replace p278 := eq_true p278
         replace q278 := eq_true q278
         go_wp2_with (first | ((with_reducible refine gate_callee (f := 39) rfl ?_); refine goesL_ (some 34) rfl rfl Try.func39 (by kernel_rfl) rfl #[.int .i64 a0, .slice A1 l1.length c1, .slice A2 l2.length c2, .int .i64 (rd t275 x10_1)] rfl lma_ ?_; (with_reducible refine (spoolref05_holds.calls k1 a0 _ _ l1 _ _ l2 (rd t275 x10_1) false _ ?side1 ?side2 ?side3 ?side4 A14.out).mono ?_); (case side1 => repeat (first | exact (Kd.C_below HR1.out HB.out) | (with_reducible refine Kd.C_alloc ?_ _) | (with_reducible refine Kd.C_drewN ?_ _) | (with_reducible refine Kd.C_drew ?_))); (case side2 => exact HC1.out); (case side3 => repeat (first | exact (Kd.C_below HR2.out HB.out) | (with_reducible refine Kd.C_alloc ?_ _) | (with_reducible refine Kd.C_drewN ?_ _) | (with_reducible refine Kd.C_drew ?_))); (case side4 => exact HC2.out); rintro e w' ⟨rfl, ⟨nd, rfl⟩⟩; refine ⟨_, rfl, ?_⟩))
         go_roundg k1
         case measure => have := HK1.out; omega
         case rel => exact ⟨(x9_1), (wrap64 (x10_1 + 1)), fib_, H', ⟨by have := HK1.out; omega⟩, ⟨by (with_reducible repeat (first | apply Kd.R_alloc | apply Kd.R_drewN | apply Kd.R_drew)); exact HO_8.out⟩, ⟨by (with_reducible repeat (first | apply Kd.R_alloc | apply Kd.R_drewN | apply Kd.R_drew)); exact HO_9.out⟩, ⟨blw_ HB.out⟩⟩
       ·rw [if_neg c13] at H
        exact absurd H (by simp)
      ·rw [if_neg c12] at H
       exact absurd H (by simp)
     ·rw [if_neg c11] at H
      have c11b0 : decide ((wrap64 (x10_1 + 1)) < (t275.length : Int)) = false := decide_eq_false c11
      clear c11
      obtain rfl := Option.some.inj H
      obtain ⟨Ao46, co46, eo46⟩ := Kd.R_slice HO_8.out
      subst eo46
      go_wp2
      go_ret
      exact ⟨_, fia_, by (with_reducible repeat (first | apply Kd.R_alloc | apply Kd.R_drewN | apply Kd.R_drew)); exact HO_9.out, blw_ HB.out⟩
  ·rw [if_neg c5] at H
   exact absurd H (by simp)
 ·rw [if_neg c4] at H
  exact absurd H (by simp)

end Go.Proofs.Ytbgoaigbkfibbaa.PA

-- slim

-- WRITTEN BY A PROGRAM OF THIS SESSION (patchprint.py over the kit's print)
import Derived.Test.YtkfijbmplllmlaaDoorPAx0
import Derived.Test.YtkfijbmplllmlaaDoorPAx6
namespace Go.Proofs.YtkfijbmplllmlaaDoor.PA
open Go.RowKit Go.Proofs.YtkfijbmplllmlaaDoorW.PrintWords Go.Proofs.YtkfijbmplllmlaaDoorW.PrintLast Go.Proofs.YtkfijbmplllmlaaDoorW.PrintMore
attribute [local go_sem] arrI48_0 arrI48_1 arrI56_0 arrI56_1 arrI56_2
attribute [local go_sem] max2_int min2_int max_two min_two max_three min_three max_four min_four   -- for this text's walks alone
set_option linter.unusedVariables false
set_option linter.unusedSimpArgs false

/-! ### spoolref17_Parse: function 8 -/
mutual
def spoolref17_Parse.l0 : Nat → ByteArray → List ByteArray → List (S48) → List ByteArray → List Int → Int → Option (ByteArray × Int × Int × Int)
  | 0, _, _, _, _, _, _ => none
  | k + 1, x0, x1, x6, x7, x8, x9 => if x9 < (x6.length : Int) then (if 0 ≤ x9 then (if 0 ≤ ((rd_T48 x6 x9).f0) then (if ((rd_T48 x6 x9).f0) ≤ ((rd_T48 x6 x9).f1) then (if ((rd_T48 x6 x9).f1) ≤ (x0.size : Int) then (if x7.length < 8796093022208 then (if x8.length < 17592186044416 then (spoolref17_Parse.l0 k x0 x1 x6 (x7 ++ [x0.extract (((rd_T48 x6 x9).f0) : Int).toNat (((rd_T48 x6 x9).f1) : Int).toNat]) (x8 ++ [(rd_T48 x6 x9).f0]) (wrap64 (x9 + 1))) else (none)) else (none)) else (none)) else (none)) else (none)) else (none)) else (spoolref17_Parse.l1 k x0 x1 x7 x8 0)
def spoolref17_Parse.l1 : Nat → ByteArray → List ByteArray → List ByteArray → List Int → Int → Option (ByteArray × Int × Int × Int)
  | 0, _, _, _, _, _ => none
  | k + 1, x0, x1, x7, x8, x10 => if x10 < 5 then (if x7.length < 8796093022208 then (if x8.length < 17592186044416 then (spoolref17_Parse.l1 k x0 x1 (x7 ++ [(⟨#[]⟩ : ByteArray)]) (x8 ++ [(x0.size : Int)]) (wrap64 (x10 + 1))) else (none)) else (none)) else (if 0 < (x7.length : Int) then (if (rdOf ByteArray.empty x7 0).toList = ([115, 107, 105, 112] : List UInt8) then (spoolref17_Parse.j2 k x1 x7 x8 1 false (⟨#[]⟩ : ByteArray) (-1)) else (spoolref17_Parse.j2 k x1 x7 x8 1 ((rdOf ByteArray.empty x7 0).toList != ([101, 109, 105, 116] : List UInt8)) (⟨#[]⟩ : ByteArray) (-1))) else (none))
def spoolref17_Parse.j2 : Nat → List ByteArray → List ByteArray → List Int → Int → Bool → ByteArray → Int → Option (ByteArray × Int × Int × Int)
  | 0, _, _, _, _, _, _, _ => none
  | k + 1, x1, x7, x8, x12, x66, x200000, x200001 => if x66 = true then (if 0 < (x8.length : Int) then (some ((⟨#[]⟩ : ByteArray), 0, 3, rd x8 0)) else (none)) else (if 0 < (x7.length : Int) then (if (rdOf ByteArray.empty x7 0).toList = ([101, 109, 105, 116] : List UInt8) then (if 1 < (x7.length : Int) then (if (rdOf ByteArray.empty x7 1).toList = ([] : List UInt8) then (if 1 < (x8.length : Int) then (some ((⟨#[]⟩ : ByteArray), 0, 3, rd x8 1)) else (none)) else ((spoolref04_Name.f k (rdOf ByteArray.empty x7 1)).bind fun t207 => (if t207 = true then (spoolref17_Parse.j3 k x1 x7 x8 2 (rdOf ByteArray.empty x7 1) x200001) else (if 1 < (x8.length : Int) then (some ((⟨#[]⟩ : ByteArray), 0, 4, rd x8 1)) else (none))))) else (none)) else (spoolref17_Parse.j3 k x1 x7 x8 x12 x200000 x200001)) else (none))
def spoolref17_Parse.j3 : Nat → List ByteArray → List ByteArray → List Int → Int → ByteArray → Int → Option (ByteArray × Int × Int × Int)
  | 0, _, _, _, _, _, _ => none
  | k + 1, x1, x7, x8, x12, x200000, x200001 => if 0 ≤ x12 then (if x12 < (x7.length : Int) then (if (rdOf ByteArray.empty x7 x12).toList = ([] : List UInt8) then (some (x200000, x200001, 0, 0)) else (if (rdOf ByteArray.empty x7 x12).toList = ([103, 111, 116, 111] : List UInt8) then (if 0 ≤ (wrap64 (x12 + 1)) then (if (wrap64 (x12 + 1)) < (x7.length : Int) then (if (rdOf ByteArray.empty x7 (wrap64 (x12 + 1))).toList = ([] : List UInt8) then (if (wrap64 (x12 + 1)) < (x8.length : Int) then (some ((⟨#[]⟩ : ByteArray), 0, 3, rd x8 (wrap64 (x12 + 1)))) else (none)) else ((spoolref04_Name.f k (rdOf ByteArray.empty x7 (wrap64 (x12 + 1)))).bind fun t216 => (if t216 = true then ((spoolref17_place.f k x1 (rdOf ByteArray.empty x7 (wrap64 (x12 + 1)))).bind fun t219 => (if t219 < 0 then (if (wrap64 (x12 + 1)) < (x8.length : Int) then (some ((⟨#[]⟩ : ByteArray), 0, 11, rd x8 (wrap64 (x12 + 1)))) else (none)) else (if 0 ≤ (wrap64 (x12 + 2)) then (if (wrap64 (x12 + 2)) < (x7.length : Int) then (if (rdOf ByteArray.empty x7 (wrap64 (x12 + 2))).toList = ([] : List UInt8) then (some (x200000, t219, 0, 0)) else (if (wrap64 (x12 + 2)) < (x8.length : Int) then (some ((⟨#[]⟩ : ByteArray), 0, 3, rd x8 (wrap64 (x12 + 2)))) else (none))) else (none)) else (none)))) else (if (wrap64 (x12 + 1)) < (x8.length : Int) then (some ((⟨#[]⟩ : ByteArray), 0, 4, rd x8 (wrap64 (x12 + 1)))) else (none))))) else (none)) else (none)) else (if x12 < (x8.length : Int) then (some ((⟨#[]⟩ : ByteArray), 0, 3, rd x8 x12)) else (none)))) else (none)) else (none)
end
def spoolref17_Parse.f (k : Nat) (a0 : ByteArray) (l1 : List ByteArray) : Option (ByteArray × Int × Int × Int) := (spoolref04_All.f k a0).bind fun t181 => (spoolref17_Parse.l0 k a0 l1 t181 ([] : List ByteArray) ([] : List Int) 0)
def spoolref17_Parse.T7 : Bool × List (List Nat × List Nat) := (true, [([], []), ([], []), ([], []), ([], []), ([2, 3], [2, 3]), ([4], [4]), ([5], [5]), ([], []), ([], []), ([7, 8], [7, 8]), ([9], [9]), ([10], [10]), ([1, 6, 11], [1, 6, 11]), ([12], [12]), ([0, 13], [0, 13]), ([14, 14, 0, 1, 2, 3, 4, 5, 6, 7, 8, 9, 10, 11, 12, 13, 14], [0, 14])])
def spoolref17_Parse.B7 : List Nat := [0, 0, 0, 0, 12, 28, 60, 0, 0, 384, 896, 1920, 4094, 8190, 16383, 32767]
theorem spoolref17_Parse.tab7 : rtab .any (opsOf Tryd.f8 7) = spoolref17_Parse.T7 := by kernel_rfl
theorem spoolref17_Parse.bits7 : waitsOk spoolref17_Parse.T7.2 spoolref17_Parse.B7 = true := by kernel_rfl
def spoolref17_Parse.T28 : Bool × List (List Nat × List Nat) := (true, [([], []), ([], []), ([], []), ([1, 2], [1, 2]), ([3], [3]), ([4], [4]), ([0, 0], [0]), ([5, 6, 0, 1, 2, 3, 4, 5, 6], [5])])
def spoolref17_Parse.B28 : List Nat := [0, 0, 0, 6, 14, 30, 1, 127]
theorem spoolref17_Parse.tab28 : rtab .any (opsOf Tryd.f8 28) = spoolref17_Parse.T28 := by kernel_rfl
theorem spoolref17_Parse.bits28 : waitsOk spoolref17_Parse.T28.2 spoolref17_Parse.B28 = true := by kernel_rfl
def spoolref17_Parse.T30 : Bool × List (List Nat × List Nat) := (true, [([], []), ([], []), ([], []), ([2], [2]), ([1, 3], [1, 3]), ([4], [4]), ([5], [5]), ([0, 0], [0]), ([6, 7, 0, 1, 2, 3, 4, 5, 6, 7], [6])])
def spoolref17_Parse.B30 : List Nat := [0, 0, 0, 4, 14, 30, 62, 1, 255]
theorem spoolref17_Parse.tab30 : rtab .any (opsOf Tryd.f8 30) = spoolref17_Parse.T30 := by kernel_rfl
theorem spoolref17_Parse.bits30 : waitsOk spoolref17_Parse.T30.2 spoolref17_Parse.B30 = true := by kernel_rfl
def spoolref17_Parse.T32 : Bool × List (List Nat × List Nat) := (true, [([], []), ([], []), ([], []), ([2], [2]), ([1, 3], [1, 3]), ([4], [4]), ([5], [5]), ([0, 0], [0]), ([6, 7, 0, 1, 2, 3, 4, 5, 6, 7], [6])])
def spoolref17_Parse.B32 : List Nat := [0, 0, 0, 4, 14, 30, 62, 1, 255]
theorem spoolref17_Parse.tab32 : rtab .any (opsOf Tryd.f8 32) = spoolref17_Parse.T32 := by kernel_rfl
theorem spoolref17_Parse.bits32 : waitsOk spoolref17_Parse.T32.2 spoolref17_Parse.B32 = true := by kernel_rfl
def spoolref17_Parse.T35 : Bool × List (List Nat × List Nat) := (true, [([], []), ([], []), ([], []), ([2], [2]), ([1, 3], [1, 3]), ([4], [4]), ([5], [5]), ([0, 0], [0]), ([6, 7, 0, 1, 2, 3, 4, 5, 6, 7], [6])])
def spoolref17_Parse.B35 : List Nat := [0, 0, 0, 4, 14, 30, 62, 1, 255]
theorem spoolref17_Parse.tab35 : rtab .any (opsOf Tryd.f8 35) = spoolref17_Parse.T35 := by kernel_rfl
theorem spoolref17_Parse.bits35 : waitsOk spoolref17_Parse.T35.2 spoolref17_Parse.B35 = true := by kernel_rfl
def spoolref17_Parse.T37 : Bool × List (List Nat × List Nat) := (true, [([], []), ([], []), ([], []), ([2], [2]), ([1, 3], [1, 3]), ([4], [4]), ([5], [5]), ([0, 0], [0]), ([6, 7, 0, 1, 2, 3, 4, 5, 6, 7], [6])])
def spoolref17_Parse.B37 : List Nat := [0, 0, 0, 4, 14, 30, 62, 1, 255]
theorem spoolref17_Parse.tab37 : rtab .any (opsOf Tryd.f8 37) = spoolref17_Parse.T37 := by kernel_rfl
theorem spoolref17_Parse.bits37 : waitsOk spoolref17_Parse.T37.2 spoolref17_Parse.B37 = true := by kernel_rfl
set_option maxHeartbeats 8000000 in
set_option maxRecDepth 100000 in
theorem spoolref17_Parse.calls (k : Nat) (a0 : ByteArray) (A1 : Option Addr) (c1 : Nat) (l1 : List ByteArray) (r1 : ByteArray) (r2 : Int) (r3 : Int) (r4 : Int) (w : World) (hr1 : Kd.C Kd.string w A1 l1.length l1) (hc1 : l1.length ≤ c1) (h : spoolref17_Parse.f k a0 l1 = some (r1, r2, r3, r4)) :
    Calls Tryd.prog 8 #[.string a0, .slice A1 l1.length c1] w fun e w' => e = .returned (.tuple #[.agg #[.string r1, .int .i64 r2], .agg #[.int .i64 r3, .int .i64 r4]]) ∧ Below w.heap.size w w' := by
  have hu26 := Tryd.underlying26
  have hu29 := Tryd.underlying29
  have HR1 := Aside0.mk hr1
  have HC1 := Aside0.mk hc1
  clear hr1 hc1
  have HB := Aside0.mk (Below.refl w.heap.size w)
  have H : ((spoolref04_All.f k a0).bind fun t181 => (spoolref17_Parse.l0 k a0 l1 t181 ([] : List ByteArray) ([] : List Int) 0)) = some (r1, r2, r3, r4) := h
  clear h
  replace H := Option.bind_eq_some_iff.mp H
  obtain ⟨t181, A30, H⟩ := H
  replace H : (spoolref17_Parse.l0 k a0 l1 t181 ([] : List ByteArray) ([] : List Int) 0) = some (r1, r2, r3, r4) := H
  have A3 := Aside0.mk A30
  clear A30
  have H' := Aside0.mk H
  clear H
  go_enter Tryd.func8, Tryd.ntmps8
  go_wp2_with (first | ((with_reducible refine gate_dst (N := 4) rfl ?_); refine box_event ?hg (N := 4) ?hd (cs := #[.string (⟨#[]⟩ : ByteArray), .int .i64 0]) (t := 26) ?hr ?_; (case hd => rfl); (case hg => rfl); (case hr => first | (go_simp; done) | (go_simp; rfl)); intro gb179 hg w4 hbox hb; have n0_ := Aside0.mk (below_step (by repeat (first | (with_reducible first | exact HB.out | apply below_alloc | apply pw_below_drewN | apply below_drew1) | exact HB.out)) hb); have n1_ := Aside0.mk (hbox); have n2_ := Aside0.mk ((by rw [hg]; exact (below_size (by repeat (first | (with_reducible first | exact HB.out | apply below_alloc | apply pw_below_drewN | apply below_drew1) | exact HB.out))) : w.heap.size ≤ gb179)); have n3_ := Aside0.mk ((by rw [hg]; exact (below_size (by repeat (first | (with_reducible first | exact HB.out | apply below_alloc | apply pw_below_drewN | apply below_drew1) | exact HB.out))) : w.heap.size ≤ gb179)); clear HB; have HB := n0_; have BK179 := n1_; have GW179 := n2_; have GE179 := n3_; clear n0_ n1_ n2_ n3_; clear hb hbox hg) | ((with_reducible refine gate_dst (N := 5) rfl ?_); refine box_event ?hg (N := 5) ?hd (cs := #[.int .i64 0, .int .i64 0]) (t := 29) ?hr ?_; (case hd => rfl); (case hg => rfl); (case hr => first | (go_simp; done) | (go_simp; rfl)); intro gb180 hg w5 hbox hb; have n0_ := Aside0.mk (blk_below (g := gb179) (o := .cells #[.string (⟨#[]⟩ : ByteArray), .int .i64 0] 26 (0, 0)) (by (with_reducible repeat (first | refine blk_drewN ?_ _ | refine blk_drew ?_ | refine blk_alloc ?_ _)); exact BK179.out) hb); have n1_ := Aside0.mk (below_step (by repeat (first | (with_reducible first | exact HB.out | apply below_alloc | apply pw_below_drewN | apply below_drew1 | refine below_set ?_ GE179.out) | exact HB.out)) hb); have n2_ := Aside0.mk (hbox); have n3_ := Aside0.mk ((by rw [hg]; exact (below_size (by repeat (first | (with_reducible first | exact HB.out | apply below_alloc | apply pw_below_drewN | apply below_drew1 | refine below_set ?_ GE179.out) | exact HB.out))) : w.heap.size ≤ gb180)); have n4_ := Aside0.mk ((by rw [hg]; exact (below_size (by repeat (first | (with_reducible first | exact HB.out | apply below_alloc | apply pw_below_drewN | apply below_drew1 | refine below_set ?_ GE179.out) | exact HB.out))) : w.heap.size ≤ gb180)); have n5_ := Aside0.mk ((by rw [hg]; exact Nat.ne_of_lt (blk_lt (g := gb179) (o := .cells #[.string (⟨#[]⟩ : ByteArray), .int .i64 0] 26 (0, 0)) (by (with_reducible repeat (first | refine blk_drewN ?_ _ | refine blk_drew ?_ | refine blk_alloc ?_ _)); exact BK179.out)) : gb179 ≠ gb180)); have n6_ := Aside0.mk ((by rw [hg]; exact Nat.ne_of_gt (blk_lt (g := gb179) (o := .cells #[.string (⟨#[]⟩ : ByteArray), .int .i64 0] 26 (0, 0)) (by (with_reducible repeat (first | refine blk_drewN ?_ _ | refine blk_drew ?_ | refine blk_alloc ?_ _)); exact BK179.out)) : gb180 ≠ gb179)); clear BK179; clear HB; have BK179 := n0_; have HB := n1_; have BK180 := n2_; have GW180 := n3_; have GE180 := n4_; have NB179_180 := n5_; have NB180_179 := n6_; clear n0_ n1_ n2_ n3_ n4_ n5_ n6_; clear hb hbox hg) | ((with_reducible refine gate_callee (f := 17) rfl ?_); refine goesL_ (some 14) rfl rfl Tryd.func17 (by kernel_rfl) rfl #[.string a0] rfl (by (try simp only [List.map_toArray, List.map_cons, List.map_nil]); first | done | rfl | (simp only [List.length_drop, List.length_take]; rfl)) ?_; (with_reducible refine (spoolref04_All.calls k a0 t181 _ A3.out).mono ?_); rintro e w6 ⟨v182, rfl, ho0, hb⟩; refine ⟨_, rfl, ?_⟩; have n0_ := Aside0.mk (Kd.R_lower ho0 (below_size (by repeat (first | (with_reducible first | exact HB.out | apply below_alloc | apply pw_below_drewN | apply below_drew1 | refine below_set ?_ GE179.out | refine below_set ?_ GE180.out) | exact HB.out)))); have n1_ := Aside0.mk (blk_below (g := gb179) (o := .cells #[.string (⟨#[]⟩ : ByteArray), .int .i64 0] 26 (0, 0)) (by (with_reducible repeat (first | refine blk_drewN ?_ _ | refine blk_drew ?_ | refine blk_alloc ?_ _)); exact BK179.out) hb); have n2_ := Aside0.mk (blk_below (g := gb180) (o := .cells #[.int .i64 0, .int .i64 0] 29 (0, 0)) (by (with_reducible repeat (first | refine blk_drewN ?_ _ | refine blk_drew ?_ | refine blk_alloc ?_ _)); exact BK180.out) hb); have n3_ := Aside0.mk (below_step (by repeat (first | (with_reducible first | exact HB.out | apply below_alloc | apply pw_below_drewN | apply below_drew1 | refine below_set ?_ GE179.out | refine below_set ?_ GE180.out) | exact HB.out)) hb); clear BK179; clear BK180; clear HB; have HO183 := n0_; have BK179 := n1_; have BK180 := n2_; have HB := n3_; clear n0_ n1_ n2_ n3_; (try clear hb); (try clear hb2); (try clear hk); (try clear hi); (try clear ho0)))
  go_loopg [7, 8, 9] k (fun kq v7 v8 v9 w' => ∃ (x7_1 : List ByteArray) (x8_1 : List Int) (x9_1 : Int), v9 = .int .i64 x9_1 ∧ Aside0 (spoolref17_Parse.l0 kq a0 l1 t181 x7_1 x8_1 x9_1 = some (r1, r2, r3, r4)) ∧ Aside0 (kq ≤ k) ∧ Aside0 (Kd.R k48 48 w' w.heap.size (fun _ => True) v182 t181) ∧ Aside0 (Kd.R Kd.string 9 w' w.heap.size (fun _ => True) v7 x7_1) ∧ Aside0 (Kd.R (Kd.int .i64) 3 w' w.heap.size (fun _ => True) v8 x8_1) ∧ Aside0 (w'.heap[gb179]? = some (.cells #[.string (⟨#[]⟩ : ByteArray), .int .i64 0] 26 (0, 0))) ∧ Aside0 (w'.heap[gb180]? = some (.cells #[.int .i64 0, .int .i64 0] 29 (0, 0))) ∧ Aside0 (Below w.heap.size w w'))
  case atStart => exact ⟨(([] : List ByteArray)), (([] : List Int)), (0), (by first | rfl | (simp; done) | (simp [*]; done)), H', ⟨Nat.le_refl _⟩, ⟨by (with_reducible repeat (first | apply Kd.R_alloc | apply Kd.R_drewN | apply Kd.R_drew)); exact HO183.out⟩, ⟨by first | exact Kd.R_nil _ _ _ _ _ | exact Kd.N_nil _ _ _ _ _ | exact Kd.V_nil _ _ _ _ _ | exact Kd.Q_nil _ _ _ _ _ | exact Kd.S_nil _ _ _ _ _⟩, ⟨by first | exact Kd.R_nil _ _ _ _ _ | exact Kd.N_nil _ _ _ _ _ | exact Kd.V_nil _ _ _ _ _ | exact Kd.Q_nil _ _ _ _ _ | exact Kd.S_nil _ _ _ _ _⟩, ⟨by (with_reducible repeat (first | refine blk_drewN ?_ _ | refine blk_drew ?_ | refine blk_alloc ?_ _)); exact BK179.out⟩, ⟨by (with_reducible repeat (first | refine blk_drewN ?_ _ | refine blk_drew ?_ | refine blk_alloc ?_ _)); exact BK180.out⟩, ⟨by repeat (first | (with_reducible first | exact HB.out | apply below_alloc | apply pw_below_drewN | apply below_drew1 | refine below_set ?_ GE179.out | refine below_set ?_ GE180.out) | exact HB.out)⟩⟩
  case round =>
    clear H'
    try clear c1
    try clear p2
    obtain ⟨x7_1, x8_1, x9_1, rfl, HA, HK1, HO_6, HO_7, HO_8, BK179, BK180, HB⟩ := hrel
    cases gk with
    | zero => exact absurd HA.out (by simp [spoolref17_Parse.l0])
    | succ k1 =>
      have H := HA.out
      clear HA
      simp only [spoolref17_Parse.l0] at H
      by_cases c7 : x9_1 < (t181.length : Int)
      · rw [if_pos c7] at H
        have c7b0 : decide (x9_1 < (t181.length : Int)) = true := decide_eq_true c7
        clear c7
        by_cases c8 : 0 ≤ x9_1
        · rw [if_pos c8] at H
          have c8b0 : decide (0 ≤ x9_1) = true := decide_eq_true c8
          clear c8
          by_cases c9 : 0 ≤ ((rd_T48 t181 x9_1).f0)
          · rw [if_pos c9] at H
            have c9b0 := eq_true c9
            have c9b1 : decide (0 ≤ ((rd_T48 t181 x9_1).f0)) = true := decide_eq_true c9
            clear c9
            by_cases c10 : ((rd_T48 t181 x9_1).f0) ≤ ((rd_T48 t181 x9_1).f1)
            · rw [if_pos c10] at H
              have c10b0 := eq_true c10
              have c10b1 : decide (((rd_T48 t181 x9_1).f0) ≤ ((rd_T48 t181 x9_1).f1)) = true := decide_eq_true c10
              clear c10
              by_cases c11 : ((rd_T48 t181 x9_1).f1) ≤ (a0.size : Int)
              · rw [if_pos c11] at H
                have c11b0 := eq_true c11
                have c11b1 : decide (((rd_T48 t181 x9_1).f1) ≤ (a0.size : Int)) = true := decide_eq_true c11
                clear c11
                by_cases c12 : x7_1.length < 8796093022208
                · rw [if_pos c12] at H
                  have LMc12 := Aside0.mk c12
                  clear c12
                  obtain ⟨y186, hy186⟩ : ∃ y_ : List ByteArray, y_ = (x7_1 ++ [a0.extract (((rd_T48 t181 x9_1).f0) : Int).toNat (((rd_T48 t181 x9_1).f1) : Int).toNat]) := ⟨_, rfl⟩
                  replace H : (if x8_1.length < 17592186044416 then (spoolref17_Parse.l0 k1 a0 l1 t181 y186 (x8_1 ++ [(rd_T48 t181 x9_1).f0]) (wrap64 (x9_1 + 1))) else (none)) = some (r1, r2, r3, r4) := by first | (rw [hy186]; with_reducible exact H) | (have H2_ := (Option.bind_some _ _).symm.trans H; rw [hy186]; with_reducible exact H2_) | (have H2_ := (Option.bind_some _ _).symm.trans H; with_reducible exact H2_) | with_reducible exact H | (rw [hy186]; exact H) | exact H
                  have Ny186 := Aside0.mk hy186
                  clear hy186
                  by_cases c13 : x8_1.length < 17592186044416
                  · rw [if_pos c13] at H
                    have LMc13 := Aside0.mk c13
                    clear c13
                    obtain ⟨y190, hy190⟩ : ∃ y_ : List Int, y_ = (x8_1 ++ [(rd_T48 t181 x9_1).f0]) := ⟨_, rfl⟩
                    replace H : (spoolref17_Parse.l0 k1 a0 l1 t181 y186 y190 (wrap64 (x9_1 + 1))) = some (r1, r2, r3, r4) := by first | (rw [hy190]; with_reducible exact H) | (have H2_ := (Option.bind_some _ _).symm.trans H; rw [hy190]; with_reducible exact H2_) | (have H2_ := (Option.bind_some _ _).symm.trans H; with_reducible exact H2_) | with_reducible exact H | (rw [hy190]; exact H) | exact H
                    have Ny190 := Aside0.mk hy190
                    clear hy190
                    have H' := Aside0.mk H
                    clear H
                    obtain ⟨Ao14, co14, eo14⟩ := Kd.R_slice HO_6.out
                    subst eo14
                    try go_wp2
                    have n0_ := Aside0.mk (Kd.R_drew HO_6.out)
                    have n1_ := Aside0.mk (Kd.R_drew HO_7.out)
                    have n2_ := Aside0.mk (Kd.R_drew HO_8.out)
                    have n3_ := Aside0.mk (blk_drew BK179.out)
                    have n4_ := Aside0.mk (blk_drew BK180.out)
                    have n5_ := Aside0.mk (below_drew1 HB.out)
                    clear HO_6
                    clear HO_7
                    clear HO_8
                    clear BK179
                    clear BK180
                    clear HB
                    have HO_6 := n0_
                    have HO_7 := n1_
                    have HO_8 := n2_
                    have BK179 := n3_
                    have BK180 := n4_
                    have HB := n5_
                    clear n0_ n1_ n2_ n3_ n4_ n5_
                    have p184 : 0 ≤ (x9_1 : Int) := of_decide_eq_true (by first | (with_reducible assumption) | assumption)
                    have q184 : x9_1 < (t181.length : Int) := of_decide_eq_true (by first | (with_reducible assumption) | assumption)
                    obtain ⟨ad184, e184, hx184_0, hx184_1⟩ := at_T48 (Kd.R_reads' HO_6.out).2.2 x9_1 p184 q184
                    cases e184
                    replace p184 := eq_true p184
                    replace q184 := eq_true q184
                    have p185 : 0 ≤ (x9_1 : Int) := of_decide_eq_true (by first | (with_reducible assumption) | assumption)
                    have q185 : x9_1 < (t181.length : Int) := of_decide_eq_true (by first | (with_reducible assumption) | assumption)
                    obtain ⟨ad185, e185, hx185_0, hx185_1⟩ := at_T48 (Kd.R_reads' HO_6.out).2.2 x9_1 p185 q185
                    obtain rfl : ad184 = ad185 := (by injection e185)
                    replace p185 := eq_true p185
                    replace q185 := eq_true q185
                    refine start_ (n := 16) (S := fun w' => w'.cell? (ad184.add ((x9_1).toNat * 2)) = some (.int .i64 ((rd_T48 t181 x9_1).f0)) ∧ w'.cell? ⟨(ad184.add ((x9_1).toNat * 2)).block, (ad184.add ((x9_1).toNat * 2)).off + 1, none⟩ = some (.int .i64 ((rd_T48 t181 x9_1).f1)) ∧ w'.cell? (ad184.add ((x9_1).toNat * 2)) = some (.int .i64 ((rd_T48 t181 x9_1).f0)) ∧ w'.cell? ⟨(ad184.add ((x9_1).toNat * 2)).block, (ad184.add ((x9_1).toNat * 2)).off + 1, none⟩ = some (.int .i64 ((rd_T48 t181 x9_1).f1))) (ds := [13, 14]) #[false, false, false, false, false, false, false, false, false, false, false, false, false, false, false, false] (by kernel_rfl) rfl rfl ⟨hx184_0, hx184_1, hx185_0, hx185_1⟩ (fun hHeld => ?_); refine with_tabW spoolref17_Parse.tab7 spoolref17_Parse.bits7 (fun HT_ HW_ => ?_)
                    generalize wr.drew = w15 at HO_6 HO_7 HO_8 BK179 BK180 HB hx184_0 hx184_1 hx185_0 hx185_1 hHeld ⊢
                    refine pure_ (i := 0) (N := some 21) (v := ?_) (a' := ?_) #[true, false, false, false, false, false, false, false, false, false, false, false, false, false, false, false] rfl rfl (any_of HT_.out (by kernel_rfl)) (fun _ _ _ h => h) (Or.inl ⟨by rfl, ?_⟩) ?_ ?_
                    rotate_left
                    · intro w'
                      go_simp
                      with_reducible rfl
                    rotate_left
                    · simp only [Act.put, List.setIfInBounds_toArray, List.set_cons_zero, List.set_cons_succ, i64_w, i32_w]
                      rfl
                    refine pure_ (i := 1) (N := some 22) (v := ?_) (a' := ?_) #[true, true, false, false, false, false, false, false, false, false, false, false, false, false, false, false] rfl rfl (any_of HT_.out (by kernel_rfl)) (fun _ _ _ h => h) (Or.inl ⟨by rfl, ?_⟩) ?_ ?_
                    rotate_left
                    · intro w'
                      go_simp
                      with_reducible rfl
                    rotate_left
                    · simp only [Act.put, List.setIfInBounds_toArray, List.set_cons_zero, List.set_cons_succ, i64_w, i32_w]
                      rfl
                    refine pure_ (i := 2) (N := some 23) (v := ?_) (a' := ?_) #[true, true, true, false, false, false, false, false, false, false, false, false, false, false, false, false] rfl rfl (any_of HT_.out (by kernel_rfl)) (fun _ _ _ h => h) (Or.inl ⟨by rfl, ?_⟩) ?_ ?_
                    rotate_left
                    · intro w'
                      go_simp
                      with_reducible rfl
                    rotate_left
                    · simp only [Act.put, List.setIfInBounds_toArray, List.set_cons_zero, List.set_cons_succ, i64_w, i32_w]
                      rfl
                    refine pure_ (i := 3) (N := some 24) (v := ?_) (a' := ?_) #[true, true, true, true, false, false, false, false, false, false, false, false, false, false, false, false] rfl rfl (any_of HT_.out (by kernel_rfl)) (fun _ _ _ h => h) (Or.inl ⟨by rfl, ?_⟩) ?_ ?_
                    rotate_left
                    · intro w'
                      go_simp
                      with_reducible rfl
                    rotate_left
                    · simp only [Act.put, List.setIfInBounds_toArray, List.set_cons_zero, List.set_cons_succ, i64_w, i32_w]
                      rfl
                    refine pure_ (i := 4) (N := some 25) (v := ?_) (a' := ?_) #[true, true, true, true, true, false, false, false, false, false, false, false, false, false, false, false] rfl rfl (any_of HT_.out (by kernel_rfl)) (fun _ _ _ h => h) (Or.inl ⟨by rfl, ?_⟩) ?_ ?_
                    rotate_left
                    · intro w'
                      go_simp
                      with_reducible rfl
                    rotate_left
                    · simp only [Act.put, List.setIfInBounds_toArray, List.set_cons_zero, List.set_cons_succ, i64_w, i32_w]
                      rfl
                    refine pure_ (i := 5) (N := some 26) (v := ?_) (a' := ?_) #[true, true, true, true, true, true, false, false, false, false, false, false, false, false, false, false] rfl rfl (any_of HT_.out (by kernel_rfl)) (fun _ _ _ h => h) (Or.inl ⟨by rfl, ?_⟩) ?_ ?_
                    rotate_left
                    · intro w'
                      go_simp
                      with_reducible rfl
                    rotate_left
                    · simp only [Act.put, List.setIfInBounds_toArray, List.set_cons_zero, List.set_cons_succ, i64_w, i32_w]
                      rfl
                    refine pure_ (i := 7) (N := some 28) (v := ?_) (a' := ?_) #[true, true, true, true, true, true, false, true, false, false, false, false, false, false, false, false] rfl rfl (any_of HT_.out (by kernel_rfl)) (fun _ _ _ h => h) (Or.inl ⟨by rfl, ?_⟩) ?_ ?_
                    rotate_left
                    · intro w'
                      go_simp
                      with_reducible rfl
                    rotate_left
                    · simp only [Act.put, List.setIfInBounds_toArray, List.set_cons_zero, List.set_cons_succ, i64_w, i32_w]
                      rfl
                    refine pure_ (i := 8) (N := some 29) (v := ?_) (a' := ?_) #[true, true, true, true, true, true, false, true, true, false, false, false, false, false, false, false] rfl rfl (any_of HT_.out (by kernel_rfl)) (fun _ _ _ h => h) (Or.inl ⟨by rfl, ?_⟩) ?_ ?_
                    rotate_left
                    · intro w'
                      go_simp
                      with_reducible rfl
                    rotate_left
                    · simp only [Act.put, List.setIfInBounds_toArray, List.set_cons_zero, List.set_cons_succ, i64_w, i32_w]
                      rfl
                    refine pure_ (i := 9) (N := some 30) (v := ?_) (a' := ?_) #[true, true, true, true, true, true, false, true, true, true, false, false, false, false, false, false] rfl rfl (any_of HT_.out (by kernel_rfl)) (fun _ _ _ h => h) (Or.inl ⟨by rfl, ?_⟩) ?_ ?_
                    rotate_left
                    · intro w'
                      go_simp
                      with_reducible rfl
                    rotate_left
                    · simp only [Act.put, List.setIfInBounds_toArray, List.set_cons_zero, List.set_cons_succ, i64_w, i32_w]
                      rfl
                    refine pure_ (i := 10) (N := some 31) (v := ?_) (a' := ?_) #[true, true, true, true, true, true, false, true, true, true, true, false, false, false, false, false] rfl rfl (any_of HT_.out (by kernel_rfl)) (fun _ _ _ h => h) (Or.inl ⟨by rfl, ?_⟩) ?_ ?_
                    rotate_left
                    · intro w'
                      go_simp
                      with_reducible rfl
                    rotate_left
                    · simp only [Act.put, List.setIfInBounds_toArray, List.set_cons_zero, List.set_cons_succ, i64_w, i32_w]
                      rfl
                    refine take_ (i := 6) (N := some 27) (v := ?_) (a' := ?_) #[true, true, true, true, true, true, true, true, true, true, true, false, false, false, false, false] rfl rfl (take_ofW HT_.out HW_.out (by kernel_rfl)) (fun _ _ _ h => h) (Or.inl ⟨by rfl, ?_⟩) hHeld ?_ ?_
                    rotate_left
                    · rintro w' ⟨s0, s1, s2, s3⟩
                      go_simp
                      with_reducible rfl
                    rotate_left
                    · simp only [Act.put, List.setIfInBounds_toArray, List.set_cons_zero, List.set_cons_succ, i64_w, i32_w]
                      rfl
                    refine take_ (i := 11) (N := some 32) (v := ?_) (a' := ?_) #[true, true, true, true, true, true, true, true, true, true, true, true, false, false, false, false] rfl rfl (take_ofW HT_.out HW_.out (by kernel_rfl)) (fun _ _ _ h => h) (Or.inl ⟨by rfl, ?_⟩) hHeld ?_ ?_
                    rotate_left
                    · rintro w' ⟨s0, s1, s2, s3⟩
                      go_simp
                      with_reducible rfl
                    rotate_left
                    · simp only [Act.put, List.setIfInBounds_toArray, List.set_cons_zero, List.set_cons_succ, i64_w, i32_w]
                      rfl
                    refine pure_ (i := 12) (N := some 33) (v := ?_) (a' := ?_) #[true, true, true, true, true, true, true, true, true, true, true, true, true, false, false, false] rfl rfl (any_of HT_.out (by kernel_rfl)) (fun _ _ _ h => h) (Or.inl ⟨by rfl, ?_⟩) ?_ ?_
                    rotate_left
                    · intro w'
                      go_simp
                      with_reducible rfl
                    rotate_left
                    · simp only [Act.put, List.setIfInBounds_toArray, List.set_cons_zero, List.set_cons_succ, i64_w, i32_w]
                      rfl
                    refine last_ (i := 13) (N := some 34) #[true, true, true, true, true, true, true, true, true, true, true, true, true, true, false, false] rfl rfl (one_of HT_.out (by kernel_rfl)) (by decide) (fun K hK => ?_)
                    refine value_ (w1 := ?_) (v := ?_) (by rfl) rfl ?_ ?_
                    rotate_left 2
                    · go_simp
                      constructor
                      · rfl
                      · rfl
                    refine hK.out _ _ ?_
                    clear hK K
                    refine norm_ (a' := ?_) ?_ ?_
                    rotate_left
                    · show Act.put _ (some 34) _ = _
                      simp only [Act.put, List.setIfInBounds_toArray, List.set_cons_zero, List.set_cons_succ, i64_w, i32_w]
                      rfl
                    refine last_ (i := 14) (N := some 35) #[true, true, true, true, true, true, true, true, true, true, true, true, true, true, true, false] rfl rfl (one_of HT_.out (by kernel_rfl)) (by decide) (fun K hK => ?_)
                    refine Kd.R_append_step Kd.string (w0 := w) w.heap.size (by rfl) (.tmp 21) (.tmp 34) 22 9 (.string ⟨#[]⟩) 16 rfl Tryd.underlying22 info9 rfl (by decide) (by omega) u7 x7_1 (a0.extract (((rd_T48 t181 x9_1).f0) : Int).toNat (((rd_T48 t181 x9_1).f1) : Int).toNat) [.string (a0.extract (((rd_T48 t181 x9_1).f0) : Int).toNat (((rd_T48 t181 x9_1).f1) : Int).toNat)] (fun _ => True) (fun _ => False) rfl rfl ?aP (fun _ hk => hk.elim) ?aF ?aO ?aB ?aS ?aL ?_
                    (case aP => exact rfl)
                    (case aB => exact (by repeat (first | (with_reducible first | exact HB.out | apply below_alloc | apply pw_below_drewN | apply below_drew1 | refine below_set ?_ GE179.out | refine below_set ?_ GE180.out) | exact HB.out)))
                    (case aF => exact (fun _ _ => trivial))
                    (case aO => exact (by (with_reducible repeat (first | apply Kd.R_alloc | apply Kd.R_drewN | apply Kd.R_drew)); exact HO_7.out))
                    (case aS => exact (below_size (by repeat (first | (with_reducible first | exact HB.out | apply below_alloc | apply pw_below_drewN | apply below_drew1 | refine below_set ?_ GE179.out | refine below_set ?_ GE180.out) | exact HB.out))))
                    (case aL => have := LMc12.out; omega)
                    intro v187 w16 ho hb hg hat
                    rw [← Ny186.out] at ho
                    have n0_ := Aside0.mk (Kd.R_over' (by (with_reducible repeat (first | apply Kd.R_alloc | apply Kd.R_drewN | apply Kd.R_drew)); exact HO_6.out) (Kd.R_typed (by (with_reducible repeat (first | apply Kd.R_alloc | apply Kd.R_drewN | apply Kd.R_drew)); exact HO_7.out)) (by decide) hg)
                    have n1_ := Aside0.mk (Kd.R_over' (by (with_reducible repeat (first | apply Kd.R_alloc | apply Kd.R_drewN | apply Kd.R_drew)); exact HO_8.out) (Kd.R_typed (by (with_reducible repeat (first | apply Kd.R_alloc | apply Kd.R_drewN | apply Kd.R_drew)); exact HO_7.out)) (by decide) hg)
                    have n2_ := Aside0.mk (blk_grown (g := gb179) (o := .cells #[.string (⟨#[]⟩ : ByteArray), .int .i64 0] 26 (0, 0)) (by (with_reducible repeat (first | refine blk_drewN ?_ _ | refine blk_drew ?_ | refine blk_alloc ?_ _)); exact BK179.out) hg (Kd.R_ne HO_7.out BK179.out (by decide)))
                    have n3_ := Aside0.mk (blk_grown (g := gb180) (o := .cells #[.int .i64 0, .int .i64 0] 29 (0, 0)) (by (with_reducible repeat (first | refine blk_drewN ?_ _ | refine blk_drew ?_ | refine blk_alloc ?_ _)); exact BK180.out) hg (Kd.R_ne HO_7.out BK180.out (by decide)))
                    have n4_ := Aside0.mk (hb)
                    have n5_ := Aside0.mk (ho)
                    clear HO_6
                    clear HO_8
                    clear BK179
                    clear BK180
                    clear HB
                    clear HO_7
                    have HO_6 := n0_
                    have HO_8 := n1_
                    have BK179 := n2_
                    have BK180 := n3_
                    have HB := n4_
                    have HO188 := n5_
                    clear n0_ n1_ n2_ n3_ n4_ n5_
                    clear ho hb hg hat
                    refine hK.out _ _ ?_
                    clear hK K
                    refine norm_ (a' := ?_) ?_ ?_
                    rotate_left
                    · show Act.put _ (some 35) _ = _
                      simp only [Act.put, List.setIfInBounds_toArray, List.set_cons_zero, List.set_cons_succ, i64_w, i32_w]
                      rfl
                    refine pure_ (i := 15) (N := some 7) (v := ?_) (a' := ?_) #[true, true, true, true, true, true, true, true, true, true, true, true, true, true, true, true] rfl rfl (any_of HT_.out (by kernel_rfl)) (fun _ _ _ h => h) (Or.inl ⟨by rfl, ?_⟩) ?_ ?_
                    rotate_left
                    · intro w'
                      go_simp
                      with_reducible rfl
                    rotate_left
                    · simp only [Act.put, List.setIfInBounds_toArray, List.set_cons_zero, List.set_cons_succ, i64_w, i32_w]
                      rfl
                    refine done_ (done_of HT_.out (by kernel_rfl)) ?_
                    have p189 : 0 ≤ (x9_1 : Int) := of_decide_eq_true (by first | (with_reducible assumption) | assumption)
                    have q189 : x9_1 < (t181.length : Int) := of_decide_eq_true (by first | (with_reducible assumption) | assumption)
                    obtain ⟨ad189, e189, hx189_0, hx189_1⟩ := at_T48 (Kd.R_reads' HO_6.out).2.2 x9_1 p189 q189
                    obtain rfl : ad184 = ad189 := (by injection e189)
                    replace p189 := eq_true p189
                    replace q189 := eq_true q189
                    try go_wp2_with (first | ((with_reducible refine gate_builtin (b := .append) (xs := #[.tmp 36, .tmp 42]) rfl ?_); at_builtin; refine Kd.R_append (Kd.int .i64) (w0 := w) w.heap.size rfl (.tmp 36) (.tmp 42) 47 3 (.int .i64 0) 8 rfl Tryd.underlying47 info3 rfl (by decide) (by omega) u8 x8_1 ((rd_T48 t181 x9_1).f0) [.int .i64 ((rd_T48 t181 x9_1).f0)] (fun _ => True) (fun _ => False) rfl rfl ?aP (fun _ hk => hk.elim) ?aF ?aO ?aB ?aS ?aL ?_; (case aP => exact rfl); (case aB => exact (by repeat (first | (with_reducible first | exact HB.out | apply below_alloc | apply pw_below_drewN | apply below_drew1 | refine below_set ?_ GE179.out | refine below_set ?_ GE180.out) | exact HB.out))); (case aF => exact (fun _ _ => trivial)); (case aO => exact (by (with_reducible repeat (first | apply Kd.R_alloc | apply Kd.R_drewN | apply Kd.R_drew)); exact HO_8.out)); (case aS => exact (below_size (by repeat (first | (with_reducible first | exact HB.out | apply below_alloc | apply pw_below_drewN | apply below_drew1 | refine below_set ?_ GE179.out | refine below_set ?_ GE180.out) | exact HB.out)))); (case aL => have := LMc13.out; omega); intro v191 w17 ho hb hg hat; rw [← Ny190.out] at ho; have n0_ := Aside0.mk (Kd.R_over' (by (with_reducible repeat (first | apply Kd.R_alloc | apply Kd.R_drewN | apply Kd.R_drew)); exact HO_6.out) (Kd.R_typed (by (with_reducible repeat (first | apply Kd.R_alloc | apply Kd.R_drewN | apply Kd.R_drew)); exact HO_8.out)) (by decide) hg); have n1_ := Aside0.mk (blk_grown (g := gb179) (o := .cells #[.string (⟨#[]⟩ : ByteArray), .int .i64 0] 26 (0, 0)) (by (with_reducible repeat (first | refine blk_drewN ?_ _ | refine blk_drew ?_ | refine blk_alloc ?_ _)); exact BK179.out) hg (Kd.R_ne HO_8.out BK179.out (by decide))); have n2_ := Aside0.mk (blk_grown (g := gb180) (o := .cells #[.int .i64 0, .int .i64 0] 29 (0, 0)) (by (with_reducible repeat (first | refine blk_drewN ?_ _ | refine blk_drew ?_ | refine blk_alloc ?_ _)); exact BK180.out) hg (Kd.R_ne HO_8.out BK180.out (by decide))); have n3_ := Aside0.mk (Kd.R_over' (by (with_reducible repeat (first | apply Kd.R_alloc | apply Kd.R_drewN | apply Kd.R_drew)); exact HO188.out) (Kd.R_typed (by (with_reducible repeat (first | apply Kd.R_alloc | apply Kd.R_drewN | apply Kd.R_drew)); exact HO_8.out)) (by decide) hg); have n4_ := Aside0.mk (hb); have n5_ := Aside0.mk (ho); clear HO_6; clear BK179; clear BK180; clear HO188; clear HB; clear HO_8; have HO_6 := n0_; have BK179 := n1_; have BK180 := n2_; have HO188 := n3_; have HB := n4_; have HO192 := n5_; clear n0_ n1_ n2_ n3_ n4_ n5_; clear ho hb hg hat))
                    go_roundg k1
                    case measure => have := HK1.out; omega
                    case rel => exact ⟨(y186), (y190), (wrap64 (x9_1 + 1)), (by first | rfl | (simp; done) | (simp [*]; done)), H', ⟨by have := HK1.out; omega⟩, ⟨by (with_reducible repeat (first | apply Kd.R_alloc | apply Kd.R_drewN | apply Kd.R_drew)); exact HO_6.out⟩, ⟨by (with_reducible repeat (first | apply Kd.R_alloc | apply Kd.R_drewN | apply Kd.R_drew)); exact HO188.out⟩, ⟨by (with_reducible repeat (first | apply Kd.R_alloc | apply Kd.R_drewN | apply Kd.R_drew)); exact HO192.out⟩, ⟨by (with_reducible repeat (first | refine blk_drewN ?_ _ | refine blk_drew ?_ | refine blk_alloc ?_ _)); exact BK179.out⟩, ⟨by (with_reducible repeat (first | refine blk_drewN ?_ _ | refine blk_drew ?_ | refine blk_alloc ?_ _)); exact BK180.out⟩, ⟨by repeat (first | (with_reducible first | exact HB.out | apply below_alloc | apply pw_below_drewN | apply below_drew1 | refine below_set ?_ GE179.out | refine below_set ?_ GE180.out) | exact HB.out)⟩⟩
                  · rw [if_neg c13] at H
                    exact absurd H (by simp)
                · rw [if_neg c12] at H
                  exact absurd H (by simp)
              · rw [if_neg c11] at H
                exact absurd H (by simp)
            · rw [if_neg c10] at H
              exact absurd H (by simp)
          · rw [if_neg c9] at H
            exact absurd H (by simp)
        · rw [if_neg c8] at H
          exact absurd H (by simp)
      · rw [if_neg c7] at H
        have c7b0 : decide (x9_1 < (t181.length : Int)) = false := decide_eq_false c7
        clear c7
        have H' := Aside0.mk H
        clear H
        obtain ⟨Ao18, co18, eo18⟩ := Kd.R_slice HO_6.out
        subst eo18
        go_wp2
        go_loopg [7, 8, 10] k1 (fun kq v7 v8 v10 w' => ∃ (x7_2 : List ByteArray) (x8_2 : List Int) (x10_2 : Int), v10 = .int .i64 x10_2 ∧ Aside0 (spoolref17_Parse.l1 kq a0 l1 x7_2 x8_2 x10_2 = some (r1, r2, r3, r4)) ∧ Aside0 (kq ≤ k1) ∧ Aside0 (Kd.R Kd.string 9 w' w.heap.size (fun _ => True) v7 x7_2) ∧ Aside0 (Kd.R (Kd.int .i64) 3 w' w.heap.size (fun _ => True) v8 x8_2) ∧ Aside0 (w'.heap[gb179]? = some (.cells #[.string (⟨#[]⟩ : ByteArray), .int .i64 0] 26 (0, 0))) ∧ Aside0 (w'.heap[gb180]? = some (.cells #[.int .i64 0, .int .i64 0] 29 (0, 0))) ∧ Aside0 (Below w.heap.size w w'))
        case atStart => exact ⟨(x7_1), (x8_1), (0), (by first | rfl | (simp; done) | (simp [*]; done)), H', ⟨Nat.le_refl _⟩, ⟨by (with_reducible repeat (first | apply Kd.R_alloc | apply Kd.R_drewN | apply Kd.R_drew)); exact HO_7.out⟩, ⟨by (with_reducible repeat (first | apply Kd.R_alloc | apply Kd.R_drewN | apply Kd.R_drew)); exact HO_8.out⟩, ⟨by (with_reducible repeat (first | refine blk_drewN ?_ _ | refine blk_drew ?_ | refine blk_alloc ?_ _)); exact BK179.out⟩, ⟨by (with_reducible repeat (first | refine blk_drewN ?_ _ | refine blk_drew ?_ | refine blk_alloc ?_ _)); exact BK180.out⟩, ⟨by repeat (first | (with_reducible first | exact HB.out | apply below_alloc | apply pw_below_drewN | apply below_drew1 | refine below_set ?_ GE179.out | refine below_set ?_ GE180.out) | exact HB.out)⟩⟩
        case round =>
          clear H'
          try clear c1
          try clear p1
          try clear q1
          try clear hx1
          try clear p2
          try clear p6
          try clear c7
          try clear c7b0
          try clear c8
          try clear c8b0
          try clear c9
          try clear c9b0
          try clear c9b1
          try clear c10
          try clear c10b0
          try clear c10b1
          try clear c11
          try clear c11b0
          try clear c11b1
          try clear c12
          try clear c13
          try clear c17
          try clear p18
          try clear q18
          try clear hx18
          try clear hx184_0
          try clear hx184_1
          try clear hx185_0
          try clear hx185_1
          try clear hx189_0
          try clear hx189_1
          try clear p184
          try clear p185
          try clear p189
          try clear p2
          try clear q184
          try clear q185
          try clear q189
          obtain ⟨x7_2, x8_2, x10_2, rfl, HA, HK2, HO_7, HO_8, BK179, BK180, HB⟩ := hrel
          cases gk with
          | zero => exact absurd HA.out (by simp [spoolref17_Parse.l1])
          | succ k2 =>
            have H := HA.out
            clear HA
            simp only [spoolref17_Parse.l1] at H
            by_cases c19 : x10_2 < 5
            · rw [if_pos c19] at H
              have c19b0 : decide (x10_2 < 5) = true := decide_eq_true c19
              clear c19
              by_cases c20 : x7_2.length < 8796093022208
              · rw [if_pos c20] at H
                have LMc20 := Aside0.mk c20
                clear c20
                obtain ⟨y193, hy193⟩ : ∃ y_ : List ByteArray, y_ = (x7_2 ++ [(⟨#[]⟩ : ByteArray)]) := ⟨_, rfl⟩
                replace H : (if x8_2.length < 17592186044416 then (spoolref17_Parse.l1 k2 a0 l1 y193 (x8_2 ++ [(a0.size : Int)]) (wrap64 (x10_2 + 1))) else (none)) = some (r1, r2, r3, r4) := by first | (rw [hy193]; with_reducible exact H) | (have H2_ := (Option.bind_some _ _).symm.trans H; rw [hy193]; with_reducible exact H2_) | (have H2_ := (Option.bind_some _ _).symm.trans H; with_reducible exact H2_) | with_reducible exact H | (rw [hy193]; exact H) | exact H
                have Ny193 := Aside0.mk hy193
                clear hy193
                by_cases c21 : x8_2.length < 17592186044416
                · rw [if_pos c21] at H
                  have LMc21 := Aside0.mk c21
                  clear c21
                  obtain ⟨y196, hy196⟩ : ∃ y_ : List Int, y_ = (x8_2 ++ [(a0.size : Int)]) := ⟨_, rfl⟩
                  replace H : (spoolref17_Parse.l1 k2 a0 l1 y193 y196 (wrap64 (x10_2 + 1))) = some (r1, r2, r3, r4) := by first | (rw [hy196]; with_reducible exact H) | (have H2_ := (Option.bind_some _ _).symm.trans H; rw [hy196]; with_reducible exact H2_) | (have H2_ := (Option.bind_some _ _).symm.trans H; with_reducible exact H2_) | with_reducible exact H | (rw [hy196]; exact H) | exact H
                  have Ny196 := Aside0.mk hy196
                  clear hy196
                  have H' := Aside0.mk H
                  clear H
                  go_wp2_with (first | ((with_reducible refine gate_builtin (b := .append) (xs := #[.tmp 48, .tmp 49]) rfl ?_); at_builtin; refine Kd.R_append Kd.string (w0 := w) w.heap.size rfl (.tmp 48) (.tmp 49) 22 9 (.string ⟨#[]⟩) 16 rfl Tryd.underlying22 info9 rfl (by decide) (by omega) u7 x7_2 (⟨#[]⟩ : ByteArray) [.string (⟨#[]⟩ : ByteArray)] (fun _ => True) (fun _ => False) rfl rfl ?aP (fun _ hk => hk.elim) ?aF ?aO ?aB ?aS ?aL ?_; (case aP => exact rfl); (case aB => exact (by repeat (first | (with_reducible first | exact HB.out | apply below_alloc | apply pw_below_drewN | apply below_drew1 | refine below_set ?_ GE179.out | refine below_set ?_ GE180.out) | exact HB.out))); (case aF => exact (fun _ _ => trivial)); (case aO => exact (by (with_reducible repeat (first | apply Kd.R_alloc | apply Kd.R_drewN | apply Kd.R_drew)); exact HO_7.out)); (case aS => exact (below_size (by repeat (first | (with_reducible first | exact HB.out | apply below_alloc | apply pw_below_drewN | apply below_drew1 | refine below_set ?_ GE179.out | refine below_set ?_ GE180.out) | exact HB.out)))); (case aL => have := LMc20.out; omega); intro v194 w22 ho hb hg hat; rw [← Ny193.out] at ho; have n0_ := Aside0.mk (Kd.R_over' (by (with_reducible repeat (first | apply Kd.R_alloc | apply Kd.R_drewN | apply Kd.R_drew)); exact HO_8.out) (Kd.R_typed (by (with_reducible repeat (first | apply Kd.R_alloc | apply Kd.R_drewN | apply Kd.R_drew)); exact HO_7.out)) (by decide) hg); have n1_ := Aside0.mk (blk_grown (g := gb179) (o := .cells #[.string (⟨#[]⟩ : ByteArray), .int .i64 0] 26 (0, 0)) (by (with_reducible repeat (first | refine blk_drewN ?_ _ | refine blk_drew ?_ | refine blk_alloc ?_ _)); exact BK179.out) hg (Kd.R_ne HO_7.out BK179.out (by decide))); have n2_ := Aside0.mk (blk_grown (g := gb180) (o := .cells #[.int .i64 0, .int .i64 0] 29 (0, 0)) (by (with_reducible repeat (first | refine blk_drewN ?_ _ | refine blk_drew ?_ | refine blk_alloc ?_ _)); exact BK180.out) hg (Kd.R_ne HO_7.out BK180.out (by decide))); have n3_ := Aside0.mk (hb); have n4_ := Aside0.mk (ho); clear HO_8; clear BK179; clear BK180; clear HB; clear HO_7; have HO_8 := n0_; have BK179 := n1_; have BK180 := n2_; have HB := n3_; have HO195 := n4_; clear n0_ n1_ n2_ n3_ n4_; clear ho hb hg hat) | ((with_reducible refine gate_builtin (b := .append) (xs := #[.tmp 51, .tmp 54]) rfl ?_); at_builtin; refine Kd.R_append (Kd.int .i64) (w0 := w) w.heap.size rfl (.tmp 51) (.tmp 54) 47 3 (.int .i64 0) 8 rfl Tryd.underlying47 info3 rfl (by decide) (by omega) u8 x8_2 (a0.size : Int) [.int .i64 (a0.size : Int)] (fun _ => True) (fun _ => False) rfl rfl ?aP (fun _ hk => hk.elim) ?aF ?aO ?aB ?aS ?aL ?_; (case aP => exact rfl); (case aB => exact (by repeat (first | (with_reducible first | exact HB.out | apply below_alloc | apply pw_below_drewN | apply below_drew1 | refine below_set ?_ GE179.out | refine below_set ?_ GE180.out) | exact HB.out))); (case aF => exact (fun _ _ => trivial)); (case aO => exact (by (with_reducible repeat (first | apply Kd.R_alloc | apply Kd.R_drewN | apply Kd.R_drew)); exact HO_8.out)); (case aS => exact (below_size (by repeat (first | (with_reducible first | exact HB.out | apply below_alloc | apply pw_below_drewN | apply below_drew1 | refine below_set ?_ GE179.out | refine below_set ?_ GE180.out) | exact HB.out)))); (case aL => have := LMc21.out; omega); intro v197 w23 ho hb hg hat; rw [← Ny196.out] at ho; have n0_ := Aside0.mk (blk_grown (g := gb179) (o := .cells #[.string (⟨#[]⟩ : ByteArray), .int .i64 0] 26 (0, 0)) (by (with_reducible repeat (first | refine blk_drewN ?_ _ | refine blk_drew ?_ | refine blk_alloc ?_ _)); exact BK179.out) hg (Kd.R_ne HO_8.out BK179.out (by decide))); have n1_ := Aside0.mk (blk_grown (g := gb180) (o := .cells #[.int .i64 0, .int .i64 0] 29 (0, 0)) (by (with_reducible repeat (first | refine blk_drewN ?_ _ | refine blk_drew ?_ | refine blk_alloc ?_ _)); exact BK180.out) hg (Kd.R_ne HO_8.out BK180.out (by decide))); have n2_ := Aside0.mk (Kd.R_over' (by (with_reducible repeat (first | apply Kd.R_alloc | apply Kd.R_drewN | apply Kd.R_drew)); exact HO195.out) (Kd.R_typed (by (with_reducible repeat (first | apply Kd.R_alloc | apply Kd.R_drewN | apply Kd.R_drew)); exact HO_8.out)) (by decide) hg); have n3_ := Aside0.mk (hb); have n4_ := Aside0.mk (ho); clear BK179; clear BK180; clear HO195; clear HB; clear HO_8; have BK179 := n0_; have BK180 := n1_; have HO195 := n2_; have HB := n3_; have HO198 := n4_; clear n0_ n1_ n2_ n3_ n4_; clear ho hb hg hat))
                  go_roundg k2
                  case measure => have := HK1.out; have := HK2.out; omega
                  case rel => exact ⟨(y193), (y196), (wrap64 (x10_2 + 1)), (by first | rfl | (simp; done) | (simp [*]; done)), H', ⟨by have := HK1.out; have := HK2.out; omega⟩, ⟨by (with_reducible repeat (first | apply Kd.R_alloc | apply Kd.R_drewN | apply Kd.R_drew)); exact HO195.out⟩, ⟨by (with_reducible repeat (first | apply Kd.R_alloc | apply Kd.R_drewN | apply Kd.R_drew)); exact HO198.out⟩, ⟨by (with_reducible repeat (first | refine blk_drewN ?_ _ | refine blk_drew ?_ | refine blk_alloc ?_ _)); exact BK179.out⟩, ⟨by (with_reducible repeat (first | refine blk_drewN ?_ _ | refine blk_drew ?_ | refine blk_alloc ?_ _)); exact BK180.out⟩, ⟨by repeat (first | (with_reducible first | exact HB.out | apply below_alloc | apply pw_below_drewN | apply below_drew1 | refine below_set ?_ GE179.out | refine below_set ?_ GE180.out) | exact HB.out)⟩⟩
                · rw [if_neg c21] at H
                  exact absurd H (by simp)
              · rw [if_neg c20] at H
                exact absurd H (by simp)
            · rw [if_neg c19] at H
              have c19b0 : decide (x10_2 < 5) = false := decide_eq_false c19
              clear c19
              have HC24 := Aside0.mk H
              clear H
              go_upto_region 16 with (first | ((with_reducible refine gate_dst (N := 11) rfl ?_); refine box_event ?hg (N := 11) ?hd (cs := #[.string (⟨#[]⟩ : ByteArray), .int .i64 0]) (t := 26) ?hr ?_; (case hd => rfl); (case hg => rfl); (case hr => first | (go_simp; done) | (go_simp; rfl)); intro gb199 hg w25 hbox hb; have n0_ := Aside0.mk (Kd.R_below (by (with_reducible repeat (first | apply Kd.R_alloc | apply Kd.R_drewN | apply Kd.R_drew)); exact HO_7.out) hb); have n1_ := Aside0.mk (Kd.R_below (by (with_reducible repeat (first | apply Kd.R_alloc | apply Kd.R_drewN | apply Kd.R_drew)); exact HO_8.out) hb); have n2_ := Aside0.mk (blk_below (g := gb179) (o := .cells #[.string (⟨#[]⟩ : ByteArray), .int .i64 0] 26 (0, 0)) (by (with_reducible repeat (first | refine blk_drewN ?_ _ | refine blk_drew ?_ | refine blk_alloc ?_ _)); exact BK179.out) hb); have n3_ := Aside0.mk (blk_below (g := gb180) (o := .cells #[.int .i64 0, .int .i64 0] 29 (0, 0)) (by (with_reducible repeat (first | refine blk_drewN ?_ _ | refine blk_drew ?_ | refine blk_alloc ?_ _)); exact BK180.out) hb); have n4_ := Aside0.mk (below_step (by repeat (first | (with_reducible first | exact HB.out | apply below_alloc | apply pw_below_drewN | apply below_drew1 | refine below_set ?_ GE179.out | refine below_set ?_ GE180.out) | exact HB.out)) hb); have n5_ := Aside0.mk (hbox); have n6_ := Aside0.mk ((by rw [hg]; exact (below_size (by repeat (first | (with_reducible first | exact HB.out | apply below_alloc | apply pw_below_drewN | apply below_drew1 | refine below_set ?_ GE179.out | refine below_set ?_ GE180.out) | exact HB.out))) : w.heap.size ≤ gb199)); have n7_ := Aside0.mk ((by rw [hg]; exact (below_size (by repeat (first | (with_reducible first | exact HB.out | apply below_alloc | apply pw_below_drewN | apply below_drew1 | refine below_set ?_ GE179.out | refine below_set ?_ GE180.out) | exact HB.out))) : w.heap.size ≤ gb199)); have n8_ := Aside0.mk ((by rw [hg]; exact Nat.ne_of_lt (blk_lt (g := gb179) (o := .cells #[.string (⟨#[]⟩ : ByteArray), .int .i64 0] 26 (0, 0)) (by (with_reducible repeat (first | refine blk_drewN ?_ _ | refine blk_drew ?_ | refine blk_alloc ?_ _)); exact BK179.out)) : gb179 ≠ gb199)); have n9_ := Aside0.mk ((by rw [hg]; exact Nat.ne_of_gt (blk_lt (g := gb179) (o := .cells #[.string (⟨#[]⟩ : ByteArray), .int .i64 0] 26 (0, 0)) (by (with_reducible repeat (first | refine blk_drewN ?_ _ | refine blk_drew ?_ | refine blk_alloc ?_ _)); exact BK179.out)) : gb199 ≠ gb179)); have n10_ := Aside0.mk ((by rw [hg]; exact Nat.ne_of_lt (blk_lt (g := gb180) (o := .cells #[.int .i64 0, .int .i64 0] 29 (0, 0)) (by (with_reducible repeat (first | refine blk_drewN ?_ _ | refine blk_drew ?_ | refine blk_alloc ?_ _)); exact BK180.out)) : gb180 ≠ gb199)); have n11_ := Aside0.mk ((by rw [hg]; exact Nat.ne_of_gt (blk_lt (g := gb180) (o := .cells #[.int .i64 0, .int .i64 0] 29 (0, 0)) (by (with_reducible repeat (first | refine blk_drewN ?_ _ | refine blk_drew ?_ | refine blk_alloc ?_ _)); exact BK180.out)) : gb199 ≠ gb180)); clear HO_7; clear HO_8; clear BK179; clear BK180; clear HB; have HO_7 := n0_; have HO_8 := n1_; have BK179 := n2_; have BK180 := n3_; have HB := n4_; have BK199 := n5_; have GW199 := n6_; have GE199 := n7_; have NB179_199 := n8_; have NB199_179 := n9_; have NB180_199 := n10_; have NB199_180 := n11_; clear n0_ n1_ n2_ n3_ n4_ n5_ n6_ n7_ n8_ n9_ n10_ n11_; clear hb hbox hg; have hnb26 := NB199_179.out; have hnc26 := NB179_199.out; have hnb27 := NB199_180.out; have hnc27 := NB180_199.out; have hcz28_0 : w25.cell? ⟨gb199, 0, none⟩ = some (.string (⟨#[]⟩ : ByteArray)) := (blk_cell BK199.out 0).trans rfl; have hcz28_1 : w25.cell? ⟨gb199, 1, none⟩ = some (.int .i64 0) := (blk_cell BK199.out 1).trans rfl; have hfz28_0 := blk_frozen BK199.out 0; have hfz28_1 := blk_frozen BK199.out 1))
              (try simp only [Act.put, List.setIfInBounds_toArray, List.set_cons_zero, List.set_cons_succ])
              go_cut [66] (fun v66 wc => ∃ (kq : Nat) (x66_23 : Bool), v66 = .bool x66_23 ∧ Aside0 (spoolref17_Parse.j2 kq l1 x7_2 x8_2 1 x66_23 (⟨#[]⟩ : ByteArray) (-1) = some (r1, r2, r3, r4)) ∧ Aside0 (kq ≤ k2) ∧ Aside0 (Kd.R Kd.string 9 wc w.heap.size (fun _ => True) u7 x7_2) ∧ Aside0 (Kd.R (Kd.int .i64) 3 wc w.heap.size (fun _ => True) u8 x8_2) ∧ Aside0 (wc.heap[gb179]? = some (.cells #[.string (⟨#[]⟩ : ByteArray), .int .i64 0] 26 (0, 0))) ∧ Aside0 (wc.heap[gb180]? = some (.cells #[.int .i64 0, .int .i64 0] 29 (0, 0))) ∧ Aside0 (wc.heap[gb199]? = some (.cells #[.string (⟨#[]⟩ : ByteArray), .int .i64 (-1)] 26 (0, 0))) ∧ Aside0 (Below w.heap.size w wc))
              case first =>
                have H := HC24.out
                clear HC24
                by_cases c29 : 0 < (x7_2.length : Int)
                · rw [if_pos c29] at H
                  have c29b0 : decide (0 < (x7_2.length : Int)) = true := decide_eq_true c29
                  have c29b1 : decide (0 < x7_2.length) = true := decide_eq_true (by omega)
                  clear c29
                  (first | rw [c29b0] | (simp only [i64_w, i32_w]; rw [c29b0]) | skip)
                  by_cases c30 : (rdOf ByteArray.empty x7_2 0).toList = ([115, 107, 105, 112] : List UInt8)
                  · rw [if_pos c30] at H
                    have c30b0 : ((rdOf ByteArray.empty x7_2 0).toList == ([115, 107, 105, 112] : List UInt8)) = true := beq_iff_eq.mpr c30
                    have c30b1 : ((rdOf ByteArray.empty x7_2 0).toList != ([115, 107, 105, 112] : List UInt8)) = false := bne_eq_false_iff_eq.mpr c30
                    clear c30
                    have H' := Aside0.mk H
                    clear H
                    obtain ⟨Ao31, co31, eo31⟩ := Kd.R_slice HO_7.out
                    subst eo31
                    have p200 : 0 ≤ (0 : Int) := (by omega)
                    have q200 : 0 < (x7_2.length : Int) := of_decide_eq_true (by first | (with_reducible assumption) | assumption)
                    obtain ⟨ad200, e200, hx200_0⟩ := Kd.at_string (Kd.R_reads' HO_7.out).2.2 0 p200 q200
                    cases e200
                    have qi200 : (0 < x7_2.length) = True := eq_true (by omega)
                    (try rw [show ((0 : Int)).toNat = 0 from rfl] at hx200_0)
                    (try rw [Addr.add_zero'] at hx200_0)
                    have hn200_0 : ad200.block ≠ gb199 := Kd.own_blk (Kd.R_ne HO_7.out BK199.out (by decide))
                    have hn200_1 : ad200.block ≠ gb199 := Kd.own_blk (Kd.R_ne HO_7.out BK199.out (by decide))
                    replace hx200_0 := (cell_far (p := ⟨gb199, 0, none⟩) (by first | (rw [add_block]; exact hn200_0) | (show (Addr.add _ _).block ≠ _; rw [add_block]; exact hn200_0) | exact hn200_0) (.string (⟨#[]⟩ : ByteArray))).trans hx200_0
                    replace hx200_0 := (cell_far (p := ⟨gb199, 1, none⟩) (by first | (rw [add_block]; exact hn200_1) | (show (Addr.add _ _).block ≠ _; rw [add_block]; exact hn200_1) | exact hn200_1) (.int .i64 (-1))).trans hx200_0
                    clear hn200_0
                    clear hn200_1
                    replace p200 := eq_true p200
                    replace q200 := eq_true q200
                    go_wp2
                    go_meet
                    case rel => exact ⟨_, (false), (by first | rfl | (simp; done) | (simp [*]; done)), H', ⟨by have := HK1.out; have := HK2.out; first | omega | exact Nat.le_refl _⟩, ⟨by (with_reducible repeat (first | apply Kd.R_alloc | apply Kd.R_drewN | apply Kd.R_drew)); exact Kd.R_mono (Kd.R_far (p := ⟨gb199, 1, none⟩) (Kd.R_far (p := ⟨gb199, 0, none⟩) (Kd.R_types HO_7.out BK199.out (by decide)) (fun _ hk => hk.2) (.string (⟨#[]⟩ : ByteArray))) (fun _ hk => hk.2) (.int .i64 (-1))) (fun _ hk => trivial)⟩, ⟨by (with_reducible repeat (first | apply Kd.R_alloc | apply Kd.R_drewN | apply Kd.R_drew)); exact Kd.R_mono (Kd.R_far (p := ⟨gb199, 1, none⟩) (Kd.R_far (p := ⟨gb199, 0, none⟩) (Kd.R_types HO_8.out BK199.out (by decide)) (fun _ hk => hk.2) (.string (⟨#[]⟩ : ByteArray))) (fun _ hk => hk.2) (.int .i64 (-1))) (fun _ hk => trivial)⟩, ⟨by (with_reducible repeat (first | refine blk_drewN ?_ _ | refine blk_drew ?_ | refine blk_alloc ?_ _)); refine blk_far ?_ NB179_199.out _; (with_reducible repeat (first | refine blk_drewN ?_ _ | refine blk_drew ?_ | refine blk_alloc ?_ _)); refine blk_far ?_ NB179_199.out _; (with_reducible repeat (first | refine blk_drewN ?_ _ | refine blk_drew ?_ | refine blk_alloc ?_ _)); exact BK179.out⟩, ⟨by (with_reducible repeat (first | refine blk_drewN ?_ _ | refine blk_drew ?_ | refine blk_alloc ?_ _)); refine blk_far ?_ NB180_199.out _; (with_reducible repeat (first | refine blk_drewN ?_ _ | refine blk_drew ?_ | refine blk_alloc ?_ _)); refine blk_far ?_ NB180_199.out _; (with_reducible repeat (first | refine blk_drewN ?_ _ | refine blk_drew ?_ | refine blk_alloc ?_ _)); exact BK180.out⟩, ⟨by (with_reducible repeat (first | refine blk_drewN ?_ _ | refine blk_drew ?_ | refine blk_alloc ?_ _)); refine blk_put (cs := #[.string (⟨#[]⟩ : ByteArray), .int .i64 0]) ?_ 1 _ rfl; (with_reducible repeat (first | refine blk_drewN ?_ _ | refine blk_drew ?_ | refine blk_alloc ?_ _)); refine blk_put (cs := #[.string (⟨#[]⟩ : ByteArray), .int .i64 0]) ?_ 0 _ rfl; (with_reducible repeat (first | refine blk_drewN ?_ _ | refine blk_drew ?_ | refine blk_alloc ?_ _)); exact BK199.out⟩, ⟨by repeat (first | (with_reducible first | exact HB.out | apply below_alloc | apply pw_below_drewN | apply below_drew1 | refine below_set ?_ GE179.out | refine below_set ?_ GE180.out | refine below_set ?_ GE199.out) | exact HB.out)⟩⟩
                  · rw [if_neg c30] at H
                    have c30b0 : ((rdOf ByteArray.empty x7_2 0).toList == ([115, 107, 105, 112] : List UInt8)) = false := beq_eq_false_iff_ne.mpr c30
                    have c30b1 : ((rdOf ByteArray.empty x7_2 0).toList != ([115, 107, 105, 112] : List UInt8)) = true := bne_iff_ne.mpr c30
                    have H' := Aside0.mk H
                    clear H
                    obtain ⟨Ao32, co32, eo32⟩ := Kd.R_slice HO_7.out
                    subst eo32
                    have p200 : 0 ≤ (0 : Int) := (by omega)
                    have q200 : 0 < (x7_2.length : Int) := of_decide_eq_true (by first | (with_reducible assumption) | assumption)
                    obtain ⟨ad200, e200, hx200_0⟩ := Kd.at_string (Kd.R_reads' HO_7.out).2.2 0 p200 q200
                    cases e200
                    have qi200 : (0 < x7_2.length) = True := eq_true (by omega)
                    (try rw [show ((0 : Int)).toNat = 0 from rfl] at hx200_0)
                    (try rw [Addr.add_zero'] at hx200_0)
                    have hn200_0 : ad200.block ≠ gb199 := Kd.own_blk (Kd.R_ne HO_7.out BK199.out (by decide))
                    have hn200_1 : ad200.block ≠ gb199 := Kd.own_blk (Kd.R_ne HO_7.out BK199.out (by decide))
                    replace hx200_0 := (cell_far (p := ⟨gb199, 0, none⟩) (by first | (rw [add_block]; exact hn200_0) | (show (Addr.add _ _).block ≠ _; rw [add_block]; exact hn200_0) | exact hn200_0) (.string (⟨#[]⟩ : ByteArray))).trans hx200_0
                    replace hx200_0 := (cell_far (p := ⟨gb199, 1, none⟩) (by first | (rw [add_block]; exact hn200_1) | (show (Addr.add _ _).block ≠ _; rw [add_block]; exact hn200_1) | exact hn200_1) (.int .i64 (-1))).trans hx200_0
                    clear hn200_0
                    clear hn200_1
                    replace p200 := eq_true p200
                    replace q200 := eq_true q200
                    have p201 : 0 ≤ (0 : Int) := (by omega)
                    have q201 : 0 < (x7_2.length : Int) := of_decide_eq_true (by first | (with_reducible assumption) | assumption)
                    obtain ⟨ad201, e201, hx201_0⟩ := Kd.at_string (Kd.R_reads' HO_7.out).2.2 0 p201 q201
                    obtain rfl : ad200 = ad201 := (by injection e201)
                    have qi201 : (0 < x7_2.length) = True := eq_true (by omega)
                    (try rw [show ((0 : Int)).toNat = 0 from rfl] at hx201_0)
                    (try rw [Addr.add_zero'] at hx201_0)
                    have hn201_0 : ad200.block ≠ gb199 := Kd.own_blk (Kd.R_ne HO_7.out BK199.out (by decide))
                    have hn201_1 : ad200.block ≠ gb199 := Kd.own_blk (Kd.R_ne HO_7.out BK199.out (by decide))
                    replace hx201_0 := (cell_far (p := ⟨gb199, 0, none⟩) (by first | (rw [add_block]; exact hn201_0) | (show (Addr.add _ _).block ≠ _; rw [add_block]; exact hn201_0) | exact hn201_0) (.string (⟨#[]⟩ : ByteArray))).trans hx201_0
                    replace hx201_0 := (cell_far (p := ⟨gb199, 1, none⟩) (by first | (rw [add_block]; exact hn201_1) | (show (Addr.add _ _).block ≠ _; rw [add_block]; exact hn201_1) | exact hn201_1) (.int .i64 (-1))).trans hx201_0
                    clear hn201_0
                    clear hn201_1
                    replace p201 := eq_true p201
                    replace q201 := eq_true q201
                    go_wp2
                    go_meet
                    case rel => exact ⟨_, (((rdOf ByteArray.empty x7_2 0).toList != ([101, 109, 105, 116] : List UInt8))), (by first | rfl | (simp; done) | (simp [*]; done)), H', ⟨by have := HK1.out; have := HK2.out; first | omega | exact Nat.le_refl _⟩, ⟨by (with_reducible repeat (first | apply Kd.R_alloc | apply Kd.R_drewN | apply Kd.R_drew)); exact Kd.R_mono (Kd.R_far (p := ⟨gb199, 1, none⟩) (Kd.R_far (p := ⟨gb199, 0, none⟩) (Kd.R_types HO_7.out BK199.out (by decide)) (fun _ hk => hk.2) (.string (⟨#[]⟩ : ByteArray))) (fun _ hk => hk.2) (.int .i64 (-1))) (fun _ hk => trivial)⟩, ⟨by (with_reducible repeat (first | apply Kd.R_alloc | apply Kd.R_drewN | apply Kd.R_drew)); exact Kd.R_mono (Kd.R_far (p := ⟨gb199, 1, none⟩) (Kd.R_far (p := ⟨gb199, 0, none⟩) (Kd.R_types HO_8.out BK199.out (by decide)) (fun _ hk => hk.2) (.string (⟨#[]⟩ : ByteArray))) (fun _ hk => hk.2) (.int .i64 (-1))) (fun _ hk => trivial)⟩, ⟨by (with_reducible repeat (first | refine blk_drewN ?_ _ | refine blk_drew ?_ | refine blk_alloc ?_ _)); refine blk_far ?_ NB179_199.out _; (with_reducible repeat (first | refine blk_drewN ?_ _ | refine blk_drew ?_ | refine blk_alloc ?_ _)); refine blk_far ?_ NB179_199.out _; (with_reducible repeat (first | refine blk_drewN ?_ _ | refine blk_drew ?_ | refine blk_alloc ?_ _)); exact BK179.out⟩, ⟨by (with_reducible repeat (first | refine blk_drewN ?_ _ | refine blk_drew ?_ | refine blk_alloc ?_ _)); refine blk_far ?_ NB180_199.out _; (with_reducible repeat (first | refine blk_drewN ?_ _ | refine blk_drew ?_ | refine blk_alloc ?_ _)); refine blk_far ?_ NB180_199.out _; (with_reducible repeat (first | refine blk_drewN ?_ _ | refine blk_drew ?_ | refine blk_alloc ?_ _)); exact BK180.out⟩, ⟨by (with_reducible repeat (first | refine blk_drewN ?_ _ | refine blk_drew ?_ | refine blk_alloc ?_ _)); refine blk_put (cs := #[.string (⟨#[]⟩ : ByteArray), .int .i64 0]) ?_ 1 _ rfl; (with_reducible repeat (first | refine blk_drewN ?_ _ | refine blk_drew ?_ | refine blk_alloc ?_ _)); refine blk_put (cs := #[.string (⟨#[]⟩ : ByteArray), .int .i64 0]) ?_ 0 _ rfl; (with_reducible repeat (first | refine blk_drewN ?_ _ | refine blk_drew ?_ | refine blk_alloc ?_ _)); exact BK199.out⟩, ⟨by repeat (first | (with_reducible first | exact HB.out | apply below_alloc | apply pw_below_drewN | apply below_drew1 | refine below_set ?_ GE179.out | refine below_set ?_ GE180.out | refine below_set ?_ GE199.out) | exact HB.out)⟩⟩
                · rw [if_neg c29] at H
                  exact absurd H (by simp)
              case rest =>
                clear HC24
                try clear c1
                try clear p1
                try clear q1
                try clear hx1
                try clear c2
                try clear p2
                try clear q2
                try clear hx2
                try clear qi2
                try clear c3
                try clear p6
                try clear c7
                try clear c7b0
                try clear c8
                try clear c8b0
                try clear c9
                try clear c9b0
                try clear c9b1
                try clear c10
                try clear c10b0
                try clear c10b1
                try clear c11
                try clear c11b0
                try clear c11b1
                try clear c12
                try clear c13
                try clear c17
                try clear p18
                try clear q18
                try clear hx18
                try clear c19
                try clear c19b0
                try clear c20
                try clear p20
                try clear q20
                try clear hx20
                try clear qi20
                try clear c21
                try clear c26
                try clear c27
                try clear c29
                try clear c29b0
                try clear c29b1
                try clear c30
                try clear c30b0
                try clear c30b1
                try clear hcz28_0
                try clear hcz28_1
                try clear hfz28_0
                try clear hfz28_1
                try clear hx184_0
                try clear hx184_1
                try clear hx185_0
                try clear hx185_1
                try clear hx189_0
                try clear hx189_1
                try clear hx200_0
                try clear hx201_0
                try clear p1
                try clear p18
                try clear p184
                try clear p185
                try clear p189
                try clear p2
                try clear p200
                try clear p201
                try clear p6
                try clear q1
                try clear q18
                try clear q184
                try clear q185
                try clear q189
                try clear q200
                try clear q201
                obtain ⟨kq, x66_23, rfl, HA, HJ23, HO_7, HO_8, BK179, BK180, BK199, HB⟩ := hcut
                cases kq with
                | zero => exact absurd HA.out (by simp [spoolref17_Parse.j2])
                | succ kj23 =>
                  have H := HA.out
                  clear HA
                  simp only [spoolref17_Parse.j2] at H
                  by_cases c33 : x66_23 = true
                  · subst c33
                    have H1 : (if 0 < (x8_2.length : Int) then (some ((⟨#[]⟩ : ByteArray), 0, 3, rd x8_2 0)) else (none)) = some (r1, r2, r3, r4) := by rw [if_pos rfl] at H; exact H
                    clear H
                    have H := H1
                    clear H1
                    by_cases c34 : 0 < (x8_2.length : Int)
                    · rw [if_pos c34] at H
                      have c34b0 : decide (0 < (x8_2.length : Int)) = true := decide_eq_true c34
                      have c34b1 : decide (0 < x8_2.length) = true := decide_eq_true (by omega)
                      clear c34
                      simp only [Option.some.injEq, Prod.mk.injEq] at H
                      obtain ⟨rfl, rfl, rfl, rfl⟩ := H
                      try go_wp2
                      have n0_ := Aside0.mk (Kd.R_drew HO_7.out)
                      have n1_ := Aside0.mk (Kd.R_drew HO_8.out)
                      have n2_ := Aside0.mk (blk_drew BK179.out)
                      have n3_ := Aside0.mk (blk_drew BK180.out)
                      have n4_ := Aside0.mk (blk_drew BK199.out)
                      have n5_ := Aside0.mk (below_drew1 HB.out)
                      clear HO_7
                      clear HO_8
                      clear BK179
                      clear BK180
                      clear BK199
                      clear HB
                      have HO_7 := n0_
                      have HO_8 := n1_
                      have BK179 := n2_
                      have BK180 := n3_
                      have BK199 := n4_
                      have HB := n5_
                      clear n0_ n1_ n2_ n3_ n4_ n5_
                      obtain ⟨Ao36, co36, eo36⟩ := Kd.R_slice HO_8.out
                      (first | subst eo36 | (injection eo36 with f1_ f2_ f3_; have f4_ := f1_.symm; have f5_ := f3_.symm; clear f1_ f2_ f3_; subst f4_; subst f5_))
                      have p202 : 0 ≤ (0 : Int) := (by omega)
                      have q202 : 0 < (x8_2.length : Int) := of_decide_eq_true (by first | (with_reducible assumption) | assumption)
                      obtain ⟨ad202, e202, hx202_0⟩ := Kd.at_int (Kd.R_reads' HO_8.out).2.2 0 p202 q202
                      cases e202
                      have qi202 : (0 < x8_2.length) = True := eq_true (by omega)
                      (try rw [show ((0 : Int)).toNat = 0 from rfl] at hx202_0)
                      (try rw [Addr.add_zero'] at hx202_0)
                      replace p202 := eq_true p202
                      replace q202 := eq_true q202
                      refine start_ (n := 7) (S := fun w' => w'.cell? ad202 = some (.int .i64 (rd x8_2 0))) (ds := []) #[false, false, false, false, false, false, false] (by kernel_rfl) rfl rfl (hx202_0) (fun hHeld => ?_)
                      generalize wc.drew = w35 at HO_7 HO_8 BK179 BK180 BK199 HB hx202_0 hHeld ⊢
                      refine pure_ (i := 0) (N := some 67) (v := ?_) (a' := ?_) #[true, false, false, false, false, false, false] rfl rfl (by kernel_rfl) (fun _ _ _ h => h) (Or.inl ⟨by rfl, ?_⟩) ?_ ?_
                      rotate_left
                      · intro w'
                        go_simp
                        with_reducible rfl
                      rotate_left
                      · simp only [Act.put, List.setIfInBounds_toArray, List.set_cons_zero, List.set_cons_succ, i64_w, i32_w]
                        rfl
                      refine pure_ (i := 1) (N := some 68) (v := ?_) (a' := ?_) #[true, true, false, false, false, false, false] rfl rfl (by kernel_rfl) (fun _ _ _ h => h) (Or.inl ⟨by rfl, ?_⟩) ?_ ?_
                      rotate_left
                      · intro w'
                        go_simp
                        with_reducible rfl
                      rotate_left
                      · simp only [Act.put, List.setIfInBounds_toArray, List.set_cons_zero, List.set_cons_succ, i64_w, i32_w]
                        rfl
                      refine pure_ (i := 2) (N := some 69) (v := ?_) (a' := ?_) #[true, true, true, false, false, false, false] rfl rfl (by kernel_rfl) (fun _ _ _ h => h) (Or.inl ⟨by rfl, ?_⟩) ?_ ?_
                      rotate_left
                      · intro w'
                        go_simp
                        with_reducible rfl
                      rotate_left
                      · simp only [Act.put, List.setIfInBounds_toArray, List.set_cons_zero, List.set_cons_succ, i64_w, i32_w]
                        rfl
                      refine take_ (i := 3) (N := some 70) (v := ?_) (a' := ?_) #[true, true, true, true, false, false, false] rfl rfl (by kernel_rfl) (fun _ _ _ h => h) (Or.inl ⟨by rfl, ?_⟩) hHeld ?_ ?_
                      rotate_left
                      · intro w' s0
                        go_simp
                        with_reducible rfl
                      rotate_left
                      · simp only [Act.put, List.setIfInBounds_toArray, List.set_cons_zero, List.set_cons_succ, i64_w, i32_w]
                        rfl
                      refine pure_ (i := 4) (N := some 71) (v := ?_) (a' := ?_) #[true, true, true, true, true, false, false] rfl rfl (by kernel_rfl) (fun _ _ _ h => h) (Or.inl ⟨by rfl, ?_⟩) ?_ ?_
                      rotate_left
                      · intro w'
                        go_simp
                        with_reducible rfl
                      rotate_left
                      · simp only [Act.put, List.setIfInBounds_toArray, List.set_cons_zero, List.set_cons_succ, i64_w, i32_w]
                        rfl
                      refine one_ (i := 5) (N := none) #[true, true, true, true, true, true, false] rfl rfl (by kernel_rfl) (by decide) (fun K hK => ?_)
                      have hs37 : w35.cell? ⟨gb179, 0, none⟩ = some (.string (⟨#[]⟩ : ByteArray)) := (blk_cell BK179.out 0).trans rfl
                      have hfs37 := blk_frozen BK179.out 0
                      have hns37_1 := NB180_179.out
                      have hns37_2 := NB199_179.out
                      have hms37_1 := NB179_180.out
                      have hms37_2 := NB179_199.out
                      have hs38 : w35.cell? ⟨gb179, 1, none⟩ = some (.int .i64 0) := (blk_cell BK179.out 1).trans rfl
                      have hfs38 := blk_frozen BK179.out 1
                      have hns38_1 := NB180_179.out
                      have hns38_2 := NB199_179.out
                      have hms38_1 := NB179_180.out
                      have hms38_2 := NB179_199.out
                      refine skip_ (w1 := ?_) (by rfl) rfl ?_ ?_
                      rotate_left
                      · go_simp
                        rfl
                      refine hK.out _ _ (((cell_far (a := ad202) (p := ⟨gb179, _, none⟩) (show ad202.block ≠ _ from Kd.own_blk (Kd.R_ne HO_8.out BK179.out (by decide))) _).trans (((cell_far (a := ad202) (p := ⟨gb179, _, none⟩) (show ad202.block ≠ _ from Kd.own_blk (Kd.R_ne HO_8.out BK179.out (by decide))) _).trans (hHeld))))) (fun hHeld => ?_)
                      clear hK K
                      refine one_ (i := 6) (N := none) #[true, true, true, true, true, true, true] rfl rfl (by kernel_rfl) (by decide) (fun K hK => ?_)
                      have hs39 : w35.cell? ⟨gb180, 0, none⟩ = some (.int .i64 0) := (blk_cell BK180.out 0).trans rfl
                      have hfs39 := blk_frozen BK180.out 0
                      have hns39_0 := NB179_180.out
                      have hns39_2 := NB199_180.out
                      have hms39_0 := NB180_179.out
                      have hms39_2 := NB180_199.out
                      have hs40 : w35.cell? ⟨gb180, 1, none⟩ = some (.int .i64 0) := (blk_cell BK180.out 1).trans rfl
                      have hfs40 := blk_frozen BK180.out 1
                      have hns40_0 := NB179_180.out
                      have hns40_2 := NB199_180.out
                      have hms40_0 := NB180_179.out
                      have hms40_2 := NB180_199.out
                      refine skip_ (w1 := ?_) (by rfl) rfl ?_ ?_
                      rotate_left
                      · go_simp
                        rfl
                      refine hK.out _ _ (((cell_far (a := ad202) (p := ⟨gb180, _, none⟩) (show ad202.block ≠ _ from Kd.own_blk (Kd.R_ne HO_8.out BK180.out (by decide))) _).trans (((cell_far (a := ad202) (p := ⟨gb180, _, none⟩) (show ad202.block ≠ _ from Kd.own_blk (Kd.R_ne HO_8.out BK180.out (by decide))) _).trans (hHeld))))) (fun hHeld => ?_)
                      clear hK K
                      refine done_ (by kernel_rfl) ?_
                      try go_wp2
                      refine bodyPost_ret (results_cc rfl _ _ gb179 gb180 26 29 #[.string (⟨#[]⟩ : ByteArray), .int .i64 0] #[.int .i64 3, .int .i64 (rd x8_2 0)] (0, 0) (0, 0) _ _ rfl (by (with_reducible repeat (first | refine blk_drewN ?_ _ | refine blk_drew ?_ | refine blk_alloc ?_ _)); refine blk_far ?_ NB179_180.out _; (with_reducible repeat (first | refine blk_drewN ?_ _ | refine blk_drew ?_ | refine blk_alloc ?_ _)); refine blk_far ?_ NB179_180.out _; (with_reducible repeat (first | refine blk_drewN ?_ _ | refine blk_drew ?_ | refine blk_alloc ?_ _)); refine blk_put (cs := #[.string (⟨#[]⟩ : ByteArray), .int .i64 0]) ?_ 1 _ rfl; (with_reducible repeat (first | refine blk_drewN ?_ _ | refine blk_drew ?_ | refine blk_alloc ?_ _)); refine blk_put (cs := #[.string (⟨#[]⟩ : ByteArray), .int .i64 0]) ?_ 0 _ rfl; (with_reducible repeat (first | refine blk_drewN ?_ _ | refine blk_drew ?_ | refine blk_alloc ?_ _)); exact BK179.out) Tryd.underlying26 rfl (by kernel_rfl) rfl (by (with_reducible repeat (first | refine blk_drewN ?_ _ | refine blk_drew ?_ | refine blk_alloc ?_ _)); refine blk_put (cs := #[.int .i64 3, .int .i64 0]) ?_ 1 _ rfl; (with_reducible repeat (first | refine blk_drewN ?_ _ | refine blk_drew ?_ | refine blk_alloc ?_ _)); refine blk_put (cs := #[.int .i64 0, .int .i64 0]) ?_ 0 _ rfl; (with_reducible repeat (first | refine blk_drewN ?_ _ | refine blk_drew ?_ | refine blk_alloc ?_ _)); refine blk_far ?_ NB180_179.out _; (with_reducible repeat (first | refine blk_drewN ?_ _ | refine blk_drew ?_ | refine blk_alloc ?_ _)); refine blk_far ?_ NB180_179.out _; (with_reducible repeat (first | refine blk_drewN ?_ _ | refine blk_drew ?_ | refine blk_alloc ?_ _)); exact BK180.out) Tryd.underlying29 rfl (by kernel_rfl)) rfl ?_
                      exact ⟨by first | rfl | (simp [errW_none, errW_some] <;> rfl) | (simp [*, errW_none, errW_some] <;> rfl), by repeat (first | (with_reducible first | exact HB.out | apply below_alloc | apply pw_below_drewN | apply below_drew1 | refine below_set ?_ GE179.out | refine below_set ?_ GE180.out | refine below_set ?_ GE199.out) | exact HB.out)⟩
                    · rw [if_neg c34] at H
                      exact absurd H (by simp)
                  · replace c33 := Bool.eq_false_iff.mpr c33
                    subst c33
                    have H1 : (if 0 < (x7_2.length : Int) then (if (rdOf ByteArray.empty x7_2 0).toList = ([101, 109, 105, 116] : List UInt8) then (if 1 < (x7_2.length : Int) then (if (rdOf ByteArray.empty x7_2 1).toList = ([] : List UInt8) then (if 1 < (x8_2.length : Int) then (some ((⟨#[]⟩ : ByteArray), 0, 3, rd x8_2 1)) else (none)) else ((spoolref04_Name.f kj23 (rdOf ByteArray.empty x7_2 1)).bind fun t207 => (if t207 = true then (spoolref17_Parse.j3 kj23 l1 x7_2 x8_2 2 (rdOf ByteArray.empty x7_2 1) (-1)) else (if 1 < (x8_2.length : Int) then (some ((⟨#[]⟩ : ByteArray), 0, 4, rd x8_2 1)) else (none))))) else (none)) else (spoolref17_Parse.j3 kj23 l1 x7_2 x8_2 1 (⟨#[]⟩ : ByteArray) (-1))) else (none)) = some (r1, r2, r3, r4) := by rw [if_neg (show ¬ (false = true) by decide)] at H; exact H
                    clear H
                    have H := H1
                    clear H1
                    by_cases c41 : 0 < (x7_2.length : Int)
                    · rw [if_pos c41] at H
                      have c41b0 : decide (0 < (x7_2.length : Int)) = true := decide_eq_true c41
                      have c41b1 : decide (0 < x7_2.length) = true := decide_eq_true (by omega)
                      clear c41
                      have HC42 := Aside0.mk H
                      clear H
                      obtain ⟨Ao43, co43, eo43⟩ := Kd.R_slice HO_7.out
                      subst eo43
                      have p203 : 0 ≤ (0 : Int) := (by omega)
                      have q203 : 0 < (x7_2.length : Int) := of_decide_eq_true (by first | (with_reducible assumption) | assumption)
                      obtain ⟨ad203, e203, hx203_0⟩ := Kd.at_string (Kd.R_reads' HO_7.out).2.2 0 p203 q203
                      cases e203
                      have qi203 : (0 < x7_2.length) = True := eq_true (by omega)
                      (try rw [show ((0 : Int)).toNat = 0 from rfl] at hx203_0)
                      (try rw [Addr.add_zero'] at hx203_0)
                      replace p203 := eq_true p203
                      replace q203 := eq_true q203
                      go_upto_if 75 with (fail)
                      go_cut [12] (fun v12 wc => ∃ (kq : Nat) (x12_41 : Int) (x180000_41 : ByteArray) (x180001_41 : Int) (x181000_41 : Int) (x181001_41 : Int) (x200000_41 : ByteArray), v12 = .int .i64 x12_41 ∧ Aside0 (spoolref17_Parse.j3 kq l1 x7_2 x8_2 x12_41 x200000_41 (-1) = some (r1, r2, r3, r4)) ∧ Aside0 (kq ≤ kj23) ∧ Aside0 (Kd.R Kd.string 9 wc w.heap.size (fun _ => True) (.slice (some ad203) x7_2.length co43) x7_2) ∧ Aside0 (Kd.R (Kd.int .i64) 3 wc w.heap.size (fun _ => True) u8 x8_2) ∧ Aside0 (wc.heap[gb179]? = some (.cells #[.string x180000_41, .int .i64 x180001_41] 26 (0, 0))) ∧ Aside0 (wc.heap[gb180]? = some (.cells #[.int .i64 x181000_41, .int .i64 x181001_41] 29 (0, 0))) ∧ Aside0 (wc.heap[gb199]? = some (.cells #[.string x200000_41, .int .i64 (-1)] 26 (0, 0))) ∧ Aside0 (Below w.heap.size w wc))
                      case first =>
                        have H := HC42.out
                        clear HC42
                        by_cases c44 : (rdOf ByteArray.empty x7_2 0).toList = ([101, 109, 105, 116] : List UInt8)
                        · rw [if_pos c44] at H
                          have c44b0 : ((rdOf ByteArray.empty x7_2 0).toList == ([101, 109, 105, 116] : List UInt8)) = true := beq_iff_eq.mpr c44
                          have c44b1 : ((rdOf ByteArray.empty x7_2 0).toList != ([101, 109, 105, 116] : List UInt8)) = false := bne_eq_false_iff_eq.mpr c44
                          clear c44
                          (first | rw [c44b0] | (simp only [i64_w, i32_w]; rw [c44b0]) | skip)
                          by_cases c45 : 1 < (x7_2.length : Int)
                          · rw [if_pos c45] at H
                            have c45b0 : decide (1 < (x7_2.length : Int)) = true := decide_eq_true c45
                            have c45b1 : decide (1 < x7_2.length) = true := decide_eq_true (by omega)
                            clear c45
                            by_cases c46 : (rdOf ByteArray.empty x7_2 1).toList = ([] : List UInt8)
                            · rw [if_pos c46] at H
                              have c46b0 : ((rdOf ByteArray.empty x7_2 1).toList == ([] : List UInt8)) = true := beq_iff_eq.mpr c46
                              have c46b1 : ((rdOf ByteArray.empty x7_2 1).toList != ([] : List UInt8)) = false := bne_eq_false_iff_eq.mpr c46
                              clear c46
                              by_cases c47 : 1 < (x8_2.length : Int)
                              · rw [if_pos c47] at H
                                have c47b0 : decide (1 < (x8_2.length : Int)) = true := decide_eq_true c47
                                have c47b1 : decide (1 < x8_2.length) = true := decide_eq_true (by omega)
                                clear c47
                                simp only [Option.some.injEq, Prod.mk.injEq] at H
                                obtain ⟨rfl, rfl, rfl, rfl⟩ := H
                                have p204 : 0 ≤ (1 : Int) := (by omega)
                                have q204 : 1 < (x7_2.length : Int) := of_decide_eq_true (by first | (with_reducible assumption) | assumption)
                                obtain ⟨ad204, e204, hx204_0⟩ := Kd.at_string (Kd.R_reads' HO_7.out).2.2 1 p204 q204
                                obtain rfl : ad203 = ad204 := (by injection e204)
                                (try simp only [show (1 : Int).toNat = 1 from rfl, Nat.reduceMul, Nat.reduceEqDiff, Go.Addr.add, ↓reduceIte] at hx204_0)
                                have qi204 : (1 < x7_2.length) = True := eq_true (by omega)
                                (try rw [show ((1 : Int)).toNat = 1 from rfl] at hx204_0)
                                replace p204 := eq_true p204
                                replace q204 := eq_true q204
                                try go_wp2
                                have n0_ := Aside0.mk (Kd.R_drew HO_7.out)
                                have n1_ := Aside0.mk (Kd.R_drew HO_8.out)
                                have n2_ := Aside0.mk (blk_drew BK179.out)
                                have n3_ := Aside0.mk (blk_drew BK180.out)
                                have n4_ := Aside0.mk (blk_drew BK199.out)
                                have n5_ := Aside0.mk (below_drew1 HB.out)
                                clear HO_7
                                clear HO_8
                                clear BK179
                                clear BK180
                                clear BK199
                                clear HB
                                have HO_7 := n0_
                                have HO_8 := n1_
                                have BK179 := n2_
                                have BK180 := n3_
                                have BK199 := n4_
                                have HB := n5_
                                clear n0_ n1_ n2_ n3_ n4_ n5_
                                obtain ⟨Ao49, co49, eo49⟩ := Kd.R_slice HO_8.out
                                (first | subst eo49 | (injection eo49 with f1_ f2_ f3_; have f4_ := f1_.symm; have f5_ := f3_.symm; clear f1_ f2_ f3_; subst f4_; subst f5_))
                                have p205 : 0 ≤ (1 : Int) := (by omega)
                                have q205 : 1 < (x8_2.length : Int) := of_decide_eq_true (by first | (with_reducible assumption) | assumption)
                                obtain ⟨ad205, e205, hx205_0⟩ := Kd.at_int (Kd.R_reads' HO_8.out).2.2 1 p205 q205
                                cases e205
                                (try simp only [show (1 : Int).toNat = 1 from rfl, Nat.reduceMul, Nat.reduceEqDiff, Go.Addr.add, ↓reduceIte] at hx205_0)
                                have qi205 : (1 < x8_2.length) = True := eq_true (by omega)
                                (try rw [show ((1 : Int)).toNat = 1 from rfl] at hx205_0)
                                replace p205 := eq_true p205
                                replace q205 := eq_true q205
                                refine start_ (n := 7) (S := fun w' => w'.cell? ⟨ad205.block, ad205.off + 1, none⟩ = some (.int .i64 (rd x8_2 1))) (ds := []) #[false, false, false, false, false, false, false] (by kernel_rfl) rfl rfl (hx205_0) (fun hHeld => ?_)
                                generalize wc.drew = w48 at HO_7 HO_8 BK179 BK180 BK199 HB hx205_0 hHeld ⊢
                                refine pure_ (i := 0) (N := some 80) (v := ?_) (a' := ?_) #[true, false, false, false, false, false, false] rfl rfl (by kernel_rfl) (fun _ _ _ h => h) (Or.inl ⟨by rfl, ?_⟩) ?_ ?_
                                rotate_left
                                · intro w'
                                  go_simp
                                  with_reducible rfl
                                rotate_left
                                · simp only [Act.put, List.setIfInBounds_toArray, List.set_cons_zero, List.set_cons_succ, i64_w, i32_w]
                                  rfl
                                refine pure_ (i := 1) (N := some 81) (v := ?_) (a' := ?_) #[true, true, false, false, false, false, false] rfl rfl (by kernel_rfl) (fun _ _ _ h => h) (Or.inl ⟨by rfl, ?_⟩) ?_ ?_
                                rotate_left
                                · intro w'
                                  go_simp
                                  with_reducible rfl
                                rotate_left
                                · simp only [Act.put, List.setIfInBounds_toArray, List.set_cons_zero, List.set_cons_succ, i64_w, i32_w]
                                  rfl
                                refine pure_ (i := 2) (N := some 82) (v := ?_) (a' := ?_) #[true, true, true, false, false, false, false] rfl rfl (by kernel_rfl) (fun _ _ _ h => h) (Or.inl ⟨by rfl, ?_⟩) ?_ ?_
                                rotate_left
                                · intro w'
                                  go_simp
                                  with_reducible rfl
                                rotate_left
                                · simp only [Act.put, List.setIfInBounds_toArray, List.set_cons_zero, List.set_cons_succ, i64_w, i32_w]
                                  rfl
                                refine take_ (i := 3) (N := some 83) (v := ?_) (a' := ?_) #[true, true, true, true, false, false, false] rfl rfl (by kernel_rfl) (fun _ _ _ h => h) (Or.inl ⟨by rfl, ?_⟩) hHeld ?_ ?_
                                rotate_left
                                · intro w' s0
                                  go_simp
                                  with_reducible rfl
                                rotate_left
                                · simp only [Act.put, List.setIfInBounds_toArray, List.set_cons_zero, List.set_cons_succ, i64_w, i32_w]
                                  rfl
                                refine pure_ (i := 4) (N := some 84) (v := ?_) (a' := ?_) #[true, true, true, true, true, false, false] rfl rfl (by kernel_rfl) (fun _ _ _ h => h) (Or.inl ⟨by rfl, ?_⟩) ?_ ?_
                                rotate_left
                                · intro w'
                                  go_simp
                                  with_reducible rfl
                                rotate_left
                                · simp only [Act.put, List.setIfInBounds_toArray, List.set_cons_zero, List.set_cons_succ, i64_w, i32_w]
                                  rfl
                                refine one_ (i := 5) (N := none) #[true, true, true, true, true, true, false] rfl rfl (by kernel_rfl) (by decide) (fun K hK => ?_)
                                have hs50 : w48.cell? ⟨gb179, 0, none⟩ = some (.string (⟨#[]⟩ : ByteArray)) := (blk_cell BK179.out 0).trans rfl
                                have hfs50 := blk_frozen BK179.out 0
                                have hns50_1 := NB180_179.out
                                have hns50_2 := NB199_179.out
                                have hms50_1 := NB179_180.out
                                have hms50_2 := NB179_199.out
                                have hs51 : w48.cell? ⟨gb179, 1, none⟩ = some (.int .i64 0) := (blk_cell BK179.out 1).trans rfl
                                have hfs51 := blk_frozen BK179.out 1
                                have hns51_1 := NB180_179.out
                                have hns51_2 := NB199_179.out
                                have hms51_1 := NB179_180.out
                                have hms51_2 := NB179_199.out
                                refine skip_ (w1 := ?_) (by rfl) rfl ?_ ?_
                                rotate_left
                                · go_simp
                                  rfl
                                refine hK.out _ _ (((cell_far (a := ⟨ad205.block, ad205.off + 1, none⟩) (p := ⟨gb179, _, none⟩) (show ad205.block ≠ _ from Kd.own_blk (Kd.R_ne HO_8.out BK179.out (by decide))) _).trans (((cell_far (a := ⟨ad205.block, ad205.off + 1, none⟩) (p := ⟨gb179, _, none⟩) (show ad205.block ≠ _ from Kd.own_blk (Kd.R_ne HO_8.out BK179.out (by decide))) _).trans (hHeld))))) (fun hHeld => ?_)
                                clear hK K
                                refine one_ (i := 6) (N := none) #[true, true, true, true, true, true, true] rfl rfl (by kernel_rfl) (by decide) (fun K hK => ?_)
                                have hs52 : w48.cell? ⟨gb180, 0, none⟩ = some (.int .i64 0) := (blk_cell BK180.out 0).trans rfl
                                have hfs52 := blk_frozen BK180.out 0
                                have hns52_0 := NB179_180.out
                                have hns52_2 := NB199_180.out
                                have hms52_0 := NB180_179.out
                                have hms52_2 := NB180_199.out
                                have hs53 : w48.cell? ⟨gb180, 1, none⟩ = some (.int .i64 0) := (blk_cell BK180.out 1).trans rfl
                                have hfs53 := blk_frozen BK180.out 1
                                have hns53_0 := NB179_180.out
                                have hns53_2 := NB199_180.out
                                have hms53_0 := NB180_179.out
                                have hms53_2 := NB180_199.out
                                refine skip_ (w1 := ?_) (by rfl) rfl ?_ ?_
                                rotate_left
                                · go_simp
                                  rfl
                                refine hK.out _ _ (((cell_far (a := ⟨ad205.block, ad205.off + 1, none⟩) (p := ⟨gb180, _, none⟩) (show ad205.block ≠ _ from Kd.own_blk (Kd.R_ne HO_8.out BK180.out (by decide))) _).trans (((cell_far (a := ⟨ad205.block, ad205.off + 1, none⟩) (p := ⟨gb180, _, none⟩) (show ad205.block ≠ _ from Kd.own_blk (Kd.R_ne HO_8.out BK180.out (by decide))) _).trans (hHeld))))) (fun hHeld => ?_)
                                clear hK K
                                refine done_ (by kernel_rfl) ?_
                                try go_wp2
                                refine bodyPost_ret (results_cc rfl _ _ gb179 gb180 26 29 #[.string (⟨#[]⟩ : ByteArray), .int .i64 0] #[.int .i64 3, .int .i64 (rd x8_2 1)] (0, 0) (0, 0) _ _ rfl (by (with_reducible repeat (first | refine blk_drewN ?_ _ | refine blk_drew ?_ | refine blk_alloc ?_ _)); refine blk_far ?_ NB179_180.out _; (with_reducible repeat (first | refine blk_drewN ?_ _ | refine blk_drew ?_ | refine blk_alloc ?_ _)); refine blk_far ?_ NB179_180.out _; (with_reducible repeat (first | refine blk_drewN ?_ _ | refine blk_drew ?_ | refine blk_alloc ?_ _)); refine blk_put (cs := #[.string (⟨#[]⟩ : ByteArray), .int .i64 0]) ?_ 1 _ rfl; (with_reducible repeat (first | refine blk_drewN ?_ _ | refine blk_drew ?_ | refine blk_alloc ?_ _)); refine blk_put (cs := #[.string (⟨#[]⟩ : ByteArray), .int .i64 0]) ?_ 0 _ rfl; (with_reducible repeat (first | refine blk_drewN ?_ _ | refine blk_drew ?_ | refine blk_alloc ?_ _)); exact BK179.out) Tryd.underlying26 rfl (by kernel_rfl) rfl (by (with_reducible repeat (first | refine blk_drewN ?_ _ | refine blk_drew ?_ | refine blk_alloc ?_ _)); refine blk_put (cs := #[.int .i64 3, .int .i64 0]) ?_ 1 _ rfl; (with_reducible repeat (first | refine blk_drewN ?_ _ | refine blk_drew ?_ | refine blk_alloc ?_ _)); refine blk_put (cs := #[.int .i64 0, .int .i64 0]) ?_ 0 _ rfl; (with_reducible repeat (first | refine blk_drewN ?_ _ | refine blk_drew ?_ | refine blk_alloc ?_ _)); refine blk_far ?_ NB180_179.out _; (with_reducible repeat (first | refine blk_drewN ?_ _ | refine blk_drew ?_ | refine blk_alloc ?_ _)); refine blk_far ?_ NB180_179.out _; (with_reducible repeat (first | refine blk_drewN ?_ _ | refine blk_drew ?_ | refine blk_alloc ?_ _)); exact BK180.out) Tryd.underlying29 rfl (by kernel_rfl)) rfl ?_
                                exact ⟨by first | rfl | (simp [errW_none, errW_some] <;> rfl) | (simp [*, errW_none, errW_some] <;> rfl), by repeat (first | (with_reducible first | exact HB.out | apply below_alloc | apply pw_below_drewN | apply below_drew1 | refine below_set ?_ GE179.out | refine below_set ?_ GE180.out | refine below_set ?_ GE199.out) | exact HB.out)⟩
                              · rw [if_neg c47] at H
                                exact absurd H (by simp)
                            · rw [if_neg c46] at H
                              have c46b0 : ((rdOf ByteArray.empty x7_2 1).toList == ([] : List UInt8)) = false := beq_eq_false_iff_ne.mpr c46
                              have c46b1 : ((rdOf ByteArray.empty x7_2 1).toList != ([] : List UInt8)) = true := bne_iff_ne.mpr c46
                              replace H := Option.bind_eq_some_iff.mp H
                              obtain ⟨t207, A540, H⟩ := H
                              replace H : (if t207 = true then (spoolref17_Parse.j3 kj23 l1 x7_2 x8_2 2 (rdOf ByteArray.empty x7_2 1) (-1)) else (if 1 < (x8_2.length : Int) then (some ((⟨#[]⟩ : ByteArray), 0, 4, rd x8_2 1)) else (none))) = some (r1, r2, r3, r4) := H
                              have A54 := Aside0.mk A540
                              clear A540
                              by_cases c55 : t207 = true
                              · subst c55
                                have H1 : (spoolref17_Parse.j3 kj23 l1 x7_2 x8_2 2 (rdOf ByteArray.empty x7_2 1) (-1)) = some (r1, r2, r3, r4) := by rw [if_pos rfl] at H; exact H
                                clear H
                                have H := H1
                                clear H1
                                have H' := Aside0.mk H
                                clear H
                                have p204 : 0 ≤ (1 : Int) := (by omega)
                                have q204 : 1 < (x7_2.length : Int) := of_decide_eq_true (by first | (with_reducible assumption) | assumption)
                                obtain ⟨ad204, e204, hx204_0⟩ := Kd.at_string (Kd.R_reads' HO_7.out).2.2 1 p204 q204
                                obtain rfl : ad203 = ad204 := (by injection e204)
                                (try simp only [show (1 : Int).toNat = 1 from rfl, Nat.reduceMul, Nat.reduceEqDiff, Go.Addr.add, ↓reduceIte] at hx204_0)
                                have qi204 : (1 < x7_2.length) = True := eq_true (by omega)
                                (try rw [show ((1 : Int)).toNat = 1 from rfl] at hx204_0)
                                replace p204 := eq_true p204
                                replace q204 := eq_true q204
                                have p206 : 0 ≤ (1 : Int) := (by omega)
                                have q206 : 1 < (x7_2.length : Int) := of_decide_eq_true (by first | (with_reducible assumption) | assumption)
                                obtain ⟨ad206, e206, hx206_0⟩ := Kd.at_string (Kd.R_reads' HO_7.out).2.2 1 p206 q206
                                obtain rfl : ad203 = ad206 := (by injection e206)
                                (try simp only [show (1 : Int).toNat = 1 from rfl, Nat.reduceMul, Nat.reduceEqDiff, Go.Addr.add, ↓reduceIte] at hx206_0)
                                have qi206 : (1 < x7_2.length) = True := eq_true (by omega)
                                (try rw [show ((1 : Int)).toNat = 1 from rfl] at hx206_0)
                                replace p206 := eq_true p206
                                replace q206 := eq_true q206
                                go_wp2_with (first | ((with_reducible refine gate_callee (f := 18) rfl ?_); refine goesL_ (some 88) rfl rfl Tryd.func18 (by kernel_rfl) rfl #[.string (rdOf ByteArray.empty x7_2 1)] rfl (by (try simp only [List.map_toArray, List.map_cons, List.map_nil]); first | done | rfl | (simp only [List.length_drop, List.length_take]; rfl)) ?_; (with_reducible refine (spoolref04_Name.calls kj23 (rdOf ByteArray.empty x7_2 1) true _ A54.out).mono ?_); rintro e w' ⟨rfl, ⟨nd, rfl⟩⟩; refine ⟨_, rfl, ?_⟩; (try (rw [drewN_self wc]; generalize hq_ : World.drewN wc _ = wc; have n0_ : Aside0 (Kd.R Kd.string 9 wc w.heap.size (fun _ => True) (.slice (some ad203) x7_2.length co43) x7_2) := ⟨by rw [← hq_]; exact (by (with_reducible repeat (first | apply Kd.R_alloc | apply Kd.R_drewN | apply Kd.R_drew)); exact HO_7.out)⟩; have n1_ : Aside0 (Kd.R (Kd.int .i64) 3 wc w.heap.size (fun _ => True) u8 x8_2) := ⟨by rw [← hq_]; exact (by (with_reducible repeat (first | apply Kd.R_alloc | apply Kd.R_drewN | apply Kd.R_drew)); exact HO_8.out)⟩; have n2_ : Aside0 (wc.heap[gb179]? = some (.cells #[.string (⟨#[]⟩ : ByteArray), .int .i64 0] 26 (0, 0))) := ⟨by rw [← hq_]; exact (by (with_reducible repeat (first | refine blk_drewN ?_ _ | refine blk_drew ?_ | refine blk_alloc ?_ _)); exact BK179.out)⟩; have n3_ : Aside0 (wc.heap[gb180]? = some (.cells #[.int .i64 0, .int .i64 0] 29 (0, 0))) := ⟨by rw [← hq_]; exact (by (with_reducible repeat (first | refine blk_drewN ?_ _ | refine blk_drew ?_ | refine blk_alloc ?_ _)); exact BK180.out)⟩; have n4_ : Aside0 (wc.heap[gb199]? = some (.cells #[.string (⟨#[]⟩ : ByteArray), .int .i64 (-1)] 26 (0, 0))) := ⟨by rw [← hq_]; exact (by (with_reducible repeat (first | refine blk_drewN ?_ _ | refine blk_drew ?_ | refine blk_alloc ?_ _)); exact BK199.out)⟩; have n5_ : Aside0 (Below w.heap.size w wc) := ⟨by rw [← hq_]; exact (by repeat (first | (with_reducible first | exact HB.out | apply below_alloc | apply pw_below_drewN | apply below_drew1 | refine below_set ?_ GE179.out | refine below_set ?_ GE180.out | refine below_set ?_ GE199.out) | exact HB.out))⟩; clear HO_7 HO_8 BK179 BK180 BK199 HB hq_; have HO_7 := n0_; have HO_8 := n1_; have BK179 := n2_; have BK180 := n3_; have BK199 := n4_; have HB := n5_; clear n0_ n1_ n2_ n3_ n4_ n5_)); have p208 : 0 ≤ (1 : Int) := (by omega); have q208 : 1 < (x7_2.length : Int) := of_decide_eq_true (by first | (with_reducible assumption) | assumption); obtain ⟨ad208, e208, hx208_0⟩ := Kd.at_string (Kd.R_reads' HO_7.out).2.2 1 p208 q208; obtain rfl : ad203 = ad208 := (by injection e208); (try simp only [show (1 : Int).toNat = 1 from rfl, Nat.reduceMul, Nat.reduceEqDiff, Go.Addr.add, ↓reduceIte] at hx208_0); have qi208 : (1 < x7_2.length) = True := eq_true (by omega); (try rw [show ((1 : Int)).toNat = 1 from rfl] at hx208_0); replace p208 := eq_true p208; replace q208 := eq_true q208; have hnb56 := NB199_179.out; have hnc56 := NB179_199.out; have hnb57 := NB199_180.out; have hnc57 := NB180_199.out; have hcz58_0 : wc.cell? ⟨gb199, 0, none⟩ = some (.string (⟨#[]⟩ : ByteArray)) := (blk_cell BK199.out 0).trans rfl; have hcz58_1 : wc.cell? ⟨gb199, 1, none⟩ = some (.int .i64 (-1)) := (blk_cell BK199.out 1).trans rfl; have hfz58_0 := blk_frozen BK199.out 0; have hfz58_1 := blk_frozen BK199.out 1))
                                go_meet
                                case rel => exact ⟨_, (2), ((⟨#[]⟩ : ByteArray)), (0), (0), (0), (rdOf ByteArray.empty x7_2 1), (by first | rfl | (simp; done) | (simp [*]; done)), H', ⟨by have := HK1.out; have := HK2.out; have := HJ23.out; first | omega | exact Nat.le_refl _⟩, ⟨by (with_reducible repeat (first | apply Kd.R_alloc | apply Kd.R_drewN | apply Kd.R_drew)); exact Kd.R_mono (Kd.R_far (p := ⟨gb199, 0, none⟩) (Kd.R_types HO_7.out BK199.out (by decide)) (fun _ hk => hk.2) (.string (rdOf ByteArray.empty x7_2 1))) (fun _ hk => trivial)⟩, ⟨by (with_reducible repeat (first | apply Kd.R_alloc | apply Kd.R_drewN | apply Kd.R_drew)); exact Kd.R_mono (Kd.R_far (p := ⟨gb199, 0, none⟩) (Kd.R_types HO_8.out BK199.out (by decide)) (fun _ hk => hk.2) (.string (rdOf ByteArray.empty x7_2 1))) (fun _ hk => trivial)⟩, ⟨by (with_reducible repeat (first | refine blk_drewN ?_ _ | refine blk_drew ?_ | refine blk_alloc ?_ _)); refine blk_far ?_ NB179_199.out _; (with_reducible repeat (first | refine blk_drewN ?_ _ | refine blk_drew ?_ | refine blk_alloc ?_ _)); exact BK179.out⟩, ⟨by (with_reducible repeat (first | refine blk_drewN ?_ _ | refine blk_drew ?_ | refine blk_alloc ?_ _)); refine blk_far ?_ NB180_199.out _; (with_reducible repeat (first | refine blk_drewN ?_ _ | refine blk_drew ?_ | refine blk_alloc ?_ _)); exact BK180.out⟩, ⟨by (with_reducible repeat (first | refine blk_drewN ?_ _ | refine blk_drew ?_ | refine blk_alloc ?_ _)); refine blk_put (cs := #[.string (⟨#[]⟩ : ByteArray), .int .i64 (-1)]) ?_ 0 _ rfl; (with_reducible repeat (first | refine blk_drewN ?_ _ | refine blk_drew ?_ | refine blk_alloc ?_ _)); exact BK199.out⟩, ⟨by repeat (first | (with_reducible first | exact HB.out | apply below_alloc | apply pw_below_drewN | apply below_drew1 | refine below_set ?_ GE179.out | refine below_set ?_ GE180.out | refine below_set ?_ GE199.out) | exact HB.out)⟩⟩
                              · replace c55 := Bool.eq_false_iff.mpr c55
                                subst c55
                                have H1 : (if 1 < (x8_2.length : Int) then (some ((⟨#[]⟩ : ByteArray), 0, 4, rd x8_2 1)) else (none)) = some (r1, r2, r3, r4) := by rw [if_neg (show ¬ (false = true) by decide)] at H; exact H
                                clear H
                                have H := H1
                                clear H1
                                by_cases c59 : 1 < (x8_2.length : Int)
                                · rw [if_pos c59] at H
                                  have c59b0 : decide (1 < (x8_2.length : Int)) = true := decide_eq_true c59
                                  have c59b1 : decide (1 < x8_2.length) = true := decide_eq_true (by omega)
                                  clear c59
                                  simp only [Option.some.injEq, Prod.mk.injEq] at H
                                  obtain ⟨rfl, rfl, rfl, rfl⟩ := H
                                  have p204 : 0 ≤ (1 : Int) := (by omega)
                                  have q204 : 1 < (x7_2.length : Int) := of_decide_eq_true (by first | (with_reducible assumption) | assumption)
                                  obtain ⟨ad204, e204, hx204_0⟩ := Kd.at_string (Kd.R_reads' HO_7.out).2.2 1 p204 q204
                                  obtain rfl : ad203 = ad204 := (by injection e204)
                                  (try simp only [show (1 : Int).toNat = 1 from rfl, Nat.reduceMul, Nat.reduceEqDiff, Go.Addr.add, ↓reduceIte] at hx204_0)
                                  have qi204 : (1 < x7_2.length) = True := eq_true (by omega)
                                  (try rw [show ((1 : Int)).toNat = 1 from rfl] at hx204_0)
                                  replace p204 := eq_true p204
                                  replace q204 := eq_true q204
                                  have p206 : 0 ≤ (1 : Int) := (by omega)
                                  have q206 : 1 < (x7_2.length : Int) := of_decide_eq_true (by first | (with_reducible assumption) | assumption)
                                  obtain ⟨ad206, e206, hx206_0⟩ := Kd.at_string (Kd.R_reads' HO_7.out).2.2 1 p206 q206
                                  obtain rfl : ad203 = ad206 := (by injection e206)
                                  (try simp only [show (1 : Int).toNat = 1 from rfl, Nat.reduceMul, Nat.reduceEqDiff, Go.Addr.add, ↓reduceIte] at hx206_0)
                                  have qi206 : (1 < x7_2.length) = True := eq_true (by omega)
                                  (try rw [show ((1 : Int)).toNat = 1 from rfl] at hx206_0)
                                  replace p206 := eq_true p206
                                  replace q206 := eq_true q206
                                  try go_wp2_with (first | ((with_reducible refine gate_callee (f := 18) rfl ?_); refine goesL_ (some 88) rfl rfl Tryd.func18 (by kernel_rfl) rfl #[.string (rdOf ByteArray.empty x7_2 1)] rfl (by (try simp only [List.map_toArray, List.map_cons, List.map_nil]); first | done | rfl | (simp only [List.length_drop, List.length_take]; rfl)) ?_; (with_reducible refine (spoolref04_Name.calls kj23 (rdOf ByteArray.empty x7_2 1) false _ A54.out).mono ?_); rintro e w' ⟨rfl, ⟨nd, rfl⟩⟩; refine ⟨_, rfl, ?_⟩; (try (rw [drewN_self wc]; generalize hq_ : World.drewN wc _ = wc; have n0_ : Aside0 (Kd.R Kd.string 9 wc w.heap.size (fun _ => True) (.slice (some ad203) x7_2.length co43) x7_2) := ⟨by rw [← hq_]; exact (by (with_reducible repeat (first | apply Kd.R_alloc | apply Kd.R_drewN | apply Kd.R_drew)); exact HO_7.out)⟩; have n1_ : Aside0 (Kd.R (Kd.int .i64) 3 wc w.heap.size (fun _ => True) u8 x8_2) := ⟨by rw [← hq_]; exact (by (with_reducible repeat (first | apply Kd.R_alloc | apply Kd.R_drewN | apply Kd.R_drew)); exact HO_8.out)⟩; have n2_ : Aside0 (wc.heap[gb179]? = some (.cells #[.string (⟨#[]⟩ : ByteArray), .int .i64 0] 26 (0, 0))) := ⟨by rw [← hq_]; exact (by (with_reducible repeat (first | refine blk_drewN ?_ _ | refine blk_drew ?_ | refine blk_alloc ?_ _)); exact BK179.out)⟩; have n3_ : Aside0 (wc.heap[gb180]? = some (.cells #[.int .i64 0, .int .i64 0] 29 (0, 0))) := ⟨by rw [← hq_]; exact (by (with_reducible repeat (first | refine blk_drewN ?_ _ | refine blk_drew ?_ | refine blk_alloc ?_ _)); exact BK180.out)⟩; have n4_ : Aside0 (wc.heap[gb199]? = some (.cells #[.string (⟨#[]⟩ : ByteArray), .int .i64 (-1)] 26 (0, 0))) := ⟨by rw [← hq_]; exact (by (with_reducible repeat (first | refine blk_drewN ?_ _ | refine blk_drew ?_ | refine blk_alloc ?_ _)); exact BK199.out)⟩; have n5_ : Aside0 (Below w.heap.size w wc) := ⟨by rw [← hq_]; exact (by repeat (first | (with_reducible first | exact HB.out | apply below_alloc | apply pw_below_drewN | apply below_drew1 | refine below_set ?_ GE179.out | refine below_set ?_ GE180.out | refine below_set ?_ GE199.out) | exact HB.out))⟩; clear HO_7 HO_8 BK179 BK180 BK199 HB hq_; have HO_7 := n0_; have HO_8 := n1_; have BK179 := n2_; have BK180 := n3_; have BK199 := n4_; have HB := n5_; clear n0_ n1_ n2_ n3_ n4_ n5_))))
                                  have n0_ := Aside0.mk (Kd.R_drew HO_7.out)
                                  have n1_ := Aside0.mk (Kd.R_drew HO_8.out)
                                  have n2_ := Aside0.mk (blk_drew BK179.out)
                                  have n3_ := Aside0.mk (blk_drew BK180.out)
                                  have n4_ := Aside0.mk (blk_drew BK199.out)
                                  have n5_ := Aside0.mk (below_drew1 HB.out)
                                  clear HO_7
                                  clear HO_8
                                  clear BK179
                                  clear BK180
                                  clear BK199
                                  clear HB
                                  have HO_7 := n0_
                                  have HO_8 := n1_
                                  have BK179 := n2_
                                  have BK180 := n3_
                                  have BK199 := n4_
                                  have HB := n5_
                                  clear n0_ n1_ n2_ n3_ n4_ n5_
                                  obtain ⟨Ao61, co61, eo61⟩ := Kd.R_slice HO_8.out
                                  (first | subst eo61 | (injection eo61 with f1_ f2_ f3_; have f4_ := f1_.symm; have f5_ := f3_.symm; clear f1_ f2_ f3_; subst f4_; subst f5_))
                                  have p209 : 0 ≤ (1 : Int) := (by omega)
                                  have q209 : 1 < (x8_2.length : Int) := of_decide_eq_true (by first | (with_reducible assumption) | assumption)
                                  obtain ⟨ad209, e209, hx209_0⟩ := Kd.at_int (Kd.R_reads' HO_8.out).2.2 1 p209 q209
                                  cases e209
                                  (try simp only [show (1 : Int).toNat = 1 from rfl, Nat.reduceMul, Nat.reduceEqDiff, Go.Addr.add, ↓reduceIte] at hx209_0)
                                  have qi209 : (1 < x8_2.length) = True := eq_true (by omega)
                                  (try rw [show ((1 : Int)).toNat = 1 from rfl] at hx209_0)
                                  replace p209 := eq_true p209
                                  replace q209 := eq_true q209
                                  refine start_ (n := 7) (S := fun w' => w'.cell? ⟨ad209.block, ad209.off + 1, none⟩ = some (.int .i64 (rd x8_2 1))) (ds := []) #[false, false, false, false, false, false, false] (by kernel_rfl) rfl rfl (hx209_0) (fun hHeld => ?_)
                                  generalize wc.drew = w60 at HO_7 HO_8 BK179 BK180 BK199 HB hx209_0 hHeld ⊢
                                  refine pure_ (i := 0) (N := some 90) (v := ?_) (a' := ?_) #[true, false, false, false, false, false, false] rfl rfl (by kernel_rfl) (fun _ _ _ h => h) (Or.inl ⟨by rfl, ?_⟩) ?_ ?_
                                  rotate_left
                                  · intro w'
                                    go_simp
                                    with_reducible rfl
                                  rotate_left
                                  · simp only [Act.put, List.setIfInBounds_toArray, List.set_cons_zero, List.set_cons_succ, i64_w, i32_w]
                                    rfl
                                  refine pure_ (i := 1) (N := some 91) (v := ?_) (a' := ?_) #[true, true, false, false, false, false, false] rfl rfl (by kernel_rfl) (fun _ _ _ h => h) (Or.inl ⟨by rfl, ?_⟩) ?_ ?_
                                  rotate_left
                                  · intro w'
                                    go_simp
                                    with_reducible rfl
                                  rotate_left
                                  · simp only [Act.put, List.setIfInBounds_toArray, List.set_cons_zero, List.set_cons_succ, i64_w, i32_w]
                                    rfl
                                  refine pure_ (i := 2) (N := some 92) (v := ?_) (a' := ?_) #[true, true, true, false, false, false, false] rfl rfl (by kernel_rfl) (fun _ _ _ h => h) (Or.inl ⟨by rfl, ?_⟩) ?_ ?_
                                  rotate_left
                                  · intro w'
                                    go_simp
                                    with_reducible rfl
                                  rotate_left
                                  · simp only [Act.put, List.setIfInBounds_toArray, List.set_cons_zero, List.set_cons_succ, i64_w, i32_w]
                                    rfl
                                  refine take_ (i := 3) (N := some 93) (v := ?_) (a' := ?_) #[true, true, true, true, false, false, false] rfl rfl (by kernel_rfl) (fun _ _ _ h => h) (Or.inl ⟨by rfl, ?_⟩) hHeld ?_ ?_
                                  rotate_left
                                  · intro w' s0
                                    go_simp
                                    with_reducible rfl
                                  rotate_left
                                  · simp only [Act.put, List.setIfInBounds_toArray, List.set_cons_zero, List.set_cons_succ, i64_w, i32_w]
                                    rfl
                                  refine pure_ (i := 4) (N := some 94) (v := ?_) (a' := ?_) #[true, true, true, true, true, false, false] rfl rfl (by kernel_rfl) (fun _ _ _ h => h) (Or.inl ⟨by rfl, ?_⟩) ?_ ?_
                                  rotate_left
                                  · intro w'
                                    go_simp
                                    with_reducible rfl
                                  rotate_left
                                  · simp only [Act.put, List.setIfInBounds_toArray, List.set_cons_zero, List.set_cons_succ, i64_w, i32_w]
                                    rfl
                                  refine one_ (i := 5) (N := none) #[true, true, true, true, true, true, false] rfl rfl (by kernel_rfl) (by decide) (fun K hK => ?_)
                                  have hs62 : w60.cell? ⟨gb179, 0, none⟩ = some (.string (⟨#[]⟩ : ByteArray)) := (blk_cell BK179.out 0).trans rfl
                                  have hfs62 := blk_frozen BK179.out 0
                                  have hns62_1 := NB180_179.out
                                  have hns62_2 := NB199_179.out
                                  have hms62_1 := NB179_180.out
                                  have hms62_2 := NB179_199.out
                                  have hs63 : w60.cell? ⟨gb179, 1, none⟩ = some (.int .i64 0) := (blk_cell BK179.out 1).trans rfl
                                  have hfs63 := blk_frozen BK179.out 1
                                  have hns63_1 := NB180_179.out
                                  have hns63_2 := NB199_179.out
                                  have hms63_1 := NB179_180.out
                                  have hms63_2 := NB179_199.out
                                  refine skip_ (w1 := ?_) (by rfl) rfl ?_ ?_
                                  rotate_left
                                  · go_simp
                                    rfl
                                  refine hK.out _ _ (((cell_far (a := ⟨ad209.block, ad209.off + 1, none⟩) (p := ⟨gb179, _, none⟩) (show ad209.block ≠ _ from Kd.own_blk (Kd.R_ne HO_8.out BK179.out (by decide))) _).trans (((cell_far (a := ⟨ad209.block, ad209.off + 1, none⟩) (p := ⟨gb179, _, none⟩) (show ad209.block ≠ _ from Kd.own_blk (Kd.R_ne HO_8.out BK179.out (by decide))) _).trans (hHeld))))) (fun hHeld => ?_)
                                  clear hK K
                                  refine one_ (i := 6) (N := none) #[true, true, true, true, true, true, true] rfl rfl (by kernel_rfl) (by decide) (fun K hK => ?_)
                                  have hs64 : w60.cell? ⟨gb180, 0, none⟩ = some (.int .i64 0) := (blk_cell BK180.out 0).trans rfl
                                  have hfs64 := blk_frozen BK180.out 0
                                  have hns64_0 := NB179_180.out
                                  have hns64_2 := NB199_180.out
                                  have hms64_0 := NB180_179.out
                                  have hms64_2 := NB180_199.out
                                  have hs65 : w60.cell? ⟨gb180, 1, none⟩ = some (.int .i64 0) := (blk_cell BK180.out 1).trans rfl
                                  have hfs65 := blk_frozen BK180.out 1
                                  have hns65_0 := NB179_180.out
                                  have hns65_2 := NB199_180.out
                                  have hms65_0 := NB180_179.out
                                  have hms65_2 := NB180_199.out
                                  refine skip_ (w1 := ?_) (by rfl) rfl ?_ ?_
                                  rotate_left
                                  · go_simp
                                    rfl
                                  refine hK.out _ _ (((cell_far (a := ⟨ad209.block, ad209.off + 1, none⟩) (p := ⟨gb180, _, none⟩) (show ad209.block ≠ _ from Kd.own_blk (Kd.R_ne HO_8.out BK180.out (by decide))) _).trans (((cell_far (a := ⟨ad209.block, ad209.off + 1, none⟩) (p := ⟨gb180, _, none⟩) (show ad209.block ≠ _ from Kd.own_blk (Kd.R_ne HO_8.out BK180.out (by decide))) _).trans (hHeld))))) (fun hHeld => ?_)
                                  clear hK K
                                  refine done_ (by kernel_rfl) ?_
                                  try go_wp2
                                  refine bodyPost_ret (results_cc rfl _ _ gb179 gb180 26 29 #[.string (⟨#[]⟩ : ByteArray), .int .i64 0] #[.int .i64 4, .int .i64 (rd x8_2 1)] (0, 0) (0, 0) _ _ rfl (by (with_reducible repeat (first | refine blk_drewN ?_ _ | refine blk_drew ?_ | refine blk_alloc ?_ _)); refine blk_far ?_ NB179_180.out _; (with_reducible repeat (first | refine blk_drewN ?_ _ | refine blk_drew ?_ | refine blk_alloc ?_ _)); refine blk_far ?_ NB179_180.out _; (with_reducible repeat (first | refine blk_drewN ?_ _ | refine blk_drew ?_ | refine blk_alloc ?_ _)); refine blk_put (cs := #[.string (⟨#[]⟩ : ByteArray), .int .i64 0]) ?_ 1 _ rfl; (with_reducible repeat (first | refine blk_drewN ?_ _ | refine blk_drew ?_ | refine blk_alloc ?_ _)); refine blk_put (cs := #[.string (⟨#[]⟩ : ByteArray), .int .i64 0]) ?_ 0 _ rfl; (with_reducible repeat (first | refine blk_drewN ?_ _ | refine blk_drew ?_ | refine blk_alloc ?_ _)); exact BK179.out) Tryd.underlying26 rfl (by kernel_rfl) rfl (by (with_reducible repeat (first | refine blk_drewN ?_ _ | refine blk_drew ?_ | refine blk_alloc ?_ _)); refine blk_put (cs := #[.int .i64 4, .int .i64 0]) ?_ 1 _ rfl; (with_reducible repeat (first | refine blk_drewN ?_ _ | refine blk_drew ?_ | refine blk_alloc ?_ _)); refine blk_put (cs := #[.int .i64 0, .int .i64 0]) ?_ 0 _ rfl; (with_reducible repeat (first | refine blk_drewN ?_ _ | refine blk_drew ?_ | refine blk_alloc ?_ _)); refine blk_far ?_ NB180_179.out _; (with_reducible repeat (first | refine blk_drewN ?_ _ | refine blk_drew ?_ | refine blk_alloc ?_ _)); refine blk_far ?_ NB180_179.out _; (with_reducible repeat (first | refine blk_drewN ?_ _ | refine blk_drew ?_ | refine blk_alloc ?_ _)); exact BK180.out) Tryd.underlying29 rfl (by kernel_rfl)) rfl ?_
                                  exact ⟨by first | rfl | (simp [errW_none, errW_some] <;> rfl) | (simp [*, errW_none, errW_some] <;> rfl), by repeat (first | (with_reducible first | exact HB.out | apply below_alloc | apply pw_below_drewN | apply below_drew1 | refine below_set ?_ GE179.out | refine below_set ?_ GE180.out | refine below_set ?_ GE199.out) | exact HB.out)⟩
                                · rw [if_neg c59] at H
                                  exact absurd H (by simp)
                          · rw [if_neg c45] at H
                            exact absurd H (by simp)
                        · rw [if_neg c44] at H
                          have c44b0 : ((rdOf ByteArray.empty x7_2 0).toList == ([101, 109, 105, 116] : List UInt8)) = false := beq_eq_false_iff_ne.mpr c44
                          have c44b1 : ((rdOf ByteArray.empty x7_2 0).toList != ([101, 109, 105, 116] : List UInt8)) = true := bne_iff_ne.mpr c44
                          (first | rw [c44b0] | (simp only [i64_w, i32_w]; rw [c44b0]) | skip)
                          have H' := Aside0.mk H
                          clear H
                          go_wp2
                          go_meet
                          case rel => exact ⟨_, (1), ((⟨#[]⟩ : ByteArray)), (0), (0), (0), ((⟨#[]⟩ : ByteArray)), (by first | rfl | (simp; done) | (simp [*]; done)), H', ⟨by have := HK1.out; have := HK2.out; have := HJ23.out; first | omega | exact Nat.le_refl _⟩, ⟨by (with_reducible repeat (first | apply Kd.R_alloc | apply Kd.R_drewN | apply Kd.R_drew)); exact HO_7.out⟩, ⟨by (with_reducible repeat (first | apply Kd.R_alloc | apply Kd.R_drewN | apply Kd.R_drew)); exact HO_8.out⟩, ⟨by (with_reducible repeat (first | refine blk_drewN ?_ _ | refine blk_drew ?_ | refine blk_alloc ?_ _)); exact BK179.out⟩, ⟨by (with_reducible repeat (first | refine blk_drewN ?_ _ | refine blk_drew ?_ | refine blk_alloc ?_ _)); exact BK180.out⟩, ⟨by (with_reducible repeat (first | refine blk_drewN ?_ _ | refine blk_drew ?_ | refine blk_alloc ?_ _)); exact BK199.out⟩, ⟨by repeat (first | (with_reducible first | exact HB.out | apply below_alloc | apply pw_below_drewN | apply below_drew1 | refine below_set ?_ GE179.out | refine below_set ?_ GE180.out | refine below_set ?_ GE199.out) | exact HB.out)⟩⟩
                      case rest =>
                        clear HC42
                        try clear c1
                        try clear p1
                        try clear q1
                        try clear hx1
                        try clear c2
                        try clear p2
                        try clear q2
                        try clear hx2
                        try clear qi2
                        try clear c3
                        try clear c4
                        try clear c5
                        try clear p6
                        try clear c7
                        try clear c7b0
                        try clear c8
                        try clear c8b0
                        try clear c9
                        try clear c9b0
                        try clear c9b1
                        try clear c10
                        try clear c10b0
                        try clear c10b1
                        try clear c11
                        try clear c11b0
                        try clear c11b1
                        try clear c12
                        try clear c13
                        try clear c17
                        try clear c18
                        try clear p18
                        try clear q18
                        try clear hx18
                        try clear c19
                        try clear c19b0
                        try clear c20
                        try clear p20
                        try clear q20
                        try clear hx20
                        try clear qi20
                        try clear c21
                        try clear c26
                        try clear c27
                        try clear c29
                        try clear c29b0
                        try clear c29b1
                        try clear c30
                        try clear c30b0
                        try clear c30b1
                        try clear c33
                        try clear c34
                        try clear c34b0
                        try clear c34b1
                        try clear c41
                        try clear c41b0
                        try clear c41b1
                        try clear c44
                        try clear c44b0
                        try clear c44b1
                        try clear c45
                        try clear c45b0
                        try clear c45b1
                        try clear c46
                        try clear c46b0
                        try clear c46b1
                        try clear c47
                        try clear c47b0
                        try clear c47b1
                        try clear c55
                        try clear c56
                        try clear c57
                        try clear c59
                        try clear c59b0
                        try clear c59b1
                        try clear hcz28_0
                        try clear hcz28_1
                        try clear hcz58_0
                        try clear hcz58_1
                        try clear hfz28_0
                        try clear hfz28_1
                        try clear hfz58_0
                        try clear hfz58_1
                        try clear hx184_0
                        try clear hx184_1
                        try clear hx185_0
                        try clear hx185_1
                        try clear hx189_0
                        try clear hx189_1
                        try clear hx200_0
                        try clear hx201_0
                        try clear hx202_0
                        try clear hx203_0
                        try clear hx204_0
                        try clear hx205_0
                        try clear hx206_0
                        try clear hx208_0
                        try clear hx209_0
                        try clear p1
                        try clear p18
                        try clear p184
                        try clear p185
                        try clear p189
                        try clear p2
                        try clear p20
                        try clear p200
                        try clear p201
                        try clear p202
                        try clear p203
                        try clear p204
                        try clear p205
                        try clear p206
                        try clear p208
                        try clear p209
                        try clear p6
                        try clear q1
                        try clear q18
                        try clear q184
                        try clear q185
                        try clear q189
                        try clear q2
                        try clear q20
                        try clear q200
                        try clear q201
                        try clear q202
                        try clear q203
                        try clear q204
                        try clear q205
                        try clear q206
                        try clear q208
                        try clear q209
                        obtain ⟨kq, x12_41, x180000_41, x180001_41, x181000_41, x181001_41, x200000_41, rfl, HA, HJ41, HO_7, HO_8, BK179, BK180, BK199, HB⟩ := hcut
                        cases kq with
                        | zero => exact absurd HA.out (by simp [spoolref17_Parse.j3])
                        | succ kj41 =>
                          have H := HA.out
                          clear HA
                          simp only [spoolref17_Parse.j3] at H
                          by_cases c66 : 0 ≤ x12_41
                          · rw [if_pos c66] at H
                            have c66b0 : decide (0 ≤ x12_41) = true := decide_eq_true c66
                            clear c66
                            by_cases c67 : x12_41 < (x7_2.length : Int)
                            · rw [if_pos c67] at H
                              have c67b0 : decide (x12_41 < (x7_2.length : Int)) = true := decide_eq_true c67
                              clear c67
                              by_cases c68 : (rdOf ByteArray.empty x7_2 x12_41).toList = ([] : List UInt8)
                              · rw [if_pos c68] at H
                                have c68b0 : ((rdOf ByteArray.empty x7_2 x12_41).toList == ([] : List UInt8)) = true := beq_iff_eq.mpr c68
                                have c68b1 : ((rdOf ByteArray.empty x7_2 x12_41).toList != ([] : List UInt8)) = false := bne_eq_false_iff_eq.mpr c68
                                clear c68
                                simp only [Option.some.injEq, Prod.mk.injEq] at H
                                obtain ⟨rfl, rfl, rfl, rfl⟩ := H
                                have p210 : 0 ≤ (x12_41 : Int) := of_decide_eq_true (by first | (with_reducible assumption) | assumption)
                                have q210 : x12_41 < (x7_2.length : Int) := of_decide_eq_true (by first | (with_reducible assumption) | assumption)
                                obtain ⟨ad210, e210, hx210_0⟩ := Kd.at_string (Kd.R_reads' HO_7.out).2.2 x12_41 p210 q210
                                obtain rfl : ad203 = ad210 := (by injection e210)
                                replace p210 := eq_true p210
                                replace q210 := eq_true q210
                                have hnb69 := NB199_179.out
                                have hnc69 := NB179_199.out
                                have hnb70 := NB199_180.out
                                have hnc70 := NB180_199.out
                                have hcz71_0 : wc.cell? ⟨gb199, 0, none⟩ = some (.string x200000_41) := (blk_cell BK199.out 0).trans rfl
                                have hcz71_1 : wc.cell? ⟨gb199, 1, none⟩ = some (.int .i64 (-1)) := (blk_cell BK199.out 1).trans rfl
                                have hfz71_0 := blk_frozen BK199.out 0
                                have hfz71_1 := blk_frozen BK199.out 1
                                have hnb72 := NB179_180.out
                                have hnc72 := NB180_179.out
                                have hcz73_0 : wc.cell? ⟨gb179, 0, none⟩ = some (.string x180000_41) := (blk_cell BK179.out 0).trans rfl
                                have hcz73_1 : wc.cell? ⟨gb179, 1, none⟩ = some (.int .i64 x180001_41) := (blk_cell BK179.out 1).trans rfl
                                have hfz73_0 := blk_frozen BK179.out 0
                                have hfz73_1 := blk_frozen BK179.out 1
                                have hcz74_0 : wc.cell? ⟨gb180, 0, none⟩ = some (.int .i64 x181000_41) := (blk_cell BK180.out 0).trans rfl
                                have hcz74_1 : wc.cell? ⟨gb180, 1, none⟩ = some (.int .i64 x181001_41) := (blk_cell BK180.out 1).trans rfl
                                have hfz74_0 := blk_frozen BK180.out 0
                                have hfz74_1 := blk_frozen BK180.out 1
                                go_wp2
                                refine bodyPost_ret (results_cc rfl _ _ gb179 gb180 26 29 #[.string x200000_41, .int .i64 (-1)] #[.int .i64 0, .int .i64 0] (0, 0) (0, 0) _ _ rfl (by (with_reducible repeat (first | refine blk_drewN ?_ _ | refine blk_drew ?_ | refine blk_alloc ?_ _)); refine blk_far ?_ NB179_180.out _; (with_reducible repeat (first | refine blk_drewN ?_ _ | refine blk_drew ?_ | refine blk_alloc ?_ _)); refine blk_far ?_ NB179_180.out _; (with_reducible repeat (first | refine blk_drewN ?_ _ | refine blk_drew ?_ | refine blk_alloc ?_ _)); refine blk_put (cs := #[.string x200000_41, .int .i64 x180001_41]) ?_ 1 _ rfl; (with_reducible repeat (first | refine blk_drewN ?_ _ | refine blk_drew ?_ | refine blk_alloc ?_ _)); refine blk_put (cs := #[.string x180000_41, .int .i64 x180001_41]) ?_ 0 _ rfl; (with_reducible repeat (first | refine blk_drewN ?_ _ | refine blk_drew ?_ | refine blk_alloc ?_ _)); exact BK179.out) Tryd.underlying26 rfl (by kernel_rfl) rfl (by (with_reducible repeat (first | refine blk_drewN ?_ _ | refine blk_drew ?_ | refine blk_alloc ?_ _)); refine blk_put (cs := #[.int .i64 0, .int .i64 x181001_41]) ?_ 1 _ rfl; (with_reducible repeat (first | refine blk_drewN ?_ _ | refine blk_drew ?_ | refine blk_alloc ?_ _)); refine blk_put (cs := #[.int .i64 x181000_41, .int .i64 x181001_41]) ?_ 0 _ rfl; (with_reducible repeat (first | refine blk_drewN ?_ _ | refine blk_drew ?_ | refine blk_alloc ?_ _)); refine blk_far ?_ NB180_179.out _; (with_reducible repeat (first | refine blk_drewN ?_ _ | refine blk_drew ?_ | refine blk_alloc ?_ _)); refine blk_far ?_ NB180_179.out _; (with_reducible repeat (first | refine blk_drewN ?_ _ | refine blk_drew ?_ | refine blk_alloc ?_ _)); exact BK180.out) Tryd.underlying29 rfl (by kernel_rfl)) rfl ?_
                                exact ⟨by first | rfl | (simp [errW_none, errW_some] <;> rfl) | (simp [*, errW_none, errW_some] <;> rfl), by repeat (first | (with_reducible first | exact HB.out | apply below_alloc | apply pw_below_drewN | apply below_drew1 | refine below_set ?_ GE179.out | refine below_set ?_ GE180.out | refine below_set ?_ GE199.out) | exact HB.out)⟩
                              · rw [if_neg c68] at H
                                have c68b0 : ((rdOf ByteArray.empty x7_2 x12_41).toList == ([] : List UInt8)) = false := beq_eq_false_iff_ne.mpr c68
                                have c68b1 : ((rdOf ByteArray.empty x7_2 x12_41).toList != ([] : List UInt8)) = true := bne_iff_ne.mpr c68
                                by_cases c75 : (rdOf ByteArray.empty x7_2 x12_41).toList = ([103, 111, 116, 111] : List UInt8)
                                · rw [if_pos c75] at H
                                  have c75b0 : ((rdOf ByteArray.empty x7_2 x12_41).toList == ([103, 111, 116, 111] : List UInt8)) = true := beq_iff_eq.mpr c75
                                  have c75b1 : ((rdOf ByteArray.empty x7_2 x12_41).toList != ([103, 111, 116, 111] : List UInt8)) = false := bne_eq_false_iff_eq.mpr c75
                                  clear c75
                                  obtain ⟨ji76, hji76⟩ : ∃ j_ : Int, (wrap64 (x12_41 + 1)) = j_ := ⟨_, rfl⟩
                                  replace H : (if 0 ≤ (ji76) then (if (ji76) < (x7_2.length : Int) then (if (rdOf ByteArray.empty x7_2 (ji76)).toList = ([] : List UInt8) then (if (ji76) < (x8_2.length : Int) then (some ((⟨#[]⟩ : ByteArray), 0, 3, rd x8_2 (ji76))) else (none)) else ((spoolref04_Name.f kj41 (rdOf ByteArray.empty x7_2 (ji76))).bind fun t216 => (if t216 = true then ((spoolref17_place.f kj41 l1 (rdOf ByteArray.empty x7_2 (ji76))).bind fun t219 => (if t219 < 0 then (if (ji76) < (x8_2.length : Int) then (some ((⟨#[]⟩ : ByteArray), 0, 11, rd x8_2 (ji76))) else (none)) else (if 0 ≤ (wrap64 (x12_41 + 2)) then (if (wrap64 (x12_41 + 2)) < (x7_2.length : Int) then (if (rdOf ByteArray.empty x7_2 (wrap64 (x12_41 + 2))).toList = ([] : List UInt8) then (some (x200000_41, t219, 0, 0)) else (if (wrap64 (x12_41 + 2)) < (x8_2.length : Int) then (some ((⟨#[]⟩ : ByteArray), 0, 3, rd x8_2 (wrap64 (x12_41 + 2)))) else (none))) else (none)) else (none)))) else (if (ji76) < (x8_2.length : Int) then (some ((⟨#[]⟩ : ByteArray), 0, 4, rd x8_2 (ji76))) else (none))))) else (none)) else (none)) = some (r1, r2, r3, r4) := by first | (rw [hji76] at H; exact H) | (simp only [hji76] at H ⊢; exact H)
                                  have hji76w : (IntKind.i64.wrap (x12_41 + 1)) = ji76 := (i64_w _).trans hji76
                                  by_cases c77 : 0 ≤ (ji76)
                                  · rw [if_pos c77] at H
                                    have c77b0 : decide (0 ≤ (ji76)) = true := decide_eq_true c77
                                    clear c77
                                    by_cases c78 : (ji76) < (x7_2.length : Int)
                                    · rw [if_pos c78] at H
                                      have c78b0 : decide ((ji76) < (x7_2.length : Int)) = true := decide_eq_true c78
                                      clear c78
                                      by_cases c79 : (rdOf ByteArray.empty x7_2 (ji76)).toList = ([] : List UInt8)
                                      · rw [if_pos c79] at H
                                        have c79b0 : ((rdOf ByteArray.empty x7_2 (ji76)).toList == ([] : List UInt8)) = true := beq_iff_eq.mpr c79
                                        have c79b1 : ((rdOf ByteArray.empty x7_2 (ji76)).toList != ([] : List UInt8)) = false := bne_eq_false_iff_eq.mpr c79
                                        clear c79
                                        by_cases c80 : (ji76) < (x8_2.length : Int)
                                        · rw [if_pos c80] at H
                                          have c80b0 : decide ((ji76) < (x8_2.length : Int)) = true := decide_eq_true c80
                                          clear c80
                                          simp only [Option.some.injEq, Prod.mk.injEq] at H
                                          obtain ⟨rfl, rfl, rfl, rfl⟩ := H
                                          have p210 : 0 ≤ (x12_41 : Int) := of_decide_eq_true (by first | (with_reducible assumption) | assumption)
                                          have q210 : x12_41 < (x7_2.length : Int) := of_decide_eq_true (by first | (with_reducible assumption) | assumption)
                                          obtain ⟨ad210, e210, hx210_0⟩ := Kd.at_string (Kd.R_reads' HO_7.out).2.2 x12_41 p210 q210
                                          obtain rfl : ad203 = ad210 := (by injection e210)
                                          replace p210 := eq_true p210
                                          replace q210 := eq_true q210
                                          have p211 : 0 ≤ (x12_41 : Int) := of_decide_eq_true (by first | (with_reducible assumption) | assumption)
                                          have q211 : x12_41 < (x7_2.length : Int) := of_decide_eq_true (by first | (with_reducible assumption) | assumption)
                                          obtain ⟨ad211, e211, hx211_0⟩ := Kd.at_string (Kd.R_reads' HO_7.out).2.2 x12_41 p211 q211
                                          obtain rfl : ad203 = ad211 := (by injection e211)
                                          replace p211 := eq_true p211
                                          replace q211 := eq_true q211
                                          have p213 : 0 ≤ ((ji76) : Int) := of_decide_eq_true (by first | (with_reducible assumption) | assumption)
                                          have q213 : (ji76) < (x7_2.length : Int) := of_decide_eq_true (by first | (with_reducible assumption) | assumption)
                                          obtain ⟨ad213, e213, hx213_0⟩ := Kd.at_string (Kd.R_reads' HO_7.out).2.2 (ji76) p213 q213
                                          obtain rfl : ad203 = ad213 := (by injection e213)
                                          replace p213 := eq_true p213
                                          replace q213 := eq_true q213
                                          try go_wp2
                                          have n0_ := Aside0.mk (Kd.R_drew HO_7.out)
                                          have n1_ := Aside0.mk (Kd.R_drew HO_8.out)
                                          have n2_ := Aside0.mk (blk_drew BK179.out)
                                          have n3_ := Aside0.mk (blk_drew BK180.out)
                                          have n4_ := Aside0.mk (blk_drew BK199.out)
                                          have n5_ := Aside0.mk (below_drew1 HB.out)
                                          clear HO_7
                                          clear HO_8
                                          clear BK179
                                          clear BK180
                                          clear BK199
                                          clear HB
                                          have HO_7 := n0_
                                          have HO_8 := n1_
                                          have BK179 := n2_
                                          have BK180 := n3_
                                          have BK199 := n4_
                                          have HB := n5_
                                          clear n0_ n1_ n2_ n3_ n4_ n5_
                                          obtain ⟨Ao82, co82, eo82⟩ := Kd.R_slice HO_8.out
                                          (first | subst eo82 | (injection eo82 with f1_ f2_ f3_; have f4_ := f1_.symm; have f5_ := f3_.symm; clear f1_ f2_ f3_; subst f4_; subst f5_))
                                          have p214 : 0 ≤ ((ji76) : Int) := of_decide_eq_true (by first | (with_reducible assumption) | assumption)
                                          have q214 : (ji76) < (x8_2.length : Int) := of_decide_eq_true (by first | (with_reducible assumption) | assumption)
                                          obtain ⟨ad214, e214, hx214_0⟩ := Kd.at_int (Kd.R_reads' HO_8.out).2.2 (ji76) p214 q214
                                          cases e214
                                          replace p214 := eq_true p214
                                          replace q214 := eq_true q214
                                          refine start_ (n := 9) (S := fun w' => w'.cell? (ad214.add ((ji76)).toNat) = some (.int .i64 (rd x8_2 (ji76)))) (ds := []) #[false, false, false, false, false, false, false, false, false] (by kernel_rfl) rfl rfl (hx214_0) (fun hHeld => ?_); refine with_tabW spoolref17_Parse.tab30 spoolref17_Parse.bits30 (fun HT_ HW_ => ?_)
                                          generalize wc.drew = w81 at HO_7 HO_8 BK179 BK180 BK199 HB hx214_0 hHeld ⊢
                                          refine pure_ (i := 0) (N := some 123) (v := ?_) (a' := ?_) #[true, false, false, false, false, false, false, false, false] rfl rfl (any_of HT_.out (by kernel_rfl)) (fun _ _ _ h => h) (Or.inl ⟨by rfl, ?_⟩) ?_ ?_
                                          rotate_left
                                          · intro w'
                                            go_simp
                                            with_reducible rfl
                                          rotate_left
                                          · simp only [Act.put, List.setIfInBounds_toArray, List.set_cons_zero, List.set_cons_succ, i64_w, i32_w]
                                            rfl
                                          refine pure_ (i := 1) (N := some 124) (v := ?_) (a' := ?_) #[true, true, false, false, false, false, false, false, false] rfl rfl (any_of HT_.out (by kernel_rfl)) (fun _ _ _ h => h) (Or.inl ⟨by rfl, ?_⟩) ?_ ?_
                                          rotate_left
                                          · intro w'
                                            go_simp
                                            with_reducible rfl
                                          rotate_left
                                          · simp only [Act.put, List.setIfInBounds_toArray, List.set_cons_zero, List.set_cons_succ, i64_w, i32_w]
                                            rfl
                                          refine pure_ (i := 2) (N := some 125) (v := ?_) (a' := ?_) #[true, true, true, false, false, false, false, false, false] rfl rfl (any_of HT_.out (by kernel_rfl)) (fun _ _ _ h => h) (Or.inl ⟨by rfl, ?_⟩) ?_ ?_
                                          rotate_left
                                          · intro w'
                                            go_simp
                                            with_reducible rfl
                                          rotate_left
                                          · simp only [Act.put, List.setIfInBounds_toArray, List.set_cons_zero, List.set_cons_succ, i64_w, i32_w]
                                            rfl
                                          refine pure_ (i := 3) (N := some 126) (v := ?_) (a' := ?_) #[true, true, true, true, false, false, false, false, false] rfl rfl (any_of HT_.out (by kernel_rfl)) (fun _ _ _ h => h) (Or.inl ⟨by rfl, ?_⟩) ?_ ?_
                                          rotate_left
                                          · intro w'
                                            go_simp
                                            with_reducible rfl
                                          rotate_left
                                          · simp only [Act.put, List.setIfInBounds_toArray, List.set_cons_zero, List.set_cons_succ, i64_w, i32_w]
                                            rfl
                                          refine pure_ (i := 4) (N := some 127) (v := ?_) (a' := ?_) #[true, true, true, true, true, false, false, false, false] rfl rfl (any_of HT_.out (by kernel_rfl)) (fun _ _ _ h => h) (Or.inl ⟨by rfl, ?_⟩) ?_ ?_
                                          rotate_left
                                          · intro w'
                                            go_simp
                                            with_reducible rfl
                                          rotate_left
                                          · simp only [Act.put, List.setIfInBounds_toArray, List.set_cons_zero, List.set_cons_succ, i64_w, i32_w]
                                            rfl
                                          refine take_ (i := 5) (N := some 128) (v := ?_) (a' := ?_) #[true, true, true, true, true, true, false, false, false] rfl rfl (take_ofW HT_.out HW_.out (by kernel_rfl)) (fun _ _ _ h => h) (Or.inl ⟨by rfl, ?_⟩) hHeld ?_ ?_
                                          rotate_left
                                          · intro w' s0
                                            go_simp
                                            with_reducible rfl
                                          rotate_left
                                          · simp only [Act.put, List.setIfInBounds_toArray, List.set_cons_zero, List.set_cons_succ, i64_w, i32_w]
                                            rfl
                                          refine pure_ (i := 6) (N := some 129) (v := ?_) (a' := ?_) #[true, true, true, true, true, true, true, false, false] rfl rfl (any_of HT_.out (by kernel_rfl)) (fun _ _ _ h => h) (Or.inl ⟨by rfl, ?_⟩) ?_ ?_
                                          rotate_left
                                          · intro w'
                                            go_simp
                                            with_reducible rfl
                                          rotate_left
                                          · simp only [Act.put, List.setIfInBounds_toArray, List.set_cons_zero, List.set_cons_succ, i64_w, i32_w]
                                            rfl
                                          refine one_ (i := 7) (N := none) #[true, true, true, true, true, true, true, true, false] rfl rfl (one_of HT_.out (by kernel_rfl)) (by decide) (fun K hK => ?_)
                                          have hs83 : w81.cell? ⟨gb179, 0, none⟩ = some (.string x180000_41) := (blk_cell BK179.out 0).trans rfl
                                          have hfs83 := blk_frozen BK179.out 0
                                          have hns83_1 := NB180_179.out
                                          have hns83_2 := NB199_179.out
                                          have hms83_1 := NB179_180.out
                                          have hms83_2 := NB179_199.out
                                          have hs84 : w81.cell? ⟨gb179, 1, none⟩ = some (.int .i64 x180001_41) := (blk_cell BK179.out 1).trans rfl
                                          have hfs84 := blk_frozen BK179.out 1
                                          have hns84_1 := NB180_179.out
                                          have hns84_2 := NB199_179.out
                                          have hms84_1 := NB179_180.out
                                          have hms84_2 := NB179_199.out
                                          refine skip_ (w1 := ?_) (by rfl) rfl ?_ ?_
                                          rotate_left
                                          · go_simp
                                            rfl
                                          refine hK.out _ _ (((cell_far (a := (ad214.add ((ji76)).toNat)) (p := ⟨gb179, _, none⟩) (by rw [add_block]; exact Kd.own_blk (Kd.R_ne HO_8.out BK179.out (by decide))) _).trans (((cell_far (a := (ad214.add ((ji76)).toNat)) (p := ⟨gb179, _, none⟩) (by rw [add_block]; exact Kd.own_blk (Kd.R_ne HO_8.out BK179.out (by decide))) _).trans (hHeld))))) (fun hHeld => ?_)
                                          clear hK K
                                          refine one_ (i := 8) (N := none) #[true, true, true, true, true, true, true, true, true] rfl rfl (one_of HT_.out (by kernel_rfl)) (by decide) (fun K hK => ?_)
                                          have hs85 : w81.cell? ⟨gb180, 0, none⟩ = some (.int .i64 x181000_41) := (blk_cell BK180.out 0).trans rfl
                                          have hfs85 := blk_frozen BK180.out 0
                                          have hns85_0 := NB179_180.out
                                          have hns85_2 := NB199_180.out
                                          have hms85_0 := NB180_179.out
                                          have hms85_2 := NB180_199.out
                                          have hs86 : w81.cell? ⟨gb180, 1, none⟩ = some (.int .i64 x181001_41) := (blk_cell BK180.out 1).trans rfl
                                          have hfs86 := blk_frozen BK180.out 1
                                          have hns86_0 := NB179_180.out
                                          have hns86_2 := NB199_180.out
                                          have hms86_0 := NB180_179.out
                                          have hms86_2 := NB180_199.out
                                          refine skip_ (w1 := ?_) (by rfl) rfl ?_ ?_
                                          rotate_left
                                          · go_simp
                                            rfl
                                          refine hK.out _ _ (((cell_far (a := (ad214.add ((ji76)).toNat)) (p := ⟨gb180, _, none⟩) (by rw [add_block]; exact Kd.own_blk (Kd.R_ne HO_8.out BK180.out (by decide))) _).trans (((cell_far (a := (ad214.add ((ji76)).toNat)) (p := ⟨gb180, _, none⟩) (by rw [add_block]; exact Kd.own_blk (Kd.R_ne HO_8.out BK180.out (by decide))) _).trans (hHeld))))) (fun hHeld => ?_)
                                          clear hK K
                                          refine done_ (done_of HT_.out (by kernel_rfl)) ?_
                                          try go_wp2
                                          refine bodyPost_ret (results_cc rfl _ _ gb179 gb180 26 29 #[.string (⟨#[]⟩ : ByteArray), .int .i64 0] #[.int .i64 3, .int .i64 (rd x8_2 (ji76))] (0, 0) (0, 0) _ _ rfl (by (with_reducible repeat (first | refine blk_drewN ?_ _ | refine blk_drew ?_ | refine blk_alloc ?_ _)); refine blk_far ?_ NB179_180.out _; (with_reducible repeat (first | refine blk_drewN ?_ _ | refine blk_drew ?_ | refine blk_alloc ?_ _)); refine blk_far ?_ NB179_180.out _; (with_reducible repeat (first | refine blk_drewN ?_ _ | refine blk_drew ?_ | refine blk_alloc ?_ _)); refine blk_put (cs := #[.string (⟨#[]⟩ : ByteArray), .int .i64 x180001_41]) ?_ 1 _ rfl; (with_reducible repeat (first | refine blk_drewN ?_ _ | refine blk_drew ?_ | refine blk_alloc ?_ _)); refine blk_put (cs := #[.string x180000_41, .int .i64 x180001_41]) ?_ 0 _ rfl; (with_reducible repeat (first | refine blk_drewN ?_ _ | refine blk_drew ?_ | refine blk_alloc ?_ _)); exact BK179.out) Tryd.underlying26 rfl (by kernel_rfl) rfl (by (with_reducible repeat (first | refine blk_drewN ?_ _ | refine blk_drew ?_ | refine blk_alloc ?_ _)); refine blk_put (cs := #[.int .i64 3, .int .i64 x181001_41]) ?_ 1 _ rfl; (with_reducible repeat (first | refine blk_drewN ?_ _ | refine blk_drew ?_ | refine blk_alloc ?_ _)); refine blk_put (cs := #[.int .i64 x181000_41, .int .i64 x181001_41]) ?_ 0 _ rfl; (with_reducible repeat (first | refine blk_drewN ?_ _ | refine blk_drew ?_ | refine blk_alloc ?_ _)); refine blk_far ?_ NB180_179.out _; (with_reducible repeat (first | refine blk_drewN ?_ _ | refine blk_drew ?_ | refine blk_alloc ?_ _)); refine blk_far ?_ NB180_179.out _; (with_reducible repeat (first | refine blk_drewN ?_ _ | refine blk_drew ?_ | refine blk_alloc ?_ _)); exact BK180.out) Tryd.underlying29 rfl (by kernel_rfl)) rfl ?_
                                          exact ⟨by first | rfl | (simp [errW_none, errW_some] <;> rfl) | (simp only [← hji76]; first | rfl | (simp [errW_none, errW_some] <;> rfl)) | (simp [*, errW_none, errW_some] <;> rfl), by repeat (first | (with_reducible first | exact HB.out | apply below_alloc | apply pw_below_drewN | apply below_drew1 | refine below_set ?_ GE179.out | refine below_set ?_ GE180.out | refine below_set ?_ GE199.out) | exact HB.out)⟩
                                        · rw [if_neg c80] at H
                                          exact absurd H (by simp)
                                      · rw [if_neg c79] at H
                                        have c79b0 : ((rdOf ByteArray.empty x7_2 (ji76)).toList == ([] : List UInt8)) = false := beq_eq_false_iff_ne.mpr c79
                                        have c79b1 : ((rdOf ByteArray.empty x7_2 (ji76)).toList != ([] : List UInt8)) = true := bne_iff_ne.mpr c79
                                        replace H := Option.bind_eq_some_iff.mp H
                                        obtain ⟨t216, A870, H⟩ := H
                                        replace H : (if t216 = true then ((spoolref17_place.f kj41 l1 (rdOf ByteArray.empty x7_2 (ji76))).bind fun t219 => (if t219 < 0 then (if (ji76) < (x8_2.length : Int) then (some ((⟨#[]⟩ : ByteArray), 0, 11, rd x8_2 (ji76))) else (none)) else (if 0 ≤ (wrap64 (x12_41 + 2)) then (if (wrap64 (x12_41 + 2)) < (x7_2.length : Int) then (if (rdOf ByteArray.empty x7_2 (wrap64 (x12_41 + 2))).toList = ([] : List UInt8) then (some (x200000_41, t219, 0, 0)) else (if (wrap64 (x12_41 + 2)) < (x8_2.length : Int) then (some ((⟨#[]⟩ : ByteArray), 0, 3, rd x8_2 (wrap64 (x12_41 + 2)))) else (none))) else (none)) else (none)))) else (if (ji76) < (x8_2.length : Int) then (some ((⟨#[]⟩ : ByteArray), 0, 4, rd x8_2 (ji76))) else (none))) = some (r1, r2, r3, r4) := H
                                        have A87 := Aside0.mk A870
                                        clear A870
                                        by_cases c88 : t216 = true
                                        · subst c88
                                          have H1 : ((spoolref17_place.f kj41 l1 (rdOf ByteArray.empty x7_2 (ji76))).bind fun t219 => (if t219 < 0 then (if (ji76) < (x8_2.length : Int) then (some ((⟨#[]⟩ : ByteArray), 0, 11, rd x8_2 (ji76))) else (none)) else (if 0 ≤ (wrap64 (x12_41 + 2)) then (if (wrap64 (x12_41 + 2)) < (x7_2.length : Int) then (if (rdOf ByteArray.empty x7_2 (wrap64 (x12_41 + 2))).toList = ([] : List UInt8) then (some (x200000_41, t219, 0, 0)) else (if (wrap64 (x12_41 + 2)) < (x8_2.length : Int) then (some ((⟨#[]⟩ : ByteArray), 0, 3, rd x8_2 (wrap64 (x12_41 + 2)))) else (none))) else (none)) else (none)))) = some (r1, r2, r3, r4) := by rw [if_pos rfl] at H; exact H
                                          clear H
                                          have H := H1
                                          clear H1
                                          replace H := Option.bind_eq_some_iff.mp H
                                          obtain ⟨t219, A890, H⟩ := H
                                          replace H : (if t219 < 0 then (if (ji76) < (x8_2.length : Int) then (some ((⟨#[]⟩ : ByteArray), 0, 11, rd x8_2 (ji76))) else (none)) else (if 0 ≤ (wrap64 (x12_41 + 2)) then (if (wrap64 (x12_41 + 2)) < (x7_2.length : Int) then (if (rdOf ByteArray.empty x7_2 (wrap64 (x12_41 + 2))).toList = ([] : List UInt8) then (some (x200000_41, t219, 0, 0)) else (if (wrap64 (x12_41 + 2)) < (x8_2.length : Int) then (some ((⟨#[]⟩ : ByteArray), 0, 3, rd x8_2 (wrap64 (x12_41 + 2)))) else (none))) else (none)) else (none))) = some (r1, r2, r3, r4) := H
                                          have A89 := Aside0.mk A890
                                          clear A890
                                          by_cases c90 : t219 < 0
                                          · rw [if_pos c90] at H
                                            have c90b0 : decide (t219 < 0) = true := decide_eq_true c90
                                            clear c90
                                            by_cases c91 : (ji76) < (x8_2.length : Int)
                                            · rw [if_pos c91] at H
                                              have c91b0 : decide ((ji76) < (x8_2.length : Int)) = true := decide_eq_true c91
                                              clear c91
                                              simp only [Option.some.injEq, Prod.mk.injEq] at H
                                              obtain ⟨rfl, rfl, rfl, rfl⟩ := H
                                              have p210 : 0 ≤ (x12_41 : Int) := of_decide_eq_true (by first | (with_reducible assumption) | assumption)
                                              have q210 : x12_41 < (x7_2.length : Int) := of_decide_eq_true (by first | (with_reducible assumption) | assumption)
                                              obtain ⟨ad210, e210, hx210_0⟩ := Kd.at_string (Kd.R_reads' HO_7.out).2.2 x12_41 p210 q210
                                              obtain rfl : ad203 = ad210 := (by injection e210)
                                              replace p210 := eq_true p210
                                              replace q210 := eq_true q210
                                              have p211 : 0 ≤ (x12_41 : Int) := of_decide_eq_true (by first | (with_reducible assumption) | assumption)
                                              have q211 : x12_41 < (x7_2.length : Int) := of_decide_eq_true (by first | (with_reducible assumption) | assumption)
                                              obtain ⟨ad211, e211, hx211_0⟩ := Kd.at_string (Kd.R_reads' HO_7.out).2.2 x12_41 p211 q211
                                              obtain rfl : ad203 = ad211 := (by injection e211)
                                              replace p211 := eq_true p211
                                              replace q211 := eq_true q211
                                              have p213 : 0 ≤ ((ji76) : Int) := of_decide_eq_true (by first | (with_reducible assumption) | assumption)
                                              have q213 : (ji76) < (x7_2.length : Int) := of_decide_eq_true (by first | (with_reducible assumption) | assumption)
                                              obtain ⟨ad213, e213, hx213_0⟩ := Kd.at_string (Kd.R_reads' HO_7.out).2.2 (ji76) p213 q213
                                              obtain rfl : ad203 = ad213 := (by injection e213)
                                              replace p213 := eq_true p213
                                              replace q213 := eq_true q213
                                              have p215 : 0 ≤ ((ji76) : Int) := of_decide_eq_true (by first | (with_reducible assumption) | assumption)
                                              have q215 : (ji76) < (x7_2.length : Int) := of_decide_eq_true (by first | (with_reducible assumption) | assumption)
                                              obtain ⟨ad215, e215, hx215_0⟩ := Kd.at_string (Kd.R_reads' HO_7.out).2.2 (ji76) p215 q215
                                              obtain rfl : ad203 = ad215 := (by injection e215)
                                              replace p215 := eq_true p215
                                              replace q215 := eq_true q215
                                              try go_wp2_with (first | ((with_reducible refine gate_callee (f := 18) rfl ?_); refine goesL_ (some 135) rfl rfl Tryd.func18 (by kernel_rfl) rfl #[.string (rdOf ByteArray.empty x7_2 (ji76))] rfl (by (try simp only [List.map_toArray, List.map_cons, List.map_nil]); first | done | (simp only [hji76]; rfl) | rfl | (simp only [List.length_drop, List.length_take]; rfl)) ?_; (with_reducible refine (spoolref04_Name.calls kj41 (rdOf ByteArray.empty x7_2 (ji76)) true _ A87.out).mono ?_); rintro e w' ⟨rfl, ⟨nd, rfl⟩⟩; refine ⟨_, rfl, ?_⟩; (try (rw [drewN_self wc]; generalize hq_ : World.drewN wc _ = wc; have n0_ : Aside0 (Kd.R Kd.string 9 wc w.heap.size (fun _ => True) (.slice (some ad203) x7_2.length co43) x7_2) := ⟨by rw [← hq_]; exact (by (with_reducible repeat (first | apply Kd.R_alloc | apply Kd.R_drewN | apply Kd.R_drew)); exact HO_7.out)⟩; have n1_ : Aside0 (Kd.R (Kd.int .i64) 3 wc w.heap.size (fun _ => True) u8 x8_2) := ⟨by rw [← hq_]; exact (by (with_reducible repeat (first | apply Kd.R_alloc | apply Kd.R_drewN | apply Kd.R_drew)); exact HO_8.out)⟩; have n2_ : Aside0 (wc.heap[gb179]? = some (.cells #[.string x180000_41, .int .i64 x180001_41] 26 (0, 0))) := ⟨by rw [← hq_]; exact (by (with_reducible repeat (first | refine blk_drewN ?_ _ | refine blk_drew ?_ | refine blk_alloc ?_ _)); exact BK179.out)⟩; have n3_ : Aside0 (wc.heap[gb180]? = some (.cells #[.int .i64 x181000_41, .int .i64 x181001_41] 29 (0, 0))) := ⟨by rw [← hq_]; exact (by (with_reducible repeat (first | refine blk_drewN ?_ _ | refine blk_drew ?_ | refine blk_alloc ?_ _)); exact BK180.out)⟩; have n4_ : Aside0 (wc.heap[gb199]? = some (.cells #[.string x200000_41, .int .i64 (-1)] 26 (0, 0))) := ⟨by rw [← hq_]; exact (by (with_reducible repeat (first | refine blk_drewN ?_ _ | refine blk_drew ?_ | refine blk_alloc ?_ _)); exact BK199.out)⟩; have n5_ : Aside0 (Below w.heap.size w wc) := ⟨by rw [← hq_]; exact (by repeat (first | (with_reducible first | exact HB.out | apply below_alloc | apply pw_below_drewN | apply below_drew1 | refine below_set ?_ GE179.out | refine below_set ?_ GE180.out | refine below_set ?_ GE199.out) | exact HB.out))⟩; clear HO_7 HO_8 BK179 BK180 BK199 HB hq_; have HO_7 := n0_; have HO_8 := n1_; have BK179 := n2_; have BK180 := n3_; have BK199 := n4_; have HB := n5_; clear n0_ n1_ n2_ n3_ n4_ n5_)); have p218 : 0 ≤ ((ji76) : Int) := of_decide_eq_true (by first | (with_reducible assumption) | assumption); have q218 : (ji76) < (x7_2.length : Int) := of_decide_eq_true (by first | (with_reducible assumption) | assumption); obtain ⟨ad218, e218, hx218_0⟩ := Kd.at_string (Kd.R_reads' HO_7.out).2.2 (ji76) p218 q218; obtain rfl : ad203 = ad218 := (by injection e218); replace p218 := eq_true p218; replace q218 := eq_true q218) | ((with_reducible refine gate_callee (f := 19) rfl ?_); refine goesL_ (some 150) rfl rfl Tryd.func19 (by kernel_rfl) rfl #[.slice A1 l1.length c1, .string (rdOf ByteArray.empty x7_2 (ji76))] rfl (by (try simp only [List.map_toArray, List.map_cons, List.map_nil]); first | done | (simp only [hji76]; rfl) | rfl | (simp only [List.length_drop, List.length_take]; rfl)) ?_; (with_reducible refine (spoolref17_place.calls kj41 _ _ l1 (rdOf ByteArray.empty x7_2 (ji76)) t219 _ ?side1 ?side2 A89.out).mono ?_); (case side1 => repeat (first | exact (Kd.C_below HR1.out HB.out) | (with_reducible refine Kd.C_alloc ?_ _) | (with_reducible refine Kd.C_drewN ?_ _) | (with_reducible refine Kd.C_drew ?_))); (case side2 => exact HC1.out); rintro e w' ⟨rfl, ⟨nd, rfl⟩⟩; refine ⟨_, rfl, ?_⟩; (try (rw [drewN_self wc]; generalize hq_ : World.drewN wc _ = wc; have n0_ : Aside0 (Kd.R Kd.string 9 wc w.heap.size (fun _ => True) (.slice (some ad203) x7_2.length co43) x7_2) := ⟨by rw [← hq_]; exact (by (with_reducible repeat (first | apply Kd.R_alloc | apply Kd.R_drewN | apply Kd.R_drew)); exact HO_7.out)⟩; have n1_ : Aside0 (Kd.R (Kd.int .i64) 3 wc w.heap.size (fun _ => True) u8 x8_2) := ⟨by rw [← hq_]; exact (by (with_reducible repeat (first | apply Kd.R_alloc | apply Kd.R_drewN | apply Kd.R_drew)); exact HO_8.out)⟩; have n2_ : Aside0 (wc.heap[gb179]? = some (.cells #[.string x180000_41, .int .i64 x180001_41] 26 (0, 0))) := ⟨by rw [← hq_]; exact (by (with_reducible repeat (first | refine blk_drewN ?_ _ | refine blk_drew ?_ | refine blk_alloc ?_ _)); exact BK179.out)⟩; have n3_ : Aside0 (wc.heap[gb180]? = some (.cells #[.int .i64 x181000_41, .int .i64 x181001_41] 29 (0, 0))) := ⟨by rw [← hq_]; exact (by (with_reducible repeat (first | refine blk_drewN ?_ _ | refine blk_drew ?_ | refine blk_alloc ?_ _)); exact BK180.out)⟩; have n4_ : Aside0 (wc.heap[gb199]? = some (.cells #[.string x200000_41, .int .i64 (-1)] 26 (0, 0))) := ⟨by rw [← hq_]; exact (by (with_reducible repeat (first | refine blk_drewN ?_ _ | refine blk_drew ?_ | refine blk_alloc ?_ _)); exact BK199.out)⟩; have n5_ : Aside0 (Below w.heap.size w wc) := ⟨by rw [← hq_]; exact (by repeat (first | (with_reducible first | exact HB.out | apply below_alloc | apply pw_below_drewN | apply below_drew1 | refine below_set ?_ GE179.out | refine below_set ?_ GE180.out | refine below_set ?_ GE199.out) | exact HB.out))⟩; clear HO_7 HO_8 BK179 BK180 BK199 HB hq_; have HO_7 := n0_; have HO_8 := n1_; have BK179 := n2_; have BK180 := n3_; have BK199 := n4_; have HB := n5_; clear n0_ n1_ n2_ n3_ n4_ n5_)); have hnb92 := NB199_179.out; have hnc92 := NB179_199.out; have hnb93 := NB199_180.out; have hnc93 := NB180_199.out; have hcz94_0 : wc.cell? ⟨gb199, 0, none⟩ = some (.string x200000_41) := (blk_cell BK199.out 0).trans rfl; have hcz94_1 : wc.cell? ⟨gb199, 1, none⟩ = some (.int .i64 (-1)) := (blk_cell BK199.out 1).trans rfl; have hfz94_0 := blk_frozen BK199.out 0; have hfz94_1 := blk_frozen BK199.out 1))
                                              have n0_ : Aside0 (Kd.R Kd.string 9 (wc.setCell ⟨gb199, 1, none⟩ (.int .i64 t219)) w.heap.size (fun _ => True) (.slice (some ad203) x7_2.length co43) x7_2) := ⟨by (with_reducible repeat (first | apply Kd.R_alloc | apply Kd.R_drewN | apply Kd.R_drew)); exact Kd.R_mono (Kd.R_far (p := ⟨gb199, 1, none⟩) (Kd.R_types HO_7.out BK199.out (by decide)) (fun _ hk => hk.2) (.int .i64 t219)) (fun _ hk => trivial)⟩
                                              have n1_ : Aside0 (Kd.R (Kd.int .i64) 3 (wc.setCell ⟨gb199, 1, none⟩ (.int .i64 t219)) w.heap.size (fun _ => True) u8 x8_2) := ⟨by (with_reducible repeat (first | apply Kd.R_alloc | apply Kd.R_drewN | apply Kd.R_drew)); exact Kd.R_mono (Kd.R_far (p := ⟨gb199, 1, none⟩) (Kd.R_types HO_8.out BK199.out (by decide)) (fun _ hk => hk.2) (.int .i64 t219)) (fun _ hk => trivial)⟩
                                              have n2_ : Aside0 ((wc.setCell ⟨gb199, 1, none⟩ (.int .i64 t219)).heap[gb179]? = some (.cells #[.string x180000_41, .int .i64 x180001_41] 26 (0, 0))) := ⟨by (with_reducible repeat (first | refine blk_drewN ?_ _ | refine blk_drew ?_ | refine blk_alloc ?_ _)); refine blk_far ?_ NB179_199.out _; (with_reducible repeat (first | refine blk_drewN ?_ _ | refine blk_drew ?_ | refine blk_alloc ?_ _)); exact BK179.out⟩
                                              have n3_ : Aside0 ((wc.setCell ⟨gb199, 1, none⟩ (.int .i64 t219)).heap[gb180]? = some (.cells #[.int .i64 x181000_41, .int .i64 x181001_41] 29 (0, 0))) := ⟨by (with_reducible repeat (first | refine blk_drewN ?_ _ | refine blk_drew ?_ | refine blk_alloc ?_ _)); refine blk_far ?_ NB180_199.out _; (with_reducible repeat (first | refine blk_drewN ?_ _ | refine blk_drew ?_ | refine blk_alloc ?_ _)); exact BK180.out⟩
                                              have n4_ : Aside0 ((wc.setCell ⟨gb199, 1, none⟩ (.int .i64 t219)).heap[gb199]? = some (.cells #[.string x200000_41, .int .i64 t219] 26 (0, 0))) := ⟨by (with_reducible repeat (first | refine blk_drewN ?_ _ | refine blk_drew ?_ | refine blk_alloc ?_ _)); refine blk_put (cs := #[.string x200000_41, .int .i64 (-1)]) ?_ 1 _ rfl; (with_reducible repeat (first | refine blk_drewN ?_ _ | refine blk_drew ?_ | refine blk_alloc ?_ _)); exact BK199.out⟩
                                              have n5_ : Aside0 (Below w.heap.size w (wc.setCell ⟨gb199, 1, none⟩ (.int .i64 t219))) := ⟨by repeat (first | (with_reducible first | exact HB.out | apply below_alloc | apply pw_below_drewN | apply below_drew1 | refine below_set ?_ GE179.out | refine below_set ?_ GE180.out | refine below_set ?_ GE199.out) | exact HB.out)⟩
                                              (try clear HO_7)
                                              (try clear HO_8)
                                              (try clear BK179)
                                              (try clear BK180)
                                              (try clear BK199)
                                              (try clear HB)
                                              generalize (wc.setCell ⟨gb199, 1, none⟩ (.int .i64 t219)) = w95 at n0_ n1_ n2_ n3_ n4_ n5_ ⊢
                                              have HO_7 := n0_
                                              have HO_8 := n1_
                                              have BK179 := n2_
                                              have BK180 := n3_
                                              have BK199 := n4_
                                              have HB := n5_
                                              clear n0_ n1_ n2_ n3_ n4_ n5_
                                              have n0_ := Aside0.mk (Kd.R_drew HO_7.out)
                                              have n1_ := Aside0.mk (Kd.R_drew HO_8.out)
                                              have n2_ := Aside0.mk (blk_drew BK179.out)
                                              have n3_ := Aside0.mk (blk_drew BK180.out)
                                              have n4_ := Aside0.mk (blk_drew BK199.out)
                                              have n5_ := Aside0.mk (below_drew1 HB.out)
                                              clear HO_7
                                              clear HO_8
                                              clear BK179
                                              clear BK180
                                              clear BK199
                                              clear HB
                                              have HO_7 := n0_
                                              have HO_8 := n1_
                                              have BK179 := n2_
                                              have BK180 := n3_
                                              have BK199 := n4_
                                              have HB := n5_
                                              clear n0_ n1_ n2_ n3_ n4_ n5_
                                              obtain ⟨Ao97, co97, eo97⟩ := Kd.R_slice HO_8.out
                                              (first | subst eo97 | (injection eo97 with f1_ f2_ f3_; have f4_ := f1_.symm; have f5_ := f3_.symm; clear f1_ f2_ f3_; subst f4_; subst f5_))
                                              have p220 : 0 ≤ ((ji76) : Int) := of_decide_eq_true (by first | (with_reducible assumption) | assumption)
                                              have q220 : (ji76) < (x8_2.length : Int) := of_decide_eq_true (by first | (with_reducible assumption) | assumption)
                                              obtain ⟨ad220, e220, hx220_0⟩ := Kd.at_int (Kd.R_reads' HO_8.out).2.2 (ji76) p220 q220
                                              cases e220
                                              replace p220 := eq_true p220
                                              replace q220 := eq_true q220
                                              refine start_ (n := 9) (S := fun w' => w'.cell? (ad220.add ((ji76)).toNat) = some (.int .i64 (rd x8_2 (ji76)))) (ds := []) #[false, false, false, false, false, false, false, false, false] (by kernel_rfl) rfl rfl (hx220_0) (fun hHeld => ?_); refine with_tabW spoolref17_Parse.tab35 spoolref17_Parse.bits35 (fun HT_ HW_ => ?_)
                                              generalize w95.drew = w96 at HO_7 HO_8 BK179 BK180 BK199 HB hx220_0 hHeld ⊢
                                              refine pure_ (i := 0) (N := some 155) (v := ?_) (a' := ?_) #[true, false, false, false, false, false, false, false, false] rfl rfl (any_of HT_.out (by kernel_rfl)) (fun _ _ _ h => h) (Or.inl ⟨by rfl, ?_⟩) ?_ ?_
                                              rotate_left
                                              · intro w'
                                                go_simp
                                                with_reducible rfl
                                              rotate_left
                                              · simp only [Act.put, List.setIfInBounds_toArray, List.set_cons_zero, List.set_cons_succ, i64_w, i32_w]
                                                rfl
                                              refine pure_ (i := 1) (N := some 156) (v := ?_) (a' := ?_) #[true, true, false, false, false, false, false, false, false] rfl rfl (any_of HT_.out (by kernel_rfl)) (fun _ _ _ h => h) (Or.inl ⟨by rfl, ?_⟩) ?_ ?_
                                              rotate_left
                                              · intro w'
                                                go_simp
                                                with_reducible rfl
                                              rotate_left
                                              · simp only [Act.put, List.setIfInBounds_toArray, List.set_cons_zero, List.set_cons_succ, i64_w, i32_w]
                                                rfl
                                              refine pure_ (i := 2) (N := some 157) (v := ?_) (a' := ?_) #[true, true, true, false, false, false, false, false, false] rfl rfl (any_of HT_.out (by kernel_rfl)) (fun _ _ _ h => h) (Or.inl ⟨by rfl, ?_⟩) ?_ ?_
                                              rotate_left
                                              · intro w'
                                                go_simp
                                                with_reducible rfl
                                              rotate_left
                                              · simp only [Act.put, List.setIfInBounds_toArray, List.set_cons_zero, List.set_cons_succ, i64_w, i32_w]
                                                rfl
                                              refine pure_ (i := 3) (N := some 158) (v := ?_) (a' := ?_) #[true, true, true, true, false, false, false, false, false] rfl rfl (any_of HT_.out (by kernel_rfl)) (fun _ _ _ h => h) (Or.inl ⟨by rfl, ?_⟩) ?_ ?_
                                              rotate_left
                                              · intro w'
                                                go_simp
                                                with_reducible rfl
                                              rotate_left
                                              · simp only [Act.put, List.setIfInBounds_toArray, List.set_cons_zero, List.set_cons_succ, i64_w, i32_w]
                                                rfl
                                              refine pure_ (i := 4) (N := some 159) (v := ?_) (a' := ?_) #[true, true, true, true, true, false, false, false, false] rfl rfl (any_of HT_.out (by kernel_rfl)) (fun _ _ _ h => h) (Or.inl ⟨by rfl, ?_⟩) ?_ ?_
                                              rotate_left
                                              · intro w'
                                                go_simp
                                                with_reducible rfl
                                              rotate_left
                                              · simp only [Act.put, List.setIfInBounds_toArray, List.set_cons_zero, List.set_cons_succ, i64_w, i32_w]
                                                rfl
                                              refine take_ (i := 5) (N := some 160) (v := ?_) (a' := ?_) #[true, true, true, true, true, true, false, false, false] rfl rfl (take_ofW HT_.out HW_.out (by kernel_rfl)) (fun _ _ _ h => h) (Or.inl ⟨by rfl, ?_⟩) hHeld ?_ ?_
                                              rotate_left
                                              · intro w' s0
                                                go_simp
                                                with_reducible rfl
                                              rotate_left
                                              · simp only [Act.put, List.setIfInBounds_toArray, List.set_cons_zero, List.set_cons_succ, i64_w, i32_w]
                                                rfl
                                              refine pure_ (i := 6) (N := some 161) (v := ?_) (a' := ?_) #[true, true, true, true, true, true, true, false, false] rfl rfl (any_of HT_.out (by kernel_rfl)) (fun _ _ _ h => h) (Or.inl ⟨by rfl, ?_⟩) ?_ ?_
                                              rotate_left
                                              · intro w'
                                                go_simp
                                                with_reducible rfl
                                              rotate_left
                                              · simp only [Act.put, List.setIfInBounds_toArray, List.set_cons_zero, List.set_cons_succ, i64_w, i32_w]
                                                rfl
                                              refine one_ (i := 7) (N := none) #[true, true, true, true, true, true, true, true, false] rfl rfl (one_of HT_.out (by kernel_rfl)) (by decide) (fun K hK => ?_)
                                              have hs98 : w96.cell? ⟨gb179, 0, none⟩ = some (.string x180000_41) := (blk_cell BK179.out 0).trans rfl
                                              have hfs98 := blk_frozen BK179.out 0
                                              have hns98_1 := NB180_179.out
                                              have hns98_2 := NB199_179.out
                                              have hms98_1 := NB179_180.out
                                              have hms98_2 := NB179_199.out
                                              have hs99 : w96.cell? ⟨gb179, 1, none⟩ = some (.int .i64 x180001_41) := (blk_cell BK179.out 1).trans rfl
                                              have hfs99 := blk_frozen BK179.out 1
                                              have hns99_1 := NB180_179.out
                                              have hns99_2 := NB199_179.out
                                              have hms99_1 := NB179_180.out
                                              have hms99_2 := NB179_199.out
                                              refine skip_ (w1 := ?_) (by rfl) rfl ?_ ?_
                                              rotate_left
                                              · go_simp
                                                rfl
                                              refine hK.out _ _ (((cell_far (a := (ad220.add ((ji76)).toNat)) (p := ⟨gb179, _, none⟩) (by rw [add_block]; exact Kd.own_blk (Kd.R_ne HO_8.out BK179.out (by decide))) _).trans (((cell_far (a := (ad220.add ((ji76)).toNat)) (p := ⟨gb179, _, none⟩) (by rw [add_block]; exact Kd.own_blk (Kd.R_ne HO_8.out BK179.out (by decide))) _).trans (hHeld))))) (fun hHeld => ?_)
                                              clear hK K
                                              refine one_ (i := 8) (N := none) #[true, true, true, true, true, true, true, true, true] rfl rfl (one_of HT_.out (by kernel_rfl)) (by decide) (fun K hK => ?_)
                                              have hs100 : w96.cell? ⟨gb180, 0, none⟩ = some (.int .i64 x181000_41) := (blk_cell BK180.out 0).trans rfl
                                              have hfs100 := blk_frozen BK180.out 0
                                              have hns100_0 := NB179_180.out
                                              have hns100_2 := NB199_180.out
                                              have hms100_0 := NB180_179.out
                                              have hms100_2 := NB180_199.out
                                              have hs101 : w96.cell? ⟨gb180, 1, none⟩ = some (.int .i64 x181001_41) := (blk_cell BK180.out 1).trans rfl
                                              have hfs101 := blk_frozen BK180.out 1
                                              have hns101_0 := NB179_180.out
                                              have hns101_2 := NB199_180.out
                                              have hms101_0 := NB180_179.out
                                              have hms101_2 := NB180_199.out
                                              refine skip_ (w1 := ?_) (by rfl) rfl ?_ ?_
                                              rotate_left
                                              · go_simp
                                                rfl
                                              refine hK.out _ _ (((cell_far (a := (ad220.add ((ji76)).toNat)) (p := ⟨gb180, _, none⟩) (by rw [add_block]; exact Kd.own_blk (Kd.R_ne HO_8.out BK180.out (by decide))) _).trans (((cell_far (a := (ad220.add ((ji76)).toNat)) (p := ⟨gb180, _, none⟩) (by rw [add_block]; exact Kd.own_blk (Kd.R_ne HO_8.out BK180.out (by decide))) _).trans (hHeld))))) (fun hHeld => ?_)
                                              clear hK K
                                              refine done_ (done_of HT_.out (by kernel_rfl)) ?_
                                              try go_wp2
                                              refine bodyPost_ret (results_cc rfl _ _ gb179 gb180 26 29 #[.string (⟨#[]⟩ : ByteArray), .int .i64 0] #[.int .i64 11, .int .i64 (rd x8_2 (ji76))] (0, 0) (0, 0) _ _ rfl (by (with_reducible repeat (first | refine blk_drewN ?_ _ | refine blk_drew ?_ | refine blk_alloc ?_ _)); refine blk_far ?_ NB179_180.out _; (with_reducible repeat (first | refine blk_drewN ?_ _ | refine blk_drew ?_ | refine blk_alloc ?_ _)); refine blk_far ?_ NB179_180.out _; (with_reducible repeat (first | refine blk_drewN ?_ _ | refine blk_drew ?_ | refine blk_alloc ?_ _)); refine blk_put (cs := #[.string (⟨#[]⟩ : ByteArray), .int .i64 x180001_41]) ?_ 1 _ rfl; (with_reducible repeat (first | refine blk_drewN ?_ _ | refine blk_drew ?_ | refine blk_alloc ?_ _)); refine blk_put (cs := #[.string x180000_41, .int .i64 x180001_41]) ?_ 0 _ rfl; (with_reducible repeat (first | refine blk_drewN ?_ _ | refine blk_drew ?_ | refine blk_alloc ?_ _)); exact BK179.out) Tryd.underlying26 rfl (by kernel_rfl) rfl (by (with_reducible repeat (first | refine blk_drewN ?_ _ | refine blk_drew ?_ | refine blk_alloc ?_ _)); refine blk_put (cs := #[.int .i64 11, .int .i64 x181001_41]) ?_ 1 _ rfl; (with_reducible repeat (first | refine blk_drewN ?_ _ | refine blk_drew ?_ | refine blk_alloc ?_ _)); refine blk_put (cs := #[.int .i64 x181000_41, .int .i64 x181001_41]) ?_ 0 _ rfl; (with_reducible repeat (first | refine blk_drewN ?_ _ | refine blk_drew ?_ | refine blk_alloc ?_ _)); refine blk_far ?_ NB180_179.out _; (with_reducible repeat (first | refine blk_drewN ?_ _ | refine blk_drew ?_ | refine blk_alloc ?_ _)); refine blk_far ?_ NB180_179.out _; (with_reducible repeat (first | refine blk_drewN ?_ _ | refine blk_drew ?_ | refine blk_alloc ?_ _)); exact BK180.out) Tryd.underlying29 rfl (by kernel_rfl)) rfl ?_
                                              exact ⟨by first | rfl | (simp [errW_none, errW_some] <;> rfl) | (simp only [← hji76]; first | rfl | (simp [errW_none, errW_some] <;> rfl)) | (simp [*, errW_none, errW_some] <;> rfl), by repeat (first | (with_reducible first | exact HB.out | apply below_alloc | apply pw_below_drewN | apply below_drew1 | refine below_set ?_ GE179.out | refine below_set ?_ GE180.out | refine below_set ?_ GE199.out) | exact HB.out)⟩
                                            · rw [if_neg c91] at H
                                              exact absurd H (by simp)
                                          · rw [if_neg c90] at H
                                            have c90b0 : decide (t219 < 0) = false := decide_eq_false c90
                                            clear c90
                                            obtain ⟨ji102, hji102⟩ : ∃ j_ : Int, (wrap64 (x12_41 + 2)) = j_ := ⟨_, rfl⟩
                                            replace H : (if 0 ≤ (ji102) then (if (ji102) < (x7_2.length : Int) then (if (rdOf ByteArray.empty x7_2 (ji102)).toList = ([] : List UInt8) then (some (x200000_41, t219, 0, 0)) else (if (ji102) < (x8_2.length : Int) then (some ((⟨#[]⟩ : ByteArray), 0, 3, rd x8_2 (ji102))) else (none))) else (none)) else (none)) = some (r1, r2, r3, r4) := by first | (rw [hji102] at H; exact H) | (simp only [hji102] at H ⊢; exact H)
                                            (try rw [hji102] at A87)
                                            (try rw [hji102] at A89)
                                            have hji102w : (IntKind.i64.wrap (x12_41 + 2)) = ji102 := (i64_w _).trans hji102
                                            by_cases c103 : 0 ≤ (ji102)
                                            · rw [if_pos c103] at H
                                              have c103b0 : decide (0 ≤ (ji102)) = true := decide_eq_true c103
                                              clear c103
                                              by_cases c104 : (ji102) < (x7_2.length : Int)
                                              · rw [if_pos c104] at H
                                                have c104b0 : decide ((ji102) < (x7_2.length : Int)) = true := decide_eq_true c104
                                                clear c104
                                                by_cases c105 : (rdOf ByteArray.empty x7_2 (ji102)).toList = ([] : List UInt8)
                                                · rw [if_pos c105] at H
                                                  have c105b0 : ((rdOf ByteArray.empty x7_2 (ji102)).toList == ([] : List UInt8)) = true := beq_iff_eq.mpr c105
                                                  have c105b1 : ((rdOf ByteArray.empty x7_2 (ji102)).toList != ([] : List UInt8)) = false := bne_eq_false_iff_eq.mpr c105
                                                  clear c105
                                                  simp only [Option.some.injEq, Prod.mk.injEq] at H
                                                  obtain ⟨rfl, rfl, rfl, rfl⟩ := H
                                                  have p210 : 0 ≤ (x12_41 : Int) := of_decide_eq_true (by first | (with_reducible assumption) | assumption)
                                                  have q210 : x12_41 < (x7_2.length : Int) := of_decide_eq_true (by first | (with_reducible assumption) | assumption)
                                                  obtain ⟨ad210, e210, hx210_0⟩ := Kd.at_string (Kd.R_reads' HO_7.out).2.2 x12_41 p210 q210
                                                  obtain rfl : ad203 = ad210 := (by injection e210)
                                                  replace p210 := eq_true p210
                                                  replace q210 := eq_true q210
                                                  have p211 : 0 ≤ (x12_41 : Int) := of_decide_eq_true (by first | (with_reducible assumption) | assumption)
                                                  have q211 : x12_41 < (x7_2.length : Int) := of_decide_eq_true (by first | (with_reducible assumption) | assumption)
                                                  obtain ⟨ad211, e211, hx211_0⟩ := Kd.at_string (Kd.R_reads' HO_7.out).2.2 x12_41 p211 q211
                                                  obtain rfl : ad203 = ad211 := (by injection e211)
                                                  replace p211 := eq_true p211
                                                  replace q211 := eq_true q211
                                                  have p213 : 0 ≤ ((ji76) : Int) := of_decide_eq_true (by first | (with_reducible assumption) | assumption)
                                                  have q213 : (ji76) < (x7_2.length : Int) := of_decide_eq_true (by first | (with_reducible assumption) | assumption)
                                                  obtain ⟨ad213, e213, hx213_0⟩ := Kd.at_string (Kd.R_reads' HO_7.out).2.2 (ji76) p213 q213
                                                  obtain rfl : ad203 = ad213 := (by injection e213)
                                                  replace p213 := eq_true p213
                                                  replace q213 := eq_true q213
                                                  have p215 : 0 ≤ ((ji76) : Int) := of_decide_eq_true (by first | (with_reducible assumption) | assumption)
                                                  have q215 : (ji76) < (x7_2.length : Int) := of_decide_eq_true (by first | (with_reducible assumption) | assumption)
                                                  obtain ⟨ad215, e215, hx215_0⟩ := Kd.at_string (Kd.R_reads' HO_7.out).2.2 (ji76) p215 q215
                                                  obtain rfl : ad203 = ad215 := (by injection e215)
                                                  replace p215 := eq_true p215
                                                  replace q215 := eq_true q215
                                                  go_wp2_with (first | ((with_reducible refine gate_callee (f := 18) rfl ?_); refine goesL_ (some 135) rfl rfl Tryd.func18 (by kernel_rfl) rfl #[.string (rdOf ByteArray.empty x7_2 (ji76))] rfl (by (try simp only [List.map_toArray, List.map_cons, List.map_nil]); first | done | (simp only [hji76]; rfl) | rfl | (simp only [List.length_drop, List.length_take]; rfl)) ?_; (with_reducible refine (spoolref04_Name.calls kj41 (rdOf ByteArray.empty x7_2 (ji76)) true _ A87.out).mono ?_); rintro e w' ⟨rfl, ⟨nd, rfl⟩⟩; refine ⟨_, rfl, ?_⟩; (try (rw [drewN_self wc]; generalize hq_ : World.drewN wc _ = wc; have n0_ : Aside0 (Kd.R Kd.string 9 wc w.heap.size (fun _ => True) (.slice (some ad203) x7_2.length co43) x7_2) := ⟨by rw [← hq_]; exact (by (with_reducible repeat (first | apply Kd.R_alloc | apply Kd.R_drewN | apply Kd.R_drew)); exact HO_7.out)⟩; have n1_ : Aside0 (Kd.R (Kd.int .i64) 3 wc w.heap.size (fun _ => True) u8 x8_2) := ⟨by rw [← hq_]; exact (by (with_reducible repeat (first | apply Kd.R_alloc | apply Kd.R_drewN | apply Kd.R_drew)); exact HO_8.out)⟩; have n2_ : Aside0 (wc.heap[gb179]? = some (.cells #[.string x180000_41, .int .i64 x180001_41] 26 (0, 0))) := ⟨by rw [← hq_]; exact (by (with_reducible repeat (first | refine blk_drewN ?_ _ | refine blk_drew ?_ | refine blk_alloc ?_ _)); exact BK179.out)⟩; have n3_ : Aside0 (wc.heap[gb180]? = some (.cells #[.int .i64 x181000_41, .int .i64 x181001_41] 29 (0, 0))) := ⟨by rw [← hq_]; exact (by (with_reducible repeat (first | refine blk_drewN ?_ _ | refine blk_drew ?_ | refine blk_alloc ?_ _)); exact BK180.out)⟩; have n4_ : Aside0 (wc.heap[gb199]? = some (.cells #[.string x200000_41, .int .i64 (-1)] 26 (0, 0))) := ⟨by rw [← hq_]; exact (by (with_reducible repeat (first | refine blk_drewN ?_ _ | refine blk_drew ?_ | refine blk_alloc ?_ _)); exact BK199.out)⟩; have n5_ : Aside0 (Below w.heap.size w wc) := ⟨by rw [← hq_]; exact (by repeat (first | (with_reducible first | exact HB.out | apply below_alloc | apply pw_below_drewN | apply below_drew1 | refine below_set ?_ GE179.out | refine below_set ?_ GE180.out | refine below_set ?_ GE199.out) | exact HB.out))⟩; clear HO_7 HO_8 BK179 BK180 BK199 HB hq_; have HO_7 := n0_; have HO_8 := n1_; have BK179 := n2_; have BK180 := n3_; have BK199 := n4_; have HB := n5_; clear n0_ n1_ n2_ n3_ n4_ n5_)); have p218 : 0 ≤ ((ji76) : Int) := of_decide_eq_true (by first | (with_reducible assumption) | assumption); have q218 : (ji76) < (x7_2.length : Int) := of_decide_eq_true (by first | (with_reducible assumption) | assumption); obtain ⟨ad218, e218, hx218_0⟩ := Kd.at_string (Kd.R_reads' HO_7.out).2.2 (ji76) p218 q218; obtain rfl : ad203 = ad218 := (by injection e218); replace p218 := eq_true p218; replace q218 := eq_true q218) | ((with_reducible refine gate_callee (f := 19) rfl ?_); refine goesL_ (some 150) rfl rfl Tryd.func19 (by kernel_rfl) rfl #[.slice A1 l1.length c1, .string (rdOf ByteArray.empty x7_2 (ji76))] rfl (by (try simp only [List.map_toArray, List.map_cons, List.map_nil]); first | done | (simp only [hji76]; rfl) | rfl | (simp only [List.length_drop, List.length_take]; rfl)) ?_; (with_reducible refine (spoolref17_place.calls kj41 _ _ l1 (rdOf ByteArray.empty x7_2 (ji76)) t219 _ ?side1 ?side2 A89.out).mono ?_); (case side1 => repeat (first | exact (Kd.C_below HR1.out HB.out) | (with_reducible refine Kd.C_alloc ?_ _) | (with_reducible refine Kd.C_drewN ?_ _) | (with_reducible refine Kd.C_drew ?_))); (case side2 => exact HC1.out); rintro e w' ⟨rfl, ⟨nd, rfl⟩⟩; refine ⟨_, rfl, ?_⟩; (try (rw [drewN_self wc]; generalize hq_ : World.drewN wc _ = wc; have n0_ : Aside0 (Kd.R Kd.string 9 wc w.heap.size (fun _ => True) (.slice (some ad203) x7_2.length co43) x7_2) := ⟨by rw [← hq_]; exact (by (with_reducible repeat (first | apply Kd.R_alloc | apply Kd.R_drewN | apply Kd.R_drew)); exact HO_7.out)⟩; have n1_ : Aside0 (Kd.R (Kd.int .i64) 3 wc w.heap.size (fun _ => True) u8 x8_2) := ⟨by rw [← hq_]; exact (by (with_reducible repeat (first | apply Kd.R_alloc | apply Kd.R_drewN | apply Kd.R_drew)); exact HO_8.out)⟩; have n2_ : Aside0 (wc.heap[gb179]? = some (.cells #[.string x180000_41, .int .i64 x180001_41] 26 (0, 0))) := ⟨by rw [← hq_]; exact (by (with_reducible repeat (first | refine blk_drewN ?_ _ | refine blk_drew ?_ | refine blk_alloc ?_ _)); exact BK179.out)⟩; have n3_ : Aside0 (wc.heap[gb180]? = some (.cells #[.int .i64 x181000_41, .int .i64 x181001_41] 29 (0, 0))) := ⟨by rw [← hq_]; exact (by (with_reducible repeat (first | refine blk_drewN ?_ _ | refine blk_drew ?_ | refine blk_alloc ?_ _)); exact BK180.out)⟩; have n4_ : Aside0 (wc.heap[gb199]? = some (.cells #[.string x200000_41, .int .i64 (-1)] 26 (0, 0))) := ⟨by rw [← hq_]; exact (by (with_reducible repeat (first | refine blk_drewN ?_ _ | refine blk_drew ?_ | refine blk_alloc ?_ _)); exact BK199.out)⟩; have n5_ : Aside0 (Below w.heap.size w wc) := ⟨by rw [← hq_]; exact (by repeat (first | (with_reducible first | exact HB.out | apply below_alloc | apply pw_below_drewN | apply below_drew1 | refine below_set ?_ GE179.out | refine below_set ?_ GE180.out | refine below_set ?_ GE199.out) | exact HB.out))⟩; clear HO_7 HO_8 BK179 BK180 BK199 HB hq_; have HO_7 := n0_; have HO_8 := n1_; have BK179 := n2_; have BK180 := n3_; have BK199 := n4_; have HB := n5_; clear n0_ n1_ n2_ n3_ n4_ n5_)); have hnb106 := NB199_179.out; have hnc106 := NB179_199.out; have hnb107 := NB199_180.out; have hnc107 := NB180_199.out; have hcz108_0 : wc.cell? ⟨gb199, 0, none⟩ = some (.string x200000_41) := (blk_cell BK199.out 0).trans rfl; have hcz108_1 : wc.cell? ⟨gb199, 1, none⟩ = some (.int .i64 (-1)) := (blk_cell BK199.out 1).trans rfl; have hfz108_0 := blk_frozen BK199.out 0; have hfz108_1 := blk_frozen BK199.out 1; have p221 : 0 ≤ ((ji102) : Int) := of_decide_eq_true (by first | (with_reducible assumption) | assumption); have q221 : (ji102) < (x7_2.length : Int) := of_decide_eq_true (by first | (with_reducible assumption) | assumption); obtain ⟨ad221, e221, hx221_0⟩ := Kd.at_string (Kd.R_reads' HO_7.out).2.2 (ji102) p221 q221; obtain rfl : ad203 = ad221 := (by injection e221); have hn221_0 : ad203.block ≠ gb199 := Kd.own_blk (Kd.R_ne HO_7.out BK199.out (by decide)); replace hx221_0 := (cell_far (p := ⟨gb199, 1, none⟩) (by first | (rw [add_block]; exact hn221_0) | (show (Addr.add _ _).block ≠ _; rw [add_block]; exact hn221_0) | exact hn221_0) (.int .i64 t219)).trans hx221_0; clear hn221_0; replace p221 := eq_true p221; replace q221 := eq_true q221; have hnb109 := NB179_180.out; have hnc109 := NB180_179.out; have hcz110_0 : wc.cell? ⟨gb179, 0, none⟩ = some (.string x180000_41) := (blk_cell BK179.out 0).trans rfl; have hcz110_1 : wc.cell? ⟨gb179, 1, none⟩ = some (.int .i64 x180001_41) := (blk_cell BK179.out 1).trans rfl; have hfz110_0 := blk_frozen BK179.out 0; have hfz110_1 := blk_frozen BK179.out 1; have hcz111_0 : wc.cell? ⟨gb180, 0, none⟩ = some (.int .i64 x181000_41) := (blk_cell BK180.out 0).trans rfl; have hcz111_1 : wc.cell? ⟨gb180, 1, none⟩ = some (.int .i64 x181001_41) := (blk_cell BK180.out 1).trans rfl; have hfz111_0 := blk_frozen BK180.out 0; have hfz111_1 := blk_frozen BK180.out 1))
                                                  refine bodyPost_ret (results_cc rfl _ _ gb179 gb180 26 29 #[.string x200000_41, .int .i64 t219] #[.int .i64 0, .int .i64 0] (0, 0) (0, 0) _ _ rfl (by (with_reducible repeat (first | refine blk_drewN ?_ _ | refine blk_drew ?_ | refine blk_alloc ?_ _)); refine blk_far ?_ NB179_180.out _; (with_reducible repeat (first | refine blk_drewN ?_ _ | refine blk_drew ?_ | refine blk_alloc ?_ _)); refine blk_far ?_ NB179_180.out _; (with_reducible repeat (first | refine blk_drewN ?_ _ | refine blk_drew ?_ | refine blk_alloc ?_ _)); refine blk_put (cs := #[.string x200000_41, .int .i64 x180001_41]) ?_ 1 _ rfl; (with_reducible repeat (first | refine blk_drewN ?_ _ | refine blk_drew ?_ | refine blk_alloc ?_ _)); refine blk_put (cs := #[.string x180000_41, .int .i64 x180001_41]) ?_ 0 _ rfl; (with_reducible repeat (first | refine blk_drewN ?_ _ | refine blk_drew ?_ | refine blk_alloc ?_ _)); refine blk_far ?_ NB179_199.out _; (with_reducible repeat (first | refine blk_drewN ?_ _ | refine blk_drew ?_ | refine blk_alloc ?_ _)); exact BK179.out) Tryd.underlying26 rfl (by kernel_rfl) rfl (by (with_reducible repeat (first | refine blk_drewN ?_ _ | refine blk_drew ?_ | refine blk_alloc ?_ _)); refine blk_put (cs := #[.int .i64 0, .int .i64 x181001_41]) ?_ 1 _ rfl; (with_reducible repeat (first | refine blk_drewN ?_ _ | refine blk_drew ?_ | refine blk_alloc ?_ _)); refine blk_put (cs := #[.int .i64 x181000_41, .int .i64 x181001_41]) ?_ 0 _ rfl; (with_reducible repeat (first | refine blk_drewN ?_ _ | refine blk_drew ?_ | refine blk_alloc ?_ _)); refine blk_far ?_ NB180_179.out _; (with_reducible repeat (first | refine blk_drewN ?_ _ | refine blk_drew ?_ | refine blk_alloc ?_ _)); refine blk_far ?_ NB180_179.out _; (with_reducible repeat (first | refine blk_drewN ?_ _ | refine blk_drew ?_ | refine blk_alloc ?_ _)); refine blk_far ?_ NB180_199.out _; (with_reducible repeat (first | refine blk_drewN ?_ _ | refine blk_drew ?_ | refine blk_alloc ?_ _)); exact BK180.out) Tryd.underlying29 rfl (by kernel_rfl)) rfl ?_
                                                  exact ⟨by first | rfl | (simp [errW_none, errW_some] <;> rfl) | (simp only [← hji76, ← hji102]; first | rfl | (simp [errW_none, errW_some] <;> rfl)) | (simp [*, errW_none, errW_some] <;> rfl), by repeat (first | (with_reducible first | exact HB.out | apply below_alloc | apply pw_below_drewN | apply below_drew1 | refine below_set ?_ GE179.out | refine below_set ?_ GE180.out | refine below_set ?_ GE199.out) | exact HB.out)⟩
                                                · rw [if_neg c105] at H
                                                  have c105b0 : ((rdOf ByteArray.empty x7_2 (ji102)).toList == ([] : List UInt8)) = false := beq_eq_false_iff_ne.mpr c105
                                                  have c105b1 : ((rdOf ByteArray.empty x7_2 (ji102)).toList != ([] : List UInt8)) = true := bne_iff_ne.mpr c105
                                                  by_cases c112 : (ji102) < (x8_2.length : Int)
                                                  · rw [if_pos c112] at H
                                                    have c112b0 : decide ((ji102) < (x8_2.length : Int)) = true := decide_eq_true c112
                                                    clear c112
                                                    simp only [Option.some.injEq, Prod.mk.injEq] at H
                                                    obtain ⟨rfl, rfl, rfl, rfl⟩ := H
                                                    have p210 : 0 ≤ (x12_41 : Int) := of_decide_eq_true (by first | (with_reducible assumption) | assumption)
                                                    have q210 : x12_41 < (x7_2.length : Int) := of_decide_eq_true (by first | (with_reducible assumption) | assumption)
                                                    obtain ⟨ad210, e210, hx210_0⟩ := Kd.at_string (Kd.R_reads' HO_7.out).2.2 x12_41 p210 q210
                                                    obtain rfl : ad203 = ad210 := (by injection e210)
                                                    replace p210 := eq_true p210
                                                    replace q210 := eq_true q210
                                                    have p211 : 0 ≤ (x12_41 : Int) := of_decide_eq_true (by first | (with_reducible assumption) | assumption)
                                                    have q211 : x12_41 < (x7_2.length : Int) := of_decide_eq_true (by first | (with_reducible assumption) | assumption)
                                                    obtain ⟨ad211, e211, hx211_0⟩ := Kd.at_string (Kd.R_reads' HO_7.out).2.2 x12_41 p211 q211
                                                    obtain rfl : ad203 = ad211 := (by injection e211)
                                                    replace p211 := eq_true p211
                                                    replace q211 := eq_true q211
                                                    have p213 : 0 ≤ ((ji76) : Int) := of_decide_eq_true (by first | (with_reducible assumption) | assumption)
                                                    have q213 : (ji76) < (x7_2.length : Int) := of_decide_eq_true (by first | (with_reducible assumption) | assumption)
                                                    obtain ⟨ad213, e213, hx213_0⟩ := Kd.at_string (Kd.R_reads' HO_7.out).2.2 (ji76) p213 q213
                                                    obtain rfl : ad203 = ad213 := (by injection e213)
                                                    replace p213 := eq_true p213
                                                    replace q213 := eq_true q213
                                                    have p215 : 0 ≤ ((ji76) : Int) := of_decide_eq_true (by first | (with_reducible assumption) | assumption)
                                                    have q215 : (ji76) < (x7_2.length : Int) := of_decide_eq_true (by first | (with_reducible assumption) | assumption)
                                                    obtain ⟨ad215, e215, hx215_0⟩ := Kd.at_string (Kd.R_reads' HO_7.out).2.2 (ji76) p215 q215
                                                    obtain rfl : ad203 = ad215 := (by injection e215)
                                                    replace p215 := eq_true p215
                                                    replace q215 := eq_true q215
                                                    try go_wp2_with (first | ((with_reducible refine gate_callee (f := 18) rfl ?_); refine goesL_ (some 135) rfl rfl Tryd.func18 (by kernel_rfl) rfl #[.string (rdOf ByteArray.empty x7_2 (ji76))] rfl (by (try simp only [List.map_toArray, List.map_cons, List.map_nil]); first | done | (simp only [hji76]; rfl) | rfl | (simp only [List.length_drop, List.length_take]; rfl)) ?_; (with_reducible refine (spoolref04_Name.calls kj41 (rdOf ByteArray.empty x7_2 (ji76)) true _ A87.out).mono ?_); rintro e w' ⟨rfl, ⟨nd, rfl⟩⟩; refine ⟨_, rfl, ?_⟩; (try (rw [drewN_self wc]; generalize hq_ : World.drewN wc _ = wc; have n0_ : Aside0 (Kd.R Kd.string 9 wc w.heap.size (fun _ => True) (.slice (some ad203) x7_2.length co43) x7_2) := ⟨by rw [← hq_]; exact (by (with_reducible repeat (first | apply Kd.R_alloc | apply Kd.R_drewN | apply Kd.R_drew)); exact HO_7.out)⟩; have n1_ : Aside0 (Kd.R (Kd.int .i64) 3 wc w.heap.size (fun _ => True) u8 x8_2) := ⟨by rw [← hq_]; exact (by (with_reducible repeat (first | apply Kd.R_alloc | apply Kd.R_drewN | apply Kd.R_drew)); exact HO_8.out)⟩; have n2_ : Aside0 (wc.heap[gb179]? = some (.cells #[.string x180000_41, .int .i64 x180001_41] 26 (0, 0))) := ⟨by rw [← hq_]; exact (by (with_reducible repeat (first | refine blk_drewN ?_ _ | refine blk_drew ?_ | refine blk_alloc ?_ _)); exact BK179.out)⟩; have n3_ : Aside0 (wc.heap[gb180]? = some (.cells #[.int .i64 x181000_41, .int .i64 x181001_41] 29 (0, 0))) := ⟨by rw [← hq_]; exact (by (with_reducible repeat (first | refine blk_drewN ?_ _ | refine blk_drew ?_ | refine blk_alloc ?_ _)); exact BK180.out)⟩; have n4_ : Aside0 (wc.heap[gb199]? = some (.cells #[.string x200000_41, .int .i64 (-1)] 26 (0, 0))) := ⟨by rw [← hq_]; exact (by (with_reducible repeat (first | refine blk_drewN ?_ _ | refine blk_drew ?_ | refine blk_alloc ?_ _)); exact BK199.out)⟩; have n5_ : Aside0 (Below w.heap.size w wc) := ⟨by rw [← hq_]; exact (by repeat (first | (with_reducible first | exact HB.out | apply below_alloc | apply pw_below_drewN | apply below_drew1 | refine below_set ?_ GE179.out | refine below_set ?_ GE180.out | refine below_set ?_ GE199.out) | exact HB.out))⟩; clear HO_7 HO_8 BK179 BK180 BK199 HB hq_; have HO_7 := n0_; have HO_8 := n1_; have BK179 := n2_; have BK180 := n3_; have BK199 := n4_; have HB := n5_; clear n0_ n1_ n2_ n3_ n4_ n5_)); have p218 : 0 ≤ ((ji76) : Int) := of_decide_eq_true (by first | (with_reducible assumption) | assumption); have q218 : (ji76) < (x7_2.length : Int) := of_decide_eq_true (by first | (with_reducible assumption) | assumption); obtain ⟨ad218, e218, hx218_0⟩ := Kd.at_string (Kd.R_reads' HO_7.out).2.2 (ji76) p218 q218; obtain rfl : ad203 = ad218 := (by injection e218); replace p218 := eq_true p218; replace q218 := eq_true q218) | ((with_reducible refine gate_callee (f := 19) rfl ?_); refine goesL_ (some 150) rfl rfl Tryd.func19 (by kernel_rfl) rfl #[.slice A1 l1.length c1, .string (rdOf ByteArray.empty x7_2 (ji76))] rfl (by (try simp only [List.map_toArray, List.map_cons, List.map_nil]); first | done | (simp only [hji76]; rfl) | rfl | (simp only [List.length_drop, List.length_take]; rfl)) ?_; (with_reducible refine (spoolref17_place.calls kj41 _ _ l1 (rdOf ByteArray.empty x7_2 (ji76)) t219 _ ?side1 ?side2 A89.out).mono ?_); (case side1 => repeat (first | exact (Kd.C_below HR1.out HB.out) | (with_reducible refine Kd.C_alloc ?_ _) | (with_reducible refine Kd.C_drewN ?_ _) | (with_reducible refine Kd.C_drew ?_))); (case side2 => exact HC1.out); rintro e w' ⟨rfl, ⟨nd, rfl⟩⟩; refine ⟨_, rfl, ?_⟩; (try (rw [drewN_self wc]; generalize hq_ : World.drewN wc _ = wc; have n0_ : Aside0 (Kd.R Kd.string 9 wc w.heap.size (fun _ => True) (.slice (some ad203) x7_2.length co43) x7_2) := ⟨by rw [← hq_]; exact (by (with_reducible repeat (first | apply Kd.R_alloc | apply Kd.R_drewN | apply Kd.R_drew)); exact HO_7.out)⟩; have n1_ : Aside0 (Kd.R (Kd.int .i64) 3 wc w.heap.size (fun _ => True) u8 x8_2) := ⟨by rw [← hq_]; exact (by (with_reducible repeat (first | apply Kd.R_alloc | apply Kd.R_drewN | apply Kd.R_drew)); exact HO_8.out)⟩; have n2_ : Aside0 (wc.heap[gb179]? = some (.cells #[.string x180000_41, .int .i64 x180001_41] 26 (0, 0))) := ⟨by rw [← hq_]; exact (by (with_reducible repeat (first | refine blk_drewN ?_ _ | refine blk_drew ?_ | refine blk_alloc ?_ _)); exact BK179.out)⟩; have n3_ : Aside0 (wc.heap[gb180]? = some (.cells #[.int .i64 x181000_41, .int .i64 x181001_41] 29 (0, 0))) := ⟨by rw [← hq_]; exact (by (with_reducible repeat (first | refine blk_drewN ?_ _ | refine blk_drew ?_ | refine blk_alloc ?_ _)); exact BK180.out)⟩; have n4_ : Aside0 (wc.heap[gb199]? = some (.cells #[.string x200000_41, .int .i64 (-1)] 26 (0, 0))) := ⟨by rw [← hq_]; exact (by (with_reducible repeat (first | refine blk_drewN ?_ _ | refine blk_drew ?_ | refine blk_alloc ?_ _)); exact BK199.out)⟩; have n5_ : Aside0 (Below w.heap.size w wc) := ⟨by rw [← hq_]; exact (by repeat (first | (with_reducible first | exact HB.out | apply below_alloc | apply pw_below_drewN | apply below_drew1 | refine below_set ?_ GE179.out | refine below_set ?_ GE180.out | refine below_set ?_ GE199.out) | exact HB.out))⟩; clear HO_7 HO_8 BK179 BK180 BK199 HB hq_; have HO_7 := n0_; have HO_8 := n1_; have BK179 := n2_; have BK180 := n3_; have BK199 := n4_; have HB := n5_; clear n0_ n1_ n2_ n3_ n4_ n5_)); have hnb113 := NB199_179.out; have hnc113 := NB179_199.out; have hnb114 := NB199_180.out; have hnc114 := NB180_199.out; have hcz115_0 : wc.cell? ⟨gb199, 0, none⟩ = some (.string x200000_41) := (blk_cell BK199.out 0).trans rfl; have hcz115_1 : wc.cell? ⟨gb199, 1, none⟩ = some (.int .i64 (-1)) := (blk_cell BK199.out 1).trans rfl; have hfz115_0 := blk_frozen BK199.out 0; have hfz115_1 := blk_frozen BK199.out 1; have p221 : 0 ≤ ((ji102) : Int) := of_decide_eq_true (by first | (with_reducible assumption) | assumption); have q221 : (ji102) < (x7_2.length : Int) := of_decide_eq_true (by first | (with_reducible assumption) | assumption); obtain ⟨ad221, e221, hx221_0⟩ := Kd.at_string (Kd.R_reads' HO_7.out).2.2 (ji102) p221 q221; obtain rfl : ad203 = ad221 := (by injection e221); have hn221_0 : ad203.block ≠ gb199 := Kd.own_blk (Kd.R_ne HO_7.out BK199.out (by decide)); replace hx221_0 := (cell_far (p := ⟨gb199, 1, none⟩) (by first | (rw [add_block]; exact hn221_0) | (show (Addr.add _ _).block ≠ _; rw [add_block]; exact hn221_0) | exact hn221_0) (.int .i64 t219)).trans hx221_0; clear hn221_0; replace p221 := eq_true p221; replace q221 := eq_true q221))
                                                    have n0_ : Aside0 (Kd.R Kd.string 9 (wc.setCell ⟨gb199, 1, none⟩ (.int .i64 t219)) w.heap.size (fun _ => True) (.slice (some ad203) x7_2.length co43) x7_2) := ⟨by (with_reducible repeat (first | apply Kd.R_alloc | apply Kd.R_drewN | apply Kd.R_drew)); exact Kd.R_mono (Kd.R_far (p := ⟨gb199, 1, none⟩) (Kd.R_types HO_7.out BK199.out (by decide)) (fun _ hk => hk.2) (.int .i64 t219)) (fun _ hk => trivial)⟩
                                                    have n1_ : Aside0 (Kd.R (Kd.int .i64) 3 (wc.setCell ⟨gb199, 1, none⟩ (.int .i64 t219)) w.heap.size (fun _ => True) u8 x8_2) := ⟨by (with_reducible repeat (first | apply Kd.R_alloc | apply Kd.R_drewN | apply Kd.R_drew)); exact Kd.R_mono (Kd.R_far (p := ⟨gb199, 1, none⟩) (Kd.R_types HO_8.out BK199.out (by decide)) (fun _ hk => hk.2) (.int .i64 t219)) (fun _ hk => trivial)⟩
                                                    have n2_ : Aside0 ((wc.setCell ⟨gb199, 1, none⟩ (.int .i64 t219)).heap[gb179]? = some (.cells #[.string x180000_41, .int .i64 x180001_41] 26 (0, 0))) := ⟨by (with_reducible repeat (first | refine blk_drewN ?_ _ | refine blk_drew ?_ | refine blk_alloc ?_ _)); refine blk_far ?_ NB179_199.out _; (with_reducible repeat (first | refine blk_drewN ?_ _ | refine blk_drew ?_ | refine blk_alloc ?_ _)); exact BK179.out⟩
                                                    have n3_ : Aside0 ((wc.setCell ⟨gb199, 1, none⟩ (.int .i64 t219)).heap[gb180]? = some (.cells #[.int .i64 x181000_41, .int .i64 x181001_41] 29 (0, 0))) := ⟨by (with_reducible repeat (first | refine blk_drewN ?_ _ | refine blk_drew ?_ | refine blk_alloc ?_ _)); refine blk_far ?_ NB180_199.out _; (with_reducible repeat (first | refine blk_drewN ?_ _ | refine blk_drew ?_ | refine blk_alloc ?_ _)); exact BK180.out⟩
                                                    have n4_ : Aside0 ((wc.setCell ⟨gb199, 1, none⟩ (.int .i64 t219)).heap[gb199]? = some (.cells #[.string x200000_41, .int .i64 t219] 26 (0, 0))) := ⟨by (with_reducible repeat (first | refine blk_drewN ?_ _ | refine blk_drew ?_ | refine blk_alloc ?_ _)); refine blk_put (cs := #[.string x200000_41, .int .i64 (-1)]) ?_ 1 _ rfl; (with_reducible repeat (first | refine blk_drewN ?_ _ | refine blk_drew ?_ | refine blk_alloc ?_ _)); exact BK199.out⟩
                                                    have n5_ : Aside0 (Below w.heap.size w (wc.setCell ⟨gb199, 1, none⟩ (.int .i64 t219))) := ⟨by repeat (first | (with_reducible first | exact HB.out | apply below_alloc | apply pw_below_drewN | apply below_drew1 | refine below_set ?_ GE179.out | refine below_set ?_ GE180.out | refine below_set ?_ GE199.out) | exact HB.out)⟩
                                                    (try clear HO_7)
                                                    (try clear HO_8)
                                                    (try clear BK179)
                                                    (try clear BK180)
                                                    (try clear BK199)
                                                    (try clear HB)
                                                    generalize (wc.setCell ⟨gb199, 1, none⟩ (.int .i64 t219)) = w116 at n0_ n1_ n2_ n3_ n4_ n5_ ⊢
                                                    have HO_7 := n0_
                                                    have HO_8 := n1_
                                                    have BK179 := n2_
                                                    have BK180 := n3_
                                                    have BK199 := n4_
                                                    have HB := n5_
                                                    clear n0_ n1_ n2_ n3_ n4_ n5_
                                                    have n0_ := Aside0.mk (Kd.R_drew HO_7.out)
                                                    have n1_ := Aside0.mk (Kd.R_drew HO_8.out)
                                                    have n2_ := Aside0.mk (blk_drew BK179.out)
                                                    have n3_ := Aside0.mk (blk_drew BK180.out)
                                                    have n4_ := Aside0.mk (blk_drew BK199.out)
                                                    have n5_ := Aside0.mk (below_drew1 HB.out)
                                                    clear HO_7
                                                    clear HO_8
                                                    clear BK179
                                                    clear BK180
                                                    clear BK199
                                                    clear HB
                                                    have HO_7 := n0_
                                                    have HO_8 := n1_
                                                    have BK179 := n2_
                                                    have BK180 := n3_
                                                    have BK199 := n4_
                                                    have HB := n5_
                                                    clear n0_ n1_ n2_ n3_ n4_ n5_
                                                    obtain ⟨Ao118, co118, eo118⟩ := Kd.R_slice HO_8.out
                                                    (first | subst eo118 | (injection eo118 with f1_ f2_ f3_; have f4_ := f1_.symm; have f5_ := f3_.symm; clear f1_ f2_ f3_; subst f4_; subst f5_))
                                                    have p222 : 0 ≤ ((ji102) : Int) := of_decide_eq_true (by first | (with_reducible assumption) | assumption)
                                                    have q222 : (ji102) < (x8_2.length : Int) := of_decide_eq_true (by first | (with_reducible assumption) | assumption)
                                                    obtain ⟨ad222, e222, hx222_0⟩ := Kd.at_int (Kd.R_reads' HO_8.out).2.2 (ji102) p222 q222
                                                    cases e222
                                                    replace p222 := eq_true p222
                                                    replace q222 := eq_true q222
                                                    refine start_ (n := 9) (S := fun w' => w'.cell? (ad222.add ((ji102)).toNat) = some (.int .i64 (rd x8_2 (ji102)))) (ds := []) #[false, false, false, false, false, false, false, false, false] (by kernel_rfl) rfl rfl (hx222_0) (fun hHeld => ?_); refine with_tabW spoolref17_Parse.tab37 spoolref17_Parse.bits37 (fun HT_ HW_ => ?_)
                                                    generalize w116.drew = w117 at HO_7 HO_8 BK179 BK180 BK199 HB hx222_0 hHeld ⊢
                                                    refine pure_ (i := 0) (N := some 168) (v := ?_) (a' := ?_) #[true, false, false, false, false, false, false, false, false] rfl rfl (any_of HT_.out (by kernel_rfl)) (fun _ _ _ h => h) (Or.inl ⟨by rfl, ?_⟩) ?_ ?_
                                                    rotate_left
                                                    · intro w'
                                                      go_simp
                                                      with_reducible rfl
                                                    rotate_left
                                                    · simp only [Act.put, List.setIfInBounds_toArray, List.set_cons_zero, List.set_cons_succ, i64_w, i32_w]
                                                      rfl
                                                    refine pure_ (i := 1) (N := some 169) (v := ?_) (a' := ?_) #[true, true, false, false, false, false, false, false, false] rfl rfl (any_of HT_.out (by kernel_rfl)) (fun _ _ _ h => h) (Or.inl ⟨by rfl, ?_⟩) ?_ ?_
                                                    rotate_left
                                                    · intro w'
                                                      go_simp
                                                      with_reducible rfl
                                                    rotate_left
                                                    · simp only [Act.put, List.setIfInBounds_toArray, List.set_cons_zero, List.set_cons_succ, i64_w, i32_w]
                                                      rfl
                                                    refine pure_ (i := 2) (N := some 170) (v := ?_) (a' := ?_) #[true, true, true, false, false, false, false, false, false] rfl rfl (any_of HT_.out (by kernel_rfl)) (fun _ _ _ h => h) (Or.inl ⟨by rfl, ?_⟩) ?_ ?_
                                                    rotate_left
                                                    · intro w'
                                                      go_simp
                                                      with_reducible rfl
                                                    rotate_left
                                                    · simp only [Act.put, List.setIfInBounds_toArray, List.set_cons_zero, List.set_cons_succ, i64_w, i32_w]
                                                      rfl
                                                    refine pure_ (i := 3) (N := some 171) (v := ?_) (a' := ?_) #[true, true, true, true, false, false, false, false, false] rfl rfl (any_of HT_.out (by kernel_rfl)) (fun _ _ _ h => h) (Or.inl ⟨by rfl, ?_⟩) ?_ ?_
                                                    rotate_left
                                                    · intro w'
                                                      go_simp
                                                      with_reducible rfl
                                                    rotate_left
                                                    · simp only [Act.put, List.setIfInBounds_toArray, List.set_cons_zero, List.set_cons_succ, i64_w, i32_w]
                                                      rfl
                                                    refine pure_ (i := 4) (N := some 172) (v := ?_) (a' := ?_) #[true, true, true, true, true, false, false, false, false] rfl rfl (any_of HT_.out (by kernel_rfl)) (fun _ _ _ h => h) (Or.inl ⟨by rfl, ?_⟩) ?_ ?_
                                                    rotate_left
                                                    · intro w'
                                                      go_simp
                                                      with_reducible rfl
                                                    rotate_left
                                                    · simp only [Act.put, List.setIfInBounds_toArray, List.set_cons_zero, List.set_cons_succ, i64_w, i32_w]
                                                      rfl
                                                    refine take_ (i := 5) (N := some 173) (v := ?_) (a' := ?_) #[true, true, true, true, true, true, false, false, false] rfl rfl (take_ofW HT_.out HW_.out (by kernel_rfl)) (fun _ _ _ h => h) (Or.inl ⟨by rfl, ?_⟩) hHeld ?_ ?_
                                                    rotate_left
                                                    · intro w' s0
                                                      go_simp
                                                      with_reducible rfl
                                                    rotate_left
                                                    · simp only [Act.put, List.setIfInBounds_toArray, List.set_cons_zero, List.set_cons_succ, i64_w, i32_w]
                                                      rfl
                                                    refine pure_ (i := 6) (N := some 174) (v := ?_) (a' := ?_) #[true, true, true, true, true, true, true, false, false] rfl rfl (any_of HT_.out (by kernel_rfl)) (fun _ _ _ h => h) (Or.inl ⟨by rfl, ?_⟩) ?_ ?_
                                                    rotate_left
                                                    · intro w'
                                                      go_simp
                                                      with_reducible rfl
                                                    rotate_left
                                                    · simp only [Act.put, List.setIfInBounds_toArray, List.set_cons_zero, List.set_cons_succ, i64_w, i32_w]
                                                      rfl
                                                    refine one_ (i := 7) (N := none) #[true, true, true, true, true, true, true, true, false] rfl rfl (one_of HT_.out (by kernel_rfl)) (by decide) (fun K hK => ?_)
                                                    have hs119 : w117.cell? ⟨gb179, 0, none⟩ = some (.string x180000_41) := (blk_cell BK179.out 0).trans rfl
                                                    have hfs119 := blk_frozen BK179.out 0
                                                    have hns119_1 := NB180_179.out
                                                    have hns119_2 := NB199_179.out
                                                    have hms119_1 := NB179_180.out
                                                    have hms119_2 := NB179_199.out
                                                    have hs120 : w117.cell? ⟨gb179, 1, none⟩ = some (.int .i64 x180001_41) := (blk_cell BK179.out 1).trans rfl
                                                    have hfs120 := blk_frozen BK179.out 1
                                                    have hns120_1 := NB180_179.out
                                                    have hns120_2 := NB199_179.out
                                                    have hms120_1 := NB179_180.out
                                                    have hms120_2 := NB179_199.out
                                                    refine skip_ (w1 := ?_) (by rfl) rfl ?_ ?_
                                                    rotate_left
                                                    · go_simp
                                                      rfl
                                                    refine hK.out _ _ (((cell_far (a := (ad222.add ((ji102)).toNat)) (p := ⟨gb179, _, none⟩) (by rw [add_block]; exact Kd.own_blk (Kd.R_ne HO_8.out BK179.out (by decide))) _).trans (((cell_far (a := (ad222.add ((ji102)).toNat)) (p := ⟨gb179, _, none⟩) (by rw [add_block]; exact Kd.own_blk (Kd.R_ne HO_8.out BK179.out (by decide))) _).trans (hHeld))))) (fun hHeld => ?_)
                                                    clear hK K
                                                    refine one_ (i := 8) (N := none) #[true, true, true, true, true, true, true, true, true] rfl rfl (one_of HT_.out (by kernel_rfl)) (by decide) (fun K hK => ?_)
                                                    have hs121 : w117.cell? ⟨gb180, 0, none⟩ = some (.int .i64 x181000_41) := (blk_cell BK180.out 0).trans rfl
                                                    have hfs121 := blk_frozen BK180.out 0
                                                    have hns121_0 := NB179_180.out
                                                    have hns121_2 := NB199_180.out
                                                    have hms121_0 := NB180_179.out
                                                    have hms121_2 := NB180_199.out
                                                    have hs122 : w117.cell? ⟨gb180, 1, none⟩ = some (.int .i64 x181001_41) := (blk_cell BK180.out 1).trans rfl
                                                    have hfs122 := blk_frozen BK180.out 1
                                                    have hns122_0 := NB179_180.out
                                                    have hns122_2 := NB199_180.out
                                                    have hms122_0 := NB180_179.out
                                                    have hms122_2 := NB180_199.out
                                                    refine skip_ (w1 := ?_) (by rfl) rfl ?_ ?_
                                                    rotate_left
                                                    · go_simp
                                                      rfl
                                                    refine hK.out _ _ (((cell_far (a := (ad222.add ((ji102)).toNat)) (p := ⟨gb180, _, none⟩) (by rw [add_block]; exact Kd.own_blk (Kd.R_ne HO_8.out BK180.out (by decide))) _).trans (((cell_far (a := (ad222.add ((ji102)).toNat)) (p := ⟨gb180, _, none⟩) (by rw [add_block]; exact Kd.own_blk (Kd.R_ne HO_8.out BK180.out (by decide))) _).trans (hHeld))))) (fun hHeld => ?_)
                                                    clear hK K
                                                    refine done_ (done_of HT_.out (by kernel_rfl)) ?_
                                                    try go_wp2
                                                    refine bodyPost_ret (results_cc rfl _ _ gb179 gb180 26 29 #[.string (⟨#[]⟩ : ByteArray), .int .i64 0] #[.int .i64 3, .int .i64 (rd x8_2 (ji102))] (0, 0) (0, 0) _ _ rfl (by (with_reducible repeat (first | refine blk_drewN ?_ _ | refine blk_drew ?_ | refine blk_alloc ?_ _)); refine blk_far ?_ NB179_180.out _; (with_reducible repeat (first | refine blk_drewN ?_ _ | refine blk_drew ?_ | refine blk_alloc ?_ _)); refine blk_far ?_ NB179_180.out _; (with_reducible repeat (first | refine blk_drewN ?_ _ | refine blk_drew ?_ | refine blk_alloc ?_ _)); refine blk_put (cs := #[.string (⟨#[]⟩ : ByteArray), .int .i64 x180001_41]) ?_ 1 _ rfl; (with_reducible repeat (first | refine blk_drewN ?_ _ | refine blk_drew ?_ | refine blk_alloc ?_ _)); refine blk_put (cs := #[.string x180000_41, .int .i64 x180001_41]) ?_ 0 _ rfl; (with_reducible repeat (first | refine blk_drewN ?_ _ | refine blk_drew ?_ | refine blk_alloc ?_ _)); exact BK179.out) Tryd.underlying26 rfl (by kernel_rfl) rfl (by (with_reducible repeat (first | refine blk_drewN ?_ _ | refine blk_drew ?_ | refine blk_alloc ?_ _)); refine blk_put (cs := #[.int .i64 3, .int .i64 x181001_41]) ?_ 1 _ rfl; (with_reducible repeat (first | refine blk_drewN ?_ _ | refine blk_drew ?_ | refine blk_alloc ?_ _)); refine blk_put (cs := #[.int .i64 x181000_41, .int .i64 x181001_41]) ?_ 0 _ rfl; (with_reducible repeat (first | refine blk_drewN ?_ _ | refine blk_drew ?_ | refine blk_alloc ?_ _)); refine blk_far ?_ NB180_179.out _; (with_reducible repeat (first | refine blk_drewN ?_ _ | refine blk_drew ?_ | refine blk_alloc ?_ _)); refine blk_far ?_ NB180_179.out _; (with_reducible repeat (first | refine blk_drewN ?_ _ | refine blk_drew ?_ | refine blk_alloc ?_ _)); exact BK180.out) Tryd.underlying29 rfl (by kernel_rfl)) rfl ?_
                                                    exact ⟨by first | rfl | (simp [errW_none, errW_some] <;> rfl) | (simp only [← hji76, ← hji102]; first | rfl | (simp [errW_none, errW_some] <;> rfl)) | (simp [*, errW_none, errW_some] <;> rfl), by repeat (first | (with_reducible first | exact HB.out | apply below_alloc | apply pw_below_drewN | apply below_drew1 | refine below_set ?_ GE179.out | refine below_set ?_ GE180.out | refine below_set ?_ GE199.out) | exact HB.out)⟩
                                                  · rw [if_neg c112] at H
                                                    exact absurd H (by simp)
                                              · rw [if_neg c104] at H
                                                exact absurd H (by simp)
                                            · rw [if_neg c103] at H
                                              exact absurd H (by simp)
                                        · replace c88 := Bool.eq_false_iff.mpr c88
                                          subst c88
                                          have H1 : (if (ji76) < (x8_2.length : Int) then (some ((⟨#[]⟩ : ByteArray), 0, 4, rd x8_2 (ji76))) else (none)) = some (r1, r2, r3, r4) := by rw [if_neg (show ¬ (false = true) by decide)] at H; exact H
                                          clear H
                                          have H := H1
                                          clear H1
                                          by_cases c123 : (ji76) < (x8_2.length : Int)
                                          · rw [if_pos c123] at H
                                            have c123b0 : decide ((ji76) < (x8_2.length : Int)) = true := decide_eq_true c123
                                            clear c123
                                            simp only [Option.some.injEq, Prod.mk.injEq] at H
                                            obtain ⟨rfl, rfl, rfl, rfl⟩ := H
                                            have p210 : 0 ≤ (x12_41 : Int) := of_decide_eq_true (by first | (with_reducible assumption) | assumption)
                                            have q210 : x12_41 < (x7_2.length : Int) := of_decide_eq_true (by first | (with_reducible assumption) | assumption)
                                            obtain ⟨ad210, e210, hx210_0⟩ := Kd.at_string (Kd.R_reads' HO_7.out).2.2 x12_41 p210 q210
                                            obtain rfl : ad203 = ad210 := (by injection e210)
                                            replace p210 := eq_true p210
                                            replace q210 := eq_true q210
                                            have p211 : 0 ≤ (x12_41 : Int) := of_decide_eq_true (by first | (with_reducible assumption) | assumption)
                                            have q211 : x12_41 < (x7_2.length : Int) := of_decide_eq_true (by first | (with_reducible assumption) | assumption)
                                            obtain ⟨ad211, e211, hx211_0⟩ := Kd.at_string (Kd.R_reads' HO_7.out).2.2 x12_41 p211 q211
                                            obtain rfl : ad203 = ad211 := (by injection e211)
                                            replace p211 := eq_true p211
                                            replace q211 := eq_true q211
                                            have p213 : 0 ≤ ((ji76) : Int) := of_decide_eq_true (by first | (with_reducible assumption) | assumption)
                                            have q213 : (ji76) < (x7_2.length : Int) := of_decide_eq_true (by first | (with_reducible assumption) | assumption)
                                            obtain ⟨ad213, e213, hx213_0⟩ := Kd.at_string (Kd.R_reads' HO_7.out).2.2 (ji76) p213 q213
                                            obtain rfl : ad203 = ad213 := (by injection e213)
                                            replace p213 := eq_true p213
                                            replace q213 := eq_true q213
                                            have p215 : 0 ≤ ((ji76) : Int) := of_decide_eq_true (by first | (with_reducible assumption) | assumption)
                                            have q215 : (ji76) < (x7_2.length : Int) := of_decide_eq_true (by first | (with_reducible assumption) | assumption)
                                            obtain ⟨ad215, e215, hx215_0⟩ := Kd.at_string (Kd.R_reads' HO_7.out).2.2 (ji76) p215 q215
                                            obtain rfl : ad203 = ad215 := (by injection e215)
                                            replace p215 := eq_true p215
                                            replace q215 := eq_true q215
                                            try go_wp2_with (first | ((with_reducible refine gate_callee (f := 18) rfl ?_); refine goesL_ (some 135) rfl rfl Tryd.func18 (by kernel_rfl) rfl #[.string (rdOf ByteArray.empty x7_2 (ji76))] rfl (by (try simp only [List.map_toArray, List.map_cons, List.map_nil]); first | done | (simp only [hji76]; rfl) | rfl | (simp only [List.length_drop, List.length_take]; rfl)) ?_; (with_reducible refine (spoolref04_Name.calls kj41 (rdOf ByteArray.empty x7_2 (ji76)) false _ A87.out).mono ?_); rintro e w' ⟨rfl, ⟨nd, rfl⟩⟩; refine ⟨_, rfl, ?_⟩; (try (rw [drewN_self wc]; generalize hq_ : World.drewN wc _ = wc; have n0_ : Aside0 (Kd.R Kd.string 9 wc w.heap.size (fun _ => True) (.slice (some ad203) x7_2.length co43) x7_2) := ⟨by rw [← hq_]; exact (by (with_reducible repeat (first | apply Kd.R_alloc | apply Kd.R_drewN | apply Kd.R_drew)); exact HO_7.out)⟩; have n1_ : Aside0 (Kd.R (Kd.int .i64) 3 wc w.heap.size (fun _ => True) u8 x8_2) := ⟨by rw [← hq_]; exact (by (with_reducible repeat (first | apply Kd.R_alloc | apply Kd.R_drewN | apply Kd.R_drew)); exact HO_8.out)⟩; have n2_ : Aside0 (wc.heap[gb179]? = some (.cells #[.string x180000_41, .int .i64 x180001_41] 26 (0, 0))) := ⟨by rw [← hq_]; exact (by (with_reducible repeat (first | refine blk_drewN ?_ _ | refine blk_drew ?_ | refine blk_alloc ?_ _)); exact BK179.out)⟩; have n3_ : Aside0 (wc.heap[gb180]? = some (.cells #[.int .i64 x181000_41, .int .i64 x181001_41] 29 (0, 0))) := ⟨by rw [← hq_]; exact (by (with_reducible repeat (first | refine blk_drewN ?_ _ | refine blk_drew ?_ | refine blk_alloc ?_ _)); exact BK180.out)⟩; have n4_ : Aside0 (wc.heap[gb199]? = some (.cells #[.string x200000_41, .int .i64 (-1)] 26 (0, 0))) := ⟨by rw [← hq_]; exact (by (with_reducible repeat (first | refine blk_drewN ?_ _ | refine blk_drew ?_ | refine blk_alloc ?_ _)); exact BK199.out)⟩; have n5_ : Aside0 (Below w.heap.size w wc) := ⟨by rw [← hq_]; exact (by repeat (first | (with_reducible first | exact HB.out | apply below_alloc | apply pw_below_drewN | apply below_drew1 | refine below_set ?_ GE179.out | refine below_set ?_ GE180.out | refine below_set ?_ GE199.out) | exact HB.out))⟩; clear HO_7 HO_8 BK179 BK180 BK199 HB hq_; have HO_7 := n0_; have HO_8 := n1_; have BK179 := n2_; have BK180 := n3_; have BK199 := n4_; have HB := n5_; clear n0_ n1_ n2_ n3_ n4_ n5_))))
                                            have n0_ := Aside0.mk (Kd.R_drew HO_7.out)
                                            have n1_ := Aside0.mk (Kd.R_drew HO_8.out)
                                            have n2_ := Aside0.mk (blk_drew BK179.out)
                                            have n3_ := Aside0.mk (blk_drew BK180.out)
                                            have n4_ := Aside0.mk (blk_drew BK199.out)
                                            have n5_ := Aside0.mk (below_drew1 HB.out)
                                            clear HO_7
                                            clear HO_8
                                            clear BK179
                                            clear BK180
                                            clear BK199
                                            clear HB
                                            have HO_7 := n0_
                                            have HO_8 := n1_
                                            have BK179 := n2_
                                            have BK180 := n3_
                                            have BK199 := n4_
                                            have HB := n5_
                                            clear n0_ n1_ n2_ n3_ n4_ n5_
                                            obtain ⟨Ao125, co125, eo125⟩ := Kd.R_slice HO_8.out
                                            (first | subst eo125 | (injection eo125 with f1_ f2_ f3_; have f4_ := f1_.symm; have f5_ := f3_.symm; clear f1_ f2_ f3_; subst f4_; subst f5_))
                                            have p217 : 0 ≤ ((ji76) : Int) := of_decide_eq_true (by first | (with_reducible assumption) | assumption)
                                            have q217 : (ji76) < (x8_2.length : Int) := of_decide_eq_true (by first | (with_reducible assumption) | assumption)
                                            obtain ⟨ad217, e217, hx217_0⟩ := Kd.at_int (Kd.R_reads' HO_8.out).2.2 (ji76) p217 q217
                                            cases e217
                                            replace p217 := eq_true p217
                                            replace q217 := eq_true q217
                                            refine start_ (n := 9) (S := fun w' => w'.cell? (ad217.add ((ji76)).toNat) = some (.int .i64 (rd x8_2 (ji76)))) (ds := []) #[false, false, false, false, false, false, false, false, false] (by kernel_rfl) rfl rfl (hx217_0) (fun hHeld => ?_); refine with_tabW spoolref17_Parse.tab32 spoolref17_Parse.bits32 (fun HT_ HW_ => ?_)
                                            generalize wc.drew = w124 at HO_7 HO_8 BK179 BK180 BK199 HB hx217_0 hHeld ⊢
                                            refine pure_ (i := 0) (N := some 137) (v := ?_) (a' := ?_) #[true, false, false, false, false, false, false, false, false] rfl rfl (any_of HT_.out (by kernel_rfl)) (fun _ _ _ h => h) (Or.inl ⟨by rfl, ?_⟩) ?_ ?_
                                            rotate_left
                                            · intro w'
                                              go_simp
                                              with_reducible rfl
                                            rotate_left
                                            · simp only [Act.put, List.setIfInBounds_toArray, List.set_cons_zero, List.set_cons_succ, i64_w, i32_w]
                                              rfl
                                            refine pure_ (i := 1) (N := some 138) (v := ?_) (a' := ?_) #[true, true, false, false, false, false, false, false, false] rfl rfl (any_of HT_.out (by kernel_rfl)) (fun _ _ _ h => h) (Or.inl ⟨by rfl, ?_⟩) ?_ ?_
                                            rotate_left
                                            · intro w'
                                              go_simp
                                              with_reducible rfl
                                            rotate_left
                                            · simp only [Act.put, List.setIfInBounds_toArray, List.set_cons_zero, List.set_cons_succ, i64_w, i32_w]
                                              rfl
                                            refine pure_ (i := 2) (N := some 139) (v := ?_) (a' := ?_) #[true, true, true, false, false, false, false, false, false] rfl rfl (any_of HT_.out (by kernel_rfl)) (fun _ _ _ h => h) (Or.inl ⟨by rfl, ?_⟩) ?_ ?_
                                            rotate_left
                                            · intro w'
                                              go_simp
                                              with_reducible rfl
                                            rotate_left
                                            · simp only [Act.put, List.setIfInBounds_toArray, List.set_cons_zero, List.set_cons_succ, i64_w, i32_w]
                                              rfl
                                            refine pure_ (i := 3) (N := some 140) (v := ?_) (a' := ?_) #[true, true, true, true, false, false, false, false, false] rfl rfl (any_of HT_.out (by kernel_rfl)) (fun _ _ _ h => h) (Or.inl ⟨by rfl, ?_⟩) ?_ ?_
                                            rotate_left
                                            · intro w'
                                              go_simp
                                              with_reducible rfl
                                            rotate_left
                                            · simp only [Act.put, List.setIfInBounds_toArray, List.set_cons_zero, List.set_cons_succ, i64_w, i32_w]
                                              rfl
                                            refine pure_ (i := 4) (N := some 141) (v := ?_) (a' := ?_) #[true, true, true, true, true, false, false, false, false] rfl rfl (any_of HT_.out (by kernel_rfl)) (fun _ _ _ h => h) (Or.inl ⟨by rfl, ?_⟩) ?_ ?_
                                            rotate_left
                                            · intro w'
                                              go_simp
                                              with_reducible rfl
                                            rotate_left
                                            · simp only [Act.put, List.setIfInBounds_toArray, List.set_cons_zero, List.set_cons_succ, i64_w, i32_w]
                                              rfl
                                            refine take_ (i := 5) (N := some 142) (v := ?_) (a' := ?_) #[true, true, true, true, true, true, false, false, false] rfl rfl (take_ofW HT_.out HW_.out (by kernel_rfl)) (fun _ _ _ h => h) (Or.inl ⟨by rfl, ?_⟩) hHeld ?_ ?_
                                            rotate_left
                                            · intro w' s0
                                              go_simp
                                              with_reducible rfl
                                            rotate_left
                                            · simp only [Act.put, List.setIfInBounds_toArray, List.set_cons_zero, List.set_cons_succ, i64_w, i32_w]
                                              rfl
                                            refine pure_ (i := 6) (N := some 143) (v := ?_) (a' := ?_) #[true, true, true, true, true, true, true, false, false] rfl rfl (any_of HT_.out (by kernel_rfl)) (fun _ _ _ h => h) (Or.inl ⟨by rfl, ?_⟩) ?_ ?_
                                            rotate_left
                                            · intro w'
                                              go_simp
                                              with_reducible rfl
                                            rotate_left
                                            · simp only [Act.put, List.setIfInBounds_toArray, List.set_cons_zero, List.set_cons_succ, i64_w, i32_w]
                                              rfl
                                            refine one_ (i := 7) (N := none) #[true, true, true, true, true, true, true, true, false] rfl rfl (one_of HT_.out (by kernel_rfl)) (by decide) (fun K hK => ?_)
                                            have hs126 : w124.cell? ⟨gb179, 0, none⟩ = some (.string x180000_41) := (blk_cell BK179.out 0).trans rfl
                                            have hfs126 := blk_frozen BK179.out 0
                                            have hns126_1 := NB180_179.out
                                            have hns126_2 := NB199_179.out
                                            have hms126_1 := NB179_180.out
                                            have hms126_2 := NB179_199.out
                                            have hs127 : w124.cell? ⟨gb179, 1, none⟩ = some (.int .i64 x180001_41) := (blk_cell BK179.out 1).trans rfl
                                            have hfs127 := blk_frozen BK179.out 1
                                            have hns127_1 := NB180_179.out
                                            have hns127_2 := NB199_179.out
                                            have hms127_1 := NB179_180.out
                                            have hms127_2 := NB179_199.out
                                            refine skip_ (w1 := ?_) (by rfl) rfl ?_ ?_
                                            rotate_left
                                            · go_simp
                                              rfl
                                            refine hK.out _ _ (((cell_far (a := (ad217.add ((ji76)).toNat)) (p := ⟨gb179, _, none⟩) (by rw [add_block]; exact Kd.own_blk (Kd.R_ne HO_8.out BK179.out (by decide))) _).trans (((cell_far (a := (ad217.add ((ji76)).toNat)) (p := ⟨gb179, _, none⟩) (by rw [add_block]; exact Kd.own_blk (Kd.R_ne HO_8.out BK179.out (by decide))) _).trans (hHeld))))) (fun hHeld => ?_)
                                            clear hK K
                                            refine one_ (i := 8) (N := none) #[true, true, true, true, true, true, true, true, true] rfl rfl (one_of HT_.out (by kernel_rfl)) (by decide) (fun K hK => ?_)
                                            have hs128 : w124.cell? ⟨gb180, 0, none⟩ = some (.int .i64 x181000_41) := (blk_cell BK180.out 0).trans rfl
                                            have hfs128 := blk_frozen BK180.out 0
                                            have hns128_0 := NB179_180.out
                                            have hns128_2 := NB199_180.out
                                            have hms128_0 := NB180_179.out
                                            have hms128_2 := NB180_199.out
                                            have hs129 : w124.cell? ⟨gb180, 1, none⟩ = some (.int .i64 x181001_41) := (blk_cell BK180.out 1).trans rfl
                                            have hfs129 := blk_frozen BK180.out 1
                                            have hns129_0 := NB179_180.out
                                            have hns129_2 := NB199_180.out
                                            have hms129_0 := NB180_179.out
                                            have hms129_2 := NB180_199.out
                                            refine skip_ (w1 := ?_) (by rfl) rfl ?_ ?_
                                            rotate_left
                                            · go_simp
                                              rfl
                                            refine hK.out _ _ (((cell_far (a := (ad217.add ((ji76)).toNat)) (p := ⟨gb180, _, none⟩) (by rw [add_block]; exact Kd.own_blk (Kd.R_ne HO_8.out BK180.out (by decide))) _).trans (((cell_far (a := (ad217.add ((ji76)).toNat)) (p := ⟨gb180, _, none⟩) (by rw [add_block]; exact Kd.own_blk (Kd.R_ne HO_8.out BK180.out (by decide))) _).trans (hHeld))))) (fun hHeld => ?_)
                                            clear hK K
                                            refine done_ (done_of HT_.out (by kernel_rfl)) ?_
                                            try go_wp2
                                            refine bodyPost_ret (results_cc rfl _ _ gb179 gb180 26 29 #[.string (⟨#[]⟩ : ByteArray), .int .i64 0] #[.int .i64 4, .int .i64 (rd x8_2 (ji76))] (0, 0) (0, 0) _ _ rfl (by (with_reducible repeat (first | refine blk_drewN ?_ _ | refine blk_drew ?_ | refine blk_alloc ?_ _)); refine blk_far ?_ NB179_180.out _; (with_reducible repeat (first | refine blk_drewN ?_ _ | refine blk_drew ?_ | refine blk_alloc ?_ _)); refine blk_far ?_ NB179_180.out _; (with_reducible repeat (first | refine blk_drewN ?_ _ | refine blk_drew ?_ | refine blk_alloc ?_ _)); refine blk_put (cs := #[.string (⟨#[]⟩ : ByteArray), .int .i64 x180001_41]) ?_ 1 _ rfl; (with_reducible repeat (first | refine blk_drewN ?_ _ | refine blk_drew ?_ | refine blk_alloc ?_ _)); refine blk_put (cs := #[.string x180000_41, .int .i64 x180001_41]) ?_ 0 _ rfl; (with_reducible repeat (first | refine blk_drewN ?_ _ | refine blk_drew ?_ | refine blk_alloc ?_ _)); exact BK179.out) Tryd.underlying26 rfl (by kernel_rfl) rfl (by (with_reducible repeat (first | refine blk_drewN ?_ _ | refine blk_drew ?_ | refine blk_alloc ?_ _)); refine blk_put (cs := #[.int .i64 4, .int .i64 x181001_41]) ?_ 1 _ rfl; (with_reducible repeat (first | refine blk_drewN ?_ _ | refine blk_drew ?_ | refine blk_alloc ?_ _)); refine blk_put (cs := #[.int .i64 x181000_41, .int .i64 x181001_41]) ?_ 0 _ rfl; (with_reducible repeat (first | refine blk_drewN ?_ _ | refine blk_drew ?_ | refine blk_alloc ?_ _)); refine blk_far ?_ NB180_179.out _; (with_reducible repeat (first | refine blk_drewN ?_ _ | refine blk_drew ?_ | refine blk_alloc ?_ _)); refine blk_far ?_ NB180_179.out _; (with_reducible repeat (first | refine blk_drewN ?_ _ | refine blk_drew ?_ | refine blk_alloc ?_ _)); exact BK180.out) Tryd.underlying29 rfl (by kernel_rfl)) rfl ?_
                                            exact ⟨by first | rfl | (simp [errW_none, errW_some] <;> rfl) | (simp only [← hji76]; first | rfl | (simp [errW_none, errW_some] <;> rfl)) | (simp [*, errW_none, errW_some] <;> rfl), by repeat (first | (with_reducible first | exact HB.out | apply below_alloc | apply pw_below_drewN | apply below_drew1 | refine below_set ?_ GE179.out | refine below_set ?_ GE180.out | refine below_set ?_ GE199.out) | exact HB.out)⟩
                                          · rw [if_neg c123] at H
                                            exact absurd H (by simp)
                                    · rw [if_neg c78] at H
                                      exact absurd H (by simp)
                                  · rw [if_neg c77] at H
                                    exact absurd H (by simp)
                                · rw [if_neg c75] at H
                                  have c75b0 : ((rdOf ByteArray.empty x7_2 x12_41).toList == ([103, 111, 116, 111] : List UInt8)) = false := beq_eq_false_iff_ne.mpr c75
                                  have c75b1 : ((rdOf ByteArray.empty x7_2 x12_41).toList != ([103, 111, 116, 111] : List UInt8)) = true := bne_iff_ne.mpr c75
                                  by_cases c130 : x12_41 < (x8_2.length : Int)
                                  · rw [if_pos c130] at H
                                    have c130b0 : decide (x12_41 < (x8_2.length : Int)) = true := decide_eq_true c130
                                    clear c130
                                    simp only [Option.some.injEq, Prod.mk.injEq] at H
                                    obtain ⟨rfl, rfl, rfl, rfl⟩ := H
                                    have p210 : 0 ≤ (x12_41 : Int) := of_decide_eq_true (by first | (with_reducible assumption) | assumption)
                                    have q210 : x12_41 < (x7_2.length : Int) := of_decide_eq_true (by first | (with_reducible assumption) | assumption)
                                    obtain ⟨ad210, e210, hx210_0⟩ := Kd.at_string (Kd.R_reads' HO_7.out).2.2 x12_41 p210 q210
                                    obtain rfl : ad203 = ad210 := (by injection e210)
                                    replace p210 := eq_true p210
                                    replace q210 := eq_true q210
                                    have p211 : 0 ≤ (x12_41 : Int) := of_decide_eq_true (by first | (with_reducible assumption) | assumption)
                                    have q211 : x12_41 < (x7_2.length : Int) := of_decide_eq_true (by first | (with_reducible assumption) | assumption)
                                    obtain ⟨ad211, e211, hx211_0⟩ := Kd.at_string (Kd.R_reads' HO_7.out).2.2 x12_41 p211 q211
                                    obtain rfl : ad203 = ad211 := (by injection e211)
                                    replace p211 := eq_true p211
                                    replace q211 := eq_true q211
                                    try go_wp2
                                    have n0_ := Aside0.mk (Kd.R_drew HO_7.out)
                                    have n1_ := Aside0.mk (Kd.R_drew HO_8.out)
                                    have n2_ := Aside0.mk (blk_drew BK179.out)
                                    have n3_ := Aside0.mk (blk_drew BK180.out)
                                    have n4_ := Aside0.mk (blk_drew BK199.out)
                                    have n5_ := Aside0.mk (below_drew1 HB.out)
                                    clear HO_7
                                    clear HO_8
                                    clear BK179
                                    clear BK180
                                    clear BK199
                                    clear HB
                                    have HO_7 := n0_
                                    have HO_8 := n1_
                                    have BK179 := n2_
                                    have BK180 := n3_
                                    have BK199 := n4_
                                    have HB := n5_
                                    clear n0_ n1_ n2_ n3_ n4_ n5_
                                    obtain ⟨Ao132, co132, eo132⟩ := Kd.R_slice HO_8.out
                                    (first | subst eo132 | (injection eo132 with f1_ f2_ f3_; have f4_ := f1_.symm; have f5_ := f3_.symm; clear f1_ f2_ f3_; subst f4_; subst f5_))
                                    have p212 : 0 ≤ (x12_41 : Int) := of_decide_eq_true (by first | (with_reducible assumption) | assumption)
                                    have q212 : x12_41 < (x8_2.length : Int) := of_decide_eq_true (by first | (with_reducible assumption) | assumption)
                                    obtain ⟨ad212, e212, hx212_0⟩ := Kd.at_int (Kd.R_reads' HO_8.out).2.2 x12_41 p212 q212
                                    cases e212
                                    replace p212 := eq_true p212
                                    replace q212 := eq_true q212
                                    refine start_ (n := 8) (S := fun w' => w'.cell? (ad212.add (x12_41).toNat) = some (.int .i64 (rd x8_2 x12_41))) (ds := []) #[false, false, false, false, false, false, false, false] (by kernel_rfl) rfl rfl (hx212_0) (fun hHeld => ?_); refine with_tabW spoolref17_Parse.tab28 spoolref17_Parse.bits28 (fun HT_ HW_ => ?_)
                                    generalize wc.drew = w131 at HO_7 HO_8 BK179 BK180 BK199 HB hx212_0 hHeld ⊢
                                    refine pure_ (i := 0) (N := some 111) (v := ?_) (a' := ?_) #[true, false, false, false, false, false, false, false] rfl rfl (any_of HT_.out (by kernel_rfl)) (fun _ _ _ h => h) (Or.inl ⟨by rfl, ?_⟩) ?_ ?_
                                    rotate_left
                                    · intro w'
                                      go_simp
                                      with_reducible rfl
                                    rotate_left
                                    · simp only [Act.put, List.setIfInBounds_toArray, List.set_cons_zero, List.set_cons_succ, i64_w, i32_w]
                                      rfl
                                    refine pure_ (i := 1) (N := some 112) (v := ?_) (a' := ?_) #[true, true, false, false, false, false, false, false] rfl rfl (any_of HT_.out (by kernel_rfl)) (fun _ _ _ h => h) (Or.inl ⟨by rfl, ?_⟩) ?_ ?_
                                    rotate_left
                                    · intro w'
                                      go_simp
                                      with_reducible rfl
                                    rotate_left
                                    · simp only [Act.put, List.setIfInBounds_toArray, List.set_cons_zero, List.set_cons_succ, i64_w, i32_w]
                                      rfl
                                    refine pure_ (i := 2) (N := some 113) (v := ?_) (a' := ?_) #[true, true, true, false, false, false, false, false] rfl rfl (any_of HT_.out (by kernel_rfl)) (fun _ _ _ h => h) (Or.inl ⟨by rfl, ?_⟩) ?_ ?_
                                    rotate_left
                                    · intro w'
                                      go_simp
                                      with_reducible rfl
                                    rotate_left
                                    · simp only [Act.put, List.setIfInBounds_toArray, List.set_cons_zero, List.set_cons_succ, i64_w, i32_w]
                                      rfl
                                    refine pure_ (i := 3) (N := some 114) (v := ?_) (a' := ?_) #[true, true, true, true, false, false, false, false] rfl rfl (any_of HT_.out (by kernel_rfl)) (fun _ _ _ h => h) (Or.inl ⟨by rfl, ?_⟩) ?_ ?_
                                    rotate_left
                                    · intro w'
                                      go_simp
                                      with_reducible rfl
                                    rotate_left
                                    · simp only [Act.put, List.setIfInBounds_toArray, List.set_cons_zero, List.set_cons_succ, i64_w, i32_w]
                                      rfl
                                    refine take_ (i := 4) (N := some 115) (v := ?_) (a' := ?_) #[true, true, true, true, true, false, false, false] rfl rfl (take_ofW HT_.out HW_.out (by kernel_rfl)) (fun _ _ _ h => h) (Or.inl ⟨by rfl, ?_⟩) hHeld ?_ ?_
                                    rotate_left
                                    · intro w' s0
                                      go_simp
                                      with_reducible rfl
                                    rotate_left
                                    · simp only [Act.put, List.setIfInBounds_toArray, List.set_cons_zero, List.set_cons_succ, i64_w, i32_w]
                                      rfl
                                    refine pure_ (i := 5) (N := some 116) (v := ?_) (a' := ?_) #[true, true, true, true, true, true, false, false] rfl rfl (any_of HT_.out (by kernel_rfl)) (fun _ _ _ h => h) (Or.inl ⟨by rfl, ?_⟩) ?_ ?_
                                    rotate_left
                                    · intro w'
                                      go_simp
                                      with_reducible rfl
                                    rotate_left
                                    · simp only [Act.put, List.setIfInBounds_toArray, List.set_cons_zero, List.set_cons_succ, i64_w, i32_w]
                                      rfl
                                    refine one_ (i := 6) (N := none) #[true, true, true, true, true, true, true, false] rfl rfl (one_of HT_.out (by kernel_rfl)) (by decide) (fun K hK => ?_)
                                    have hs133 : w131.cell? ⟨gb179, 0, none⟩ = some (.string x180000_41) := (blk_cell BK179.out 0).trans rfl
                                    have hfs133 := blk_frozen BK179.out 0
                                    have hns133_1 := NB180_179.out
                                    have hns133_2 := NB199_179.out
                                    have hms133_1 := NB179_180.out
                                    have hms133_2 := NB179_199.out
                                    have hs134 : w131.cell? ⟨gb179, 1, none⟩ = some (.int .i64 x180001_41) := (blk_cell BK179.out 1).trans rfl
                                    have hfs134 := blk_frozen BK179.out 1
                                    have hns134_1 := NB180_179.out
                                    have hns134_2 := NB199_179.out
                                    have hms134_1 := NB179_180.out
                                    have hms134_2 := NB179_199.out
                                    refine skip_ (w1 := ?_) (by rfl) rfl ?_ ?_
                                    rotate_left
                                    · go_simp
                                      rfl
                                    refine hK.out _ _ (((cell_far (a := (ad212.add (x12_41).toNat)) (p := ⟨gb179, _, none⟩) (by rw [add_block]; exact Kd.own_blk (Kd.R_ne HO_8.out BK179.out (by decide))) _).trans (((cell_far (a := (ad212.add (x12_41).toNat)) (p := ⟨gb179, _, none⟩) (by rw [add_block]; exact Kd.own_blk (Kd.R_ne HO_8.out BK179.out (by decide))) _).trans (hHeld))))) (fun hHeld => ?_)
                                    clear hK K
                                    refine one_ (i := 7) (N := none) #[true, true, true, true, true, true, true, true] rfl rfl (one_of HT_.out (by kernel_rfl)) (by decide) (fun K hK => ?_)
                                    have hs135 : w131.cell? ⟨gb180, 0, none⟩ = some (.int .i64 x181000_41) := (blk_cell BK180.out 0).trans rfl
                                    have hfs135 := blk_frozen BK180.out 0
                                    have hns135_0 := NB179_180.out
                                    have hns135_2 := NB199_180.out
                                    have hms135_0 := NB180_179.out
                                    have hms135_2 := NB180_199.out
                                    have hs136 : w131.cell? ⟨gb180, 1, none⟩ = some (.int .i64 x181001_41) := (blk_cell BK180.out 1).trans rfl
                                    have hfs136 := blk_frozen BK180.out 1
                                    have hns136_0 := NB179_180.out
                                    have hns136_2 := NB199_180.out
                                    have hms136_0 := NB180_179.out
                                    have hms136_2 := NB180_199.out
                                    refine skip_ (w1 := ?_) (by rfl) rfl ?_ ?_
                                    rotate_left
                                    · go_simp
                                      rfl
                                    refine hK.out _ _ (((cell_far (a := (ad212.add (x12_41).toNat)) (p := ⟨gb180, _, none⟩) (by rw [add_block]; exact Kd.own_blk (Kd.R_ne HO_8.out BK180.out (by decide))) _).trans (((cell_far (a := (ad212.add (x12_41).toNat)) (p := ⟨gb180, _, none⟩) (by rw [add_block]; exact Kd.own_blk (Kd.R_ne HO_8.out BK180.out (by decide))) _).trans (hHeld))))) (fun hHeld => ?_)
                                    clear hK K
                                    refine done_ (done_of HT_.out (by kernel_rfl)) ?_
                                    try go_wp2
                                    refine bodyPost_ret (results_cc rfl _ _ gb179 gb180 26 29 #[.string (⟨#[]⟩ : ByteArray), .int .i64 0] #[.int .i64 3, .int .i64 (rd x8_2 x12_41)] (0, 0) (0, 0) _ _ rfl (by (with_reducible repeat (first | refine blk_drewN ?_ _ | refine blk_drew ?_ | refine blk_alloc ?_ _)); refine blk_far ?_ NB179_180.out _; (with_reducible repeat (first | refine blk_drewN ?_ _ | refine blk_drew ?_ | refine blk_alloc ?_ _)); refine blk_far ?_ NB179_180.out _; (with_reducible repeat (first | refine blk_drewN ?_ _ | refine blk_drew ?_ | refine blk_alloc ?_ _)); refine blk_put (cs := #[.string (⟨#[]⟩ : ByteArray), .int .i64 x180001_41]) ?_ 1 _ rfl; (with_reducible repeat (first | refine blk_drewN ?_ _ | refine blk_drew ?_ | refine blk_alloc ?_ _)); refine blk_put (cs := #[.string x180000_41, .int .i64 x180001_41]) ?_ 0 _ rfl; (with_reducible repeat (first | refine blk_drewN ?_ _ | refine blk_drew ?_ | refine blk_alloc ?_ _)); exact BK179.out) Tryd.underlying26 rfl (by kernel_rfl) rfl (by (with_reducible repeat (first | refine blk_drewN ?_ _ | refine blk_drew ?_ | refine blk_alloc ?_ _)); refine blk_put (cs := #[.int .i64 3, .int .i64 x181001_41]) ?_ 1 _ rfl; (with_reducible repeat (first | refine blk_drewN ?_ _ | refine blk_drew ?_ | refine blk_alloc ?_ _)); refine blk_put (cs := #[.int .i64 x181000_41, .int .i64 x181001_41]) ?_ 0 _ rfl; (with_reducible repeat (first | refine blk_drewN ?_ _ | refine blk_drew ?_ | refine blk_alloc ?_ _)); refine blk_far ?_ NB180_179.out _; (with_reducible repeat (first | refine blk_drewN ?_ _ | refine blk_drew ?_ | refine blk_alloc ?_ _)); refine blk_far ?_ NB180_179.out _; (with_reducible repeat (first | refine blk_drewN ?_ _ | refine blk_drew ?_ | refine blk_alloc ?_ _)); exact BK180.out) Tryd.underlying29 rfl (by kernel_rfl)) rfl ?_
                                    exact ⟨by first | rfl | (simp [errW_none, errW_some] <;> rfl) | (simp [*, errW_none, errW_some] <;> rfl), by repeat (first | (with_reducible first | exact HB.out | apply below_alloc | apply pw_below_drewN | apply below_drew1 | refine below_set ?_ GE179.out | refine below_set ?_ GE180.out | refine below_set ?_ GE199.out) | exact HB.out)⟩
                                  · rw [if_neg c130] at H
                                    exact absurd H (by simp)
                            · rw [if_neg c67] at H
                              exact absurd H (by simp)
                          · rw [if_neg c66] at H
                            exact absurd H (by simp)
                    · rw [if_neg c41] at H
                      exact absurd H (by simp)

end Go.Proofs.YtkfijbmplllmlaaDoor.PA

-- WRITTEN BY A PROGRAM OF THIS SESSION (patchprint.py over the kit's print)
import Derived.Test.YtifcpamliidabaaDoorHandOp
import Derived.Test.YtifcpamliidabaaDoorHandParse
import Derived.Test.YtifcpamliidabaaDoorHandQuote
import Derived.Test.YtifcpamliidabaaDoorPSx0
import Derived.Test.YtifcpamliidabaaDoorPSx3
import Derived.Test.YtifcpamliidabaaDoorPSx10
namespace Go.Proofs.YtifcpamliidabaaDoor.PS
open Go.RowKit Go.Proofs.YtifcpamliidabaaDoorW.PrintWords Go.Proofs.YtifcpamliidabaaDoorW.PrintLast Go.Proofs.YtifcpamliidabaaDoorW.PrintMore
attribute [local go_sem] max2_int min2_int max_two min_two max_three min_three max_four min_four   -- for this text's walks alone
set_option linter.unusedVariables false
set_option linter.unusedSimpArgs false

open Go.Proofs.YtifcpamliidabaaDoor.HandOp Go.Proofs.YtifcpamliidabaaDoor.HandParse Go.Proofs.YtifcpamliidabaaDoor.HandQuote
attribute [local go_sem high] eqA51
/-! ### spoollaw48_alive: function 8 -/
def spoollaw48_alive.f (k : Nat)  : Option (Bool) := (script_Parse.f k (⟨#[105, 110, 118, 111, 107, 101, 32, 48, 32, 102, 101, 101, 100, 32, 34, 97, 92, 120, 48, 97, 34, 10, 10, 32, 32, 115, 101, 114, 118, 101, 114]⟩ : ByteArray)).bind fun bt209 => ((script_Print.f k bt209.1).bind fun bt215 => (if bt209.2.1 = 0 then (if (bt209.1.length : Int) = 2 then (if 0 < (bt209.1.length : Int) then (if (((rd_T51 bt209.1 0).f0) == 1 && (((rd_T51 bt209.1 0).f1) == 0 && ((((rd_T51 bt209.1 0).f2.f0) == 1 && (((rd_T51 bt209.1 0).f2.f1) == 0 && ((((rd_T51 bt209.1 0).f2.f2).toList) == ([97, 10] : List UInt8))))))) = true then (if 1 < (bt209.1.length : Int) then (if (((rd_T51 bt209.1 1).f0) == 3 && (((rd_T51 bt209.1 1).f1) == 0 && ((((rd_T51 bt209.1 1).f2.f0) == 0 && (((rd_T51 bt209.1 1).f2.f1) == 0 && ((((rd_T51 bt209.1 1).f2.f2).toList) == ([] : List UInt8))))))) = true then (if bt215.2 = 0 then (some (bt215.1.toList == ([105, 110, 118, 111, 107, 101, 32, 48, 32, 102, 101, 101, 100, 32, 34, 97, 92, 120, 48, 97, 34, 10, 115, 101, 114, 118, 101, 114, 10] : List UInt8))) else (none)) else (none)) else (none)) else (none)) else (none)) else (none)) else (none)))
theorem spoollaw48_alive.mono : ∀ k, LeO (spoollaw48_alive.f k ) (spoollaw48_alive.f (k + 1) ) := by
  intro  k
  unfold spoollaw48_alive.f
  repeat' first
      | (with_reducible exact script_Parse.mono _ _)
      | (with_reducible exact script_Print.mono _ _)
      | (with_reducible exact LeO.refl _)
      | (with_reducible exact LeO.none _)
      | (with_reducible refine LeO.ite ?_ ?_)
      | (with_reducible refine LeO.bind ?_ (fun _ => ?_))
      | exact script_Parse.mono _ _
      | exact script_Print.mono _ _
      | exact LeO.none _
      | refine LeO.ite ?_ ?_
      | refine LeO.bind ?_ (fun _ => ?_)
set_option maxHeartbeats 8000000 in
set_option maxRecDepth 100000 in
theorem spoollaw48_alive.calls (k : Nat)  (r : Bool) (w : World) (hrG0 : Kd.C Kd.string w (some ⟨0, 0, none⟩) tab_script_names.length tab_script_names) (hrG1 : Kd.C Kd.string w (some ⟨1, 0, none⟩) tab_script_heads.length tab_script_heads) (hrG2 : Kd.C (Kd.int .u8) w (some ⟨2, 0, none⟩) tab_digit_signs.length tab_digit_signs) (h : spoollaw48_alive.f k  = some r) :
    Calls Tryd.prog 8 #[] w fun e w' => e = .returned (.bool r) ∧ Below w.heap.size w w' := by
  have hu26 := Tryd.underlying26
  have hu51 := Tryd.underlying51
  have hu42 := Tryd.underlying42
  have HRG0 := Aside0.mk hrG0
  clear hrG0
  have HRG1 := Aside0.mk hrG1
  clear hrG1
  have HRG2 := Aside0.mk hrG2
  clear hrG2
  have HB := Aside0.mk (Below.refl w.heap.size w)
  have H : ((script_Parse.f k (⟨#[105, 110, 118, 111, 107, 101, 32, 48, 32, 102, 101, 101, 100, 32, 34, 97, 92, 120, 48, 97, 34, 10, 10, 32, 32, 115, 101, 114, 118, 101, 114]⟩ : ByteArray)).bind fun bt209 => ((script_Print.f k bt209.1).bind fun bt215 => (if bt209.2.1 = 0 then (if (bt209.1.length : Int) = 2 then (if 0 < (bt209.1.length : Int) then (if (((rd_T51 bt209.1 0).f0) == 1 && (((rd_T51 bt209.1 0).f1) == 0 && ((((rd_T51 bt209.1 0).f2.f0) == 1 && (((rd_T51 bt209.1 0).f2.f1) == 0 && ((((rd_T51 bt209.1 0).f2.f2).toList) == ([97, 10] : List UInt8))))))) = true then (if 1 < (bt209.1.length : Int) then (if (((rd_T51 bt209.1 1).f0) == 3 && (((rd_T51 bt209.1 1).f1) == 0 && ((((rd_T51 bt209.1 1).f2.f0) == 0 && (((rd_T51 bt209.1 1).f2.f1) == 0 && ((((rd_T51 bt209.1 1).f2.f2).toList) == ([] : List UInt8))))))) = true then (if bt215.2 = 0 then (some (bt215.1.toList == ([105, 110, 118, 111, 107, 101, 32, 48, 32, 102, 101, 101, 100, 32, 34, 97, 92, 120, 48, 97, 34, 10, 115, 101, 114, 118, 101, 114, 10] : List UInt8))) else (none)) else (none)) else (none)) else (none)) else (none)) else (none)) else (none)))) = some r := h
  clear h
  replace H := Option.bind_eq_some_iff.mp H
  obtain ⟨⟨t209, t212, t213⟩, A10, H⟩ := H
  replace H : ((script_Print.f k t209).bind fun bt215 => (if t212 = 0 then (if (t209.length : Int) = 2 then (if 0 < (t209.length : Int) then (if (((rd_T51 t209 0).f0) == 1 && (((rd_T51 t209 0).f1) == 0 && ((((rd_T51 t209 0).f2.f0) == 1 && (((rd_T51 t209 0).f2.f1) == 0 && ((((rd_T51 t209 0).f2.f2).toList) == ([97, 10] : List UInt8))))))) = true then (if 1 < (t209.length : Int) then (if (((rd_T51 t209 1).f0) == 3 && (((rd_T51 t209 1).f1) == 0 && ((((rd_T51 t209 1).f2.f0) == 0 && (((rd_T51 t209 1).f2.f1) == 0 && ((((rd_T51 t209 1).f2.f2).toList) == ([] : List UInt8))))))) = true then (if bt215.2 = 0 then (some (bt215.1.toList == ([105, 110, 118, 111, 107, 101, 32, 48, 32, 102, 101, 101, 100, 32, 34, 97, 92, 120, 48, 97, 34, 10, 115, 101, 114, 118, 101, 114, 10] : List UInt8))) else (none)) else (none)) else (none)) else (none)) else (none)) else (none)) else (none))) = some r := H
  have A1 := Aside0.mk A10
  clear A10
  replace H := Option.bind_eq_some_iff.mp H
  obtain ⟨⟨t215, t216⟩, A20, H⟩ := H
  replace H : (if t212 = 0 then (if (t209.length : Int) = 2 then (if 0 < (t209.length : Int) then (if (((rd_T51 t209 0).f0) == 1 && (((rd_T51 t209 0).f1) == 0 && ((((rd_T51 t209 0).f2.f0) == 1 && (((rd_T51 t209 0).f2.f1) == 0 && ((((rd_T51 t209 0).f2.f2).toList) == ([97, 10] : List UInt8))))))) = true then (if 1 < (t209.length : Int) then (if (((rd_T51 t209 1).f0) == 3 && (((rd_T51 t209 1).f1) == 0 && ((((rd_T51 t209 1).f2.f0) == 0 && (((rd_T51 t209 1).f2.f1) == 0 && ((((rd_T51 t209 1).f2.f2).toList) == ([] : List UInt8))))))) = true then (if t216 = 0 then (some (t215.toList == ([105, 110, 118, 111, 107, 101, 32, 48, 32, 102, 101, 101, 100, 32, 34, 97, 92, 120, 48, 97, 34, 10, 115, 101, 114, 118, 101, 114, 10] : List UInt8))) else (none)) else (none)) else (none)) else (none)) else (none)) else (none)) else (none)) = some r := H
  have A2 := Aside0.mk A20
  clear A20
  by_cases c3 : t212 = 0
  · rw [if_pos c3] at H
    have c3b0 : (t212 == 0) = true := beq_iff_eq.mpr c3
    have c3b1 : (t212 != 0) = false := bne_eq_false_iff_eq.mpr c3
    clear c3
    by_cases c4 : (t209.length : Int) = 2
    · rw [if_pos c4] at H
      have c4b0 : ((t209.length : Int) == 2) = true := beq_iff_eq.mpr c4
      have c4b1 : ((t209.length : Int) != 2) = false := bne_eq_false_iff_eq.mpr c4
      clear c4
      by_cases c5 : 0 < (t209.length : Int)
      · rw [if_pos c5] at H
        have c5b0 : decide (0 < (t209.length : Int)) = true := decide_eq_true c5
        have c5b1 : decide (0 < t209.length) = true := decide_eq_true (by omega)
        clear c5
        by_cases c6 : (((rd_T51 t209 0).f0) == 1 && (((rd_T51 t209 0).f1) == 0 && ((((rd_T51 t209 0).f2.f0) == 1 && (((rd_T51 t209 0).f2.f1) == 0 && ((((rd_T51 t209 0).f2.f2).toList) == ([97, 10] : List UInt8))))))) = true
        · rw [if_pos c6] at H
          have c6b0 : (((rd_T51 t209 0).f0) == 1 && (((rd_T51 t209 0).f1) == 0 && ((((rd_T51 t209 0).f2.f0) == 1 && (((rd_T51 t209 0).f2.f1) == 0 && ((((rd_T51 t209 0).f2.f2).toList) == ([97, 10] : List UInt8))))))) = true := c6
          (try (have c6b1 : decide (((rd_T51 t209 0).f0) = 1 && (((rd_T51 t209 0).f1) == 0 && ((((rd_T51 t209 0).f2.f0) == 1 && (((rd_T51 t209 0).f2.f1) == 0 && ((((rd_T51 t209 0).f2.f2).toList) == ([97, 10] : List UInt8))))))) = true := by simpa using c6))
          (try (have c6b2 : (((rd_T51 t209 0).f0) == 1 && (((rd_T51 t209 0).f1) == 0 && ((((rd_T51 t209 0).f2.f0) == 1 && (((rd_T51 t209 0).f2.f1) == 0 && ((((rd_T51 t209 0).f2.f2).toList) == ([97, 10] : List UInt8))))))) = true := by simpa using c6))
          clear c6
          by_cases c7 : 1 < (t209.length : Int)
          · rw [if_pos c7] at H
            have c7b0 : decide (1 < (t209.length : Int)) = true := decide_eq_true c7
            have c7b1 : decide (1 < t209.length) = true := decide_eq_true (by omega)
            clear c7
            by_cases c8 : (((rd_T51 t209 1).f0) == 3 && (((rd_T51 t209 1).f1) == 0 && ((((rd_T51 t209 1).f2.f0) == 0 && (((rd_T51 t209 1).f2.f1) == 0 && ((((rd_T51 t209 1).f2.f2).toList) == ([] : List UInt8))))))) = true
            · rw [if_pos c8] at H
              have c8b0 : (((rd_T51 t209 1).f0) == 3 && (((rd_T51 t209 1).f1) == 0 && ((((rd_T51 t209 1).f2.f0) == 0 && (((rd_T51 t209 1).f2.f1) == 0 && ((((rd_T51 t209 1).f2.f2).toList) == ([] : List UInt8))))))) = true := c8
              (try (have c8b1 : decide (((rd_T51 t209 1).f0) = 3 && (((rd_T51 t209 1).f1) == 0 && ((((rd_T51 t209 1).f2.f0) == 0 && (((rd_T51 t209 1).f2.f1) == 0 && ((((rd_T51 t209 1).f2.f2).toList) == ([] : List UInt8))))))) = true := by simpa using c8))
              (try (have c8b2 : (((rd_T51 t209 1).f0) == 3 && (((rd_T51 t209 1).f1) == 0 && ((((rd_T51 t209 1).f2.f0) == 0 && (((rd_T51 t209 1).f2.f1) == 0 && ((((rd_T51 t209 1).f2.f2).toList) == ([] : List UInt8))))))) = true := by simpa using c8))
              clear c8
              by_cases c9 : t216 = 0
              · rw [if_pos c9] at H
                have c9b0 : (t216 == 0) = true := beq_iff_eq.mpr c9
                have c9b1 : (t216 != 0) = false := bne_eq_false_iff_eq.mpr c9
                clear c9
                obtain rfl := Option.some.inj H
                go_enter Tryd.func8, Tryd.ntmps8
                go_wp2_with (first | ((with_reducible refine gate_callee (f := 9) rfl ?_); refine goesL_ (some 6) rfl rfl Tryd.func9 (by kernel_rfl) rfl #[.string (⟨#[105, 110, 118, 111, 107, 101, 32, 48, 32, 102, 101, 101, 100, 32, 34, 97, 92, 120, 48, 97, 34, 10, 10, 32, 32, 115, 101, 114, 118, 101, 114]⟩ : ByteArray)] rfl (by (try simp only [List.map_toArray, List.map_cons, List.map_nil]); first | done | rfl | (simp only [List.length_drop, List.length_take]; rfl)) ?_; (with_reducible refine (script_Parse.calls k (⟨#[105, 110, 118, 111, 107, 101, 32, 48, 32, 102, 101, 101, 100, 32, 34, 97, 92, 120, 48, 97, 34, 10, 10, 32, 32, 115, 101, 114, 118, 101, 114]⟩ : ByteArray) t209 t212 t213 _ ?side1 ?side2 A1.out).mono ?_); (case side1 => repeat (first | exact HRG0.out | (with_reducible refine Kd.C_alloc ?_ _) | (with_reducible refine Kd.C_drewN ?_ _) | (with_reducible refine Kd.C_drew ?_))); (case side2 => repeat (first | exact HRG1.out | (with_reducible refine Kd.C_alloc ?_ _) | (with_reducible refine Kd.C_drewN ?_ _) | (with_reducible refine Kd.C_drew ?_))); rintro e w10 ⟨v210, rfl, ho0, hb⟩; refine ⟨_, rfl, ?_⟩; have n0_ := Aside0.mk (Kd.R_lower ho0 (below_size (by repeat (first | (with_reducible first | exact HB.out | apply below_alloc | apply pw_below_drewN | apply below_drew1) | exact HB.out)))); have n1_ := Aside0.mk (below_step (by repeat (first | (with_reducible first | exact HB.out | apply below_alloc | apply pw_below_drewN | apply below_drew1) | exact HB.out)) hb); clear HB; have HO211 := n0_; have HB := n1_; clear n0_ n1_; (try clear hb); (try clear hb2); (try clear hk); (try clear hi); (try clear ho0)) | ((with_reducible refine gate_dst (N := 2) rfl ?_); (try (refine gate_guard (by rfl) ?_; dsimp only)); refine box_event ?hg (N := 2) ?hd (cs := #[.int .i64 0, .int .i64 0]) (t := 26) ?hr ?_; (case hd => rfl); (case hg => rfl); (case hr => first | (go_simp; done) | (go_simp; rfl)); intro gb214 hg w11 hbox hb; have n0_ := Aside0.mk (Kd.R_below (by (with_reducible repeat (first | apply Kd.R_alloc | apply Kd.R_drewN | apply Kd.R_drew)); exact HO211.out) hb); have n1_ := Aside0.mk (below_step (by repeat (first | (with_reducible first | exact HB.out | apply below_alloc | apply pw_below_drewN | apply below_drew1) | exact HB.out)) hb); have n2_ := Aside0.mk (hbox); have n3_ := Aside0.mk ((by rw [hg]; exact (below_size (by repeat (first | (with_reducible first | exact HB.out | apply below_alloc | apply pw_below_drewN | apply below_drew1) | exact HB.out))) : w.heap.size ≤ gb214)); have n4_ := Aside0.mk ((by rw [hg]; exact (below_size (by repeat (first | (with_reducible first | exact HB.out | apply below_alloc | apply pw_below_drewN | apply below_drew1) | exact HB.out))) : w.heap.size ≤ gb214)); clear HO211; clear HB; have HO211 := n0_; have HB := n1_; have BK214 := n2_; have GW214 := n3_; have GE214 := n4_; clear n0_ n1_ n2_ n3_ n4_; clear hb hbox hg; have hcz12_0 : w11.cell? ⟨gb214, 0, none⟩ = some (.int .i64 0) := (blk_cell BK214.out 0).trans rfl; have hcz12_1 : w11.cell? ⟨gb214, 1, none⟩ = some (.int .i64 0) := (blk_cell BK214.out 1).trans rfl; have hfz12_0 := blk_frozen BK214.out 0; have hfz12_1 := blk_frozen BK214.out 1; obtain ⟨Ao13, co13, eo13⟩ := Kd.R_slice HO211.out; subst eo13) | ((with_reducible refine gate_callee (f := 13) rfl ?_); refine goesL_ (some 11) rfl rfl Tryd.func13 (by kernel_rfl) rfl #[.slice Ao13 t209.length co13] rfl (by (try simp only [List.map_toArray, List.map_cons, List.map_nil]); first | done | rfl | (simp only [List.length_drop, List.length_take]; rfl)) ?_; (with_reducible refine (script_Print.calls k _ _ t209 t215 t216 _ ?side1 ?side2 ?side3 ?side4 ?side5 A2.out).mono ?_); (case side1 => refine (Kd.R_reads' (e := 51) (base := w.heap.size) (ok := fun k_ => True) (n := t209.length) (c := co13) ?_).2.2; exact (by (with_reducible repeat (first | apply Kd.R_alloc | apply Kd.R_drewN | apply Kd.R_drew)); exact (Kd.R_mono (Kd.R_far (p := ⟨gb214, 1, none⟩) (Kd.R_far (p := ⟨gb214, 0, none⟩) (Kd.R_types HO211.out BK214.out (by decide)) (fun _ hk => hk.2) (.int .i64 t212)) (fun _ hk => hk.2) (.int .i64 t213)) (fun _ h_ => h_.1)))); (case side2 => exact (Kd.R_reads' HO211.out).2.1); (case side3 => exact Kd.C_below HRG0.out (by repeat (first | (with_reducible first | exact HB.out | apply below_alloc | apply pw_below_drewN | apply below_drew1 | refine below_set ?_ GE214.out) | exact HB.out))); (case side4 => exact Kd.C_below HRG1.out (by repeat (first | (with_reducible first | exact HB.out | apply below_alloc | apply pw_below_drewN | apply below_drew1 | refine below_set ?_ GE214.out) | exact HB.out))); (case side5 => exact Kd.C_below HRG2.out (by repeat (first | (with_reducible first | exact HB.out | apply below_alloc | apply pw_below_drewN | apply below_drew1 | refine below_set ?_ GE214.out) | exact HB.out))); rintro e w14 ⟨rfl, hb⟩; refine ⟨_, rfl, ?_⟩; have n0_ := Aside0.mk (Kd.R_below (by (with_reducible repeat (first | apply Kd.R_alloc | apply Kd.R_drewN | apply Kd.R_drew)); exact (Kd.R_mono (Kd.R_far (p := ⟨gb214, 1, none⟩) (Kd.R_far (p := ⟨gb214, 0, none⟩) (Kd.R_types HO211.out BK214.out (by decide)) (fun _ hk => hk.2) (.int .i64 t212)) (fun _ hk => hk.2) (.int .i64 t213)) (fun _ h_ => h_.1))) hb); have n1_ := Aside0.mk (blk_below (g := gb214) (o := .cells #[.int .i64 t212, .int .i64 t213] 26 (0, 0)) (by (with_reducible repeat (first | refine blk_drewN ?_ _ | refine blk_drew ?_ | refine blk_alloc ?_ _)); refine blk_put (cs := #[.int .i64 t212, .int .i64 0]) ?_ 1 _ rfl; (with_reducible repeat (first | refine blk_drewN ?_ _ | refine blk_drew ?_ | refine blk_alloc ?_ _)); refine blk_put (cs := #[.int .i64 0, .int .i64 0]) ?_ 0 _ rfl; (with_reducible repeat (first | refine blk_drewN ?_ _ | refine blk_drew ?_ | refine blk_alloc ?_ _)); exact BK214.out) hb); have n2_ := Aside0.mk (below_step (by repeat (first | (with_reducible first | exact HB.out | apply below_alloc | apply pw_below_drewN | apply below_drew1 | refine below_set ?_ GE214.out) | exact HB.out)) hb); clear HO211; clear BK214; clear HB; have HO211 := n0_; have BK214 := n1_; have HB := n2_; clear n0_ n1_ n2_; (try clear hb); (try clear hb2); (try clear hk); (try clear hi); have hcz15_0 : w14.cell? ⟨gb214, 0, none⟩ = some (.int .i64 t212) := (blk_cell BK214.out 0).trans rfl; have hcz15_1 : w14.cell? ⟨gb214, 1, none⟩ = some (.int .i64 t213) := (blk_cell BK214.out 1).trans rfl; have hfz15_0 := blk_frozen BK214.out 0; have hfz15_1 := blk_frozen BK214.out 1; have p217 : 0 ≤ (0 : Int) := (by omega); have q217 : 0 < (t209.length : Int) := of_decide_eq_true (by first | (with_reducible assumption) | assumption); obtain ⟨ad217, e217, hx217_0, hx217_1, hx217_2, hx217_3, hx217_4⟩ := at_T51 (Kd.R_reads' HO211.out).2.2 0 p217 q217; cases e217; have qi217 : (0 < t209.length) = True := eq_true (by omega); (try rw [show ((0 : Int)).toNat = 0 from rfl] at hx217_0); (try rw [show 0 * 5 = 0 from rfl] at hx217_0); (try rw [Addr.add_zero'] at hx217_0); (try rw [show ((0 : Int)).toNat = 0 from rfl] at hx217_1); (try rw [show 0 * 5 = 0 from rfl] at hx217_1); (try rw [Addr.add_zero'] at hx217_1); (try rw [show ((0 : Int)).toNat = 0 from rfl] at hx217_2); (try rw [show 0 * 5 = 0 from rfl] at hx217_2); (try rw [Addr.add_zero'] at hx217_2); (try rw [show ((0 : Int)).toNat = 0 from rfl] at hx217_3); (try rw [show 0 * 5 = 0 from rfl] at hx217_3); (try rw [Addr.add_zero'] at hx217_3); (try rw [show ((0 : Int)).toNat = 0 from rfl] at hx217_4); (try rw [show 0 * 5 = 0 from rfl] at hx217_4); (try rw [Addr.add_zero'] at hx217_4); replace p217 := eq_true p217; replace q217 := eq_true q217; have p218 : 0 ≤ (1 : Int) := (by omega); have q218 : 1 < (t209.length : Int) := of_decide_eq_true (by first | (with_reducible assumption) | assumption); obtain ⟨ad218, e218, hx218_0, hx218_1, hx218_2, hx218_3, hx218_4⟩ := at_T51 (Kd.R_reads' HO211.out).2.2 1 p218 q218; obtain rfl : ad217 = ad218 := (by injection e218); (try simp only [show (1 : Int).toNat = 1 from rfl, Nat.reduceMul, Nat.reduceEqDiff, Go.Addr.add, ↓reduceIte] at hx218_0); (try simp only [show (1 : Int).toNat = 1 from rfl, Nat.reduceMul, Nat.reduceEqDiff, Go.Addr.add, ↓reduceIte] at hx218_1); (try simp only [show (1 : Int).toNat = 1 from rfl, Nat.reduceMul, Nat.reduceEqDiff, Go.Addr.add, ↓reduceIte] at hx218_2); (try simp only [show (1 : Int).toNat = 1 from rfl, Nat.reduceMul, Nat.reduceEqDiff, Go.Addr.add, ↓reduceIte] at hx218_3); (try simp only [show (1 : Int).toNat = 1 from rfl, Nat.reduceMul, Nat.reduceEqDiff, Go.Addr.add, ↓reduceIte] at hx218_4); have qi218 : (1 < t209.length) = True := eq_true (by omega); (try rw [show ((1 : Int)).toNat = 1 from rfl] at hx218_0); (try rw [show 1 * 5 = 5 from rfl] at hx218_0); (try rw [show ((1 : Int)).toNat = 1 from rfl] at hx218_1); (try rw [show 1 * 5 = 5 from rfl] at hx218_1); (try rw [show ((1 : Int)).toNat = 1 from rfl] at hx218_2); (try rw [show 1 * 5 = 5 from rfl] at hx218_2); (try rw [show ((1 : Int)).toNat = 1 from rfl] at hx218_3); (try rw [show 1 * 5 = 5 from rfl] at hx218_3); (try rw [show ((1 : Int)).toNat = 1 from rfl] at hx218_4); (try rw [show 1 * 5 = 5 from rfl] at hx218_4); replace p218 := eq_true p218; replace q218 := eq_true q218))
                all_goals first | (exfalso; simp_all; done) | (go_ret; exact ⟨by first | rfl | (simp [errW_none, errW_some] <;> rfl) | (simp [*, errW_none, errW_some] <;> rfl), by repeat (first | (with_reducible first | exact HB.out | apply below_alloc | apply pw_below_drewN | apply below_drew1 | refine below_set ?_ GE214.out) | exact HB.out)⟩)
              · rw [if_neg c9] at H
                exact absurd H (by simp)
            · rw [if_neg c8] at H
              exact absurd H (by simp)
          · rw [if_neg c7] at H
            exact absurd H (by simp)
        · rw [if_neg c6] at H
          exact absurd H (by simp)
      · rw [if_neg c5] at H
        exact absurd H (by simp)
    · rw [if_neg c4] at H
      exact absurd H (by simp)
  · rw [if_neg c3] at H
    exact absurd H (by simp)

end Go.Proofs.YtifcpamliidabaaDoor.PS

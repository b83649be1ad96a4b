-- WRITTEN BY A PROGRAM OF THIS SESSION (patchprint.py over the kit's print)
import Derived.Test.YtifcpamliidabaaDoorPSx0
import Derived.Test.YtifcpamliidabaaDoorPSx7
import Derived.Test.YtifcpamliidabaaDoorPSx8
import Derived.Test.YtifcpamliidabaaDoorPSx9
namespace Go.Proofs.YtifcpamliidabaaDoor.PS
open Go.RowKit Go.Proofs.YtifcpamliidabaaDoorW.PrintWords Go.Proofs.YtifcpamliidabaaDoorW.PrintLast Go.Proofs.YtifcpamliidabaaDoorW.PrintMore
attribute [local go_sem] max2_int min2_int max_two min_two max_three min_three max_four min_four   -- for this text's walks alone
set_option linter.unusedVariables false
set_option linter.unusedSimpArgs false

/-! ### script_line: function 32 -/
def script_line.j0 : Nat → ByteArray → Bool → Int → Int → Int → Int → ByteArray → Option (ByteArray)
  | 0, _, _, _, _, _, _, _ => none
  | k + 1, x3, x17, x194000, x194001, x194002, x194003, x194004 => if x17 = true then ((digit_Text.f k x194001).bind fun t195 => (if 1 + t195.size ≤ 9223372036854775807 then (if x3.size + ((⟨#[32]⟩ : ByteArray) ++ t195).size ≤ 9223372036854775807 then ((script_OpText.f k x194002 x194003 x194004).bind fun bt196 => (if bt196.2 = true then (if 1 + bt196.1.size ≤ 9223372036854775807 then (if (x3 ++ ((⟨#[32]⟩ : ByteArray) ++ t195)).size + ((⟨#[32]⟩ : ByteArray) ++ bt196.1).size ≤ 9223372036854775807 then (if ((x3 ++ ((⟨#[32]⟩ : ByteArray) ++ t195)) ++ ((⟨#[32]⟩ : ByteArray) ++ bt196.1)).size + 1 ≤ 9223372036854775807 then (some (((x3 ++ ((⟨#[32]⟩ : ByteArray) ++ t195)) ++ ((⟨#[32]⟩ : ByteArray) ++ bt196.1)) ++ (⟨#[10]⟩ : ByteArray))) else (none)) else (none)) else (none)) else (if (x3 ++ ((⟨#[32]⟩ : ByteArray) ++ t195)).size + 1 ≤ 9223372036854775807 then (some ((x3 ++ ((⟨#[32]⟩ : ByteArray) ++ t195)) ++ (⟨#[10]⟩ : ByteArray))) else (none)))) else (none)) else (none))) else ((script_OpText.f k x194002 x194003 x194004).bind fun bt198 => (if bt198.2 = true then (if 1 + bt198.1.size ≤ 9223372036854775807 then (if x3.size + ((⟨#[32]⟩ : ByteArray) ++ bt198.1).size ≤ 9223372036854775807 then (if (x3 ++ ((⟨#[32]⟩ : ByteArray) ++ bt198.1)).size + 1 ≤ 9223372036854775807 then (some ((x3 ++ ((⟨#[32]⟩ : ByteArray) ++ bt198.1)) ++ (⟨#[10]⟩ : ByteArray))) else (none)) else (none)) else (none)) else (if x3.size + 1 ≤ 9223372036854775807 then (some (x3 ++ (⟨#[10]⟩ : ByteArray))) else (none))))
def script_line.f (k : Nat) (a0_0 : Int) (a0_1 : Int) (a0_2 : Int) (a0_3 : Int) (a0_4 : ByteArray) : Option (ByteArray) := if 0 ≤ a0_0 then (if a0_0 < 6 then (if a0_0 = 1 then (script_line.j0 k (rdOf ByteArray.empty tab_script_heads a0_0) true a0_0 a0_1 a0_2 a0_3 a0_4) else (script_line.j0 k (rdOf ByteArray.empty tab_script_heads a0_0) (a0_0 == 2) a0_0 a0_1 a0_2 a0_3 a0_4)) else (none)) else (none)
theorem script_line.mono_l : ∀ k, (∀ y0 y1 y2 y3 y4 y5 y6, LeO (script_line.j0 k y0 y1 y2 y3 y4 y5 y6) (script_line.j0 (k + 1) y0 y1 y2 y3 y4 y5 y6))
  | 0 => fun _ _ _ _ _ _ _ r h => by simp [script_line.j0] at h
  | k + 1 => by
    have ih0 := script_line.mono_l k
    · intro y0 y1 y2 y3 y4 y5 y6
      unfold script_line.j0
      repeat' first
      | (with_reducible exact ih0 _ _ _ _ _ _ _)
      | (with_reducible exact digit_Text.mono _ _)
      | (with_reducible exact script_OpText.mono _ _ _ _)
      | (with_reducible exact LeO.refl _)
      | (with_reducible exact LeO.none _)
      | (with_reducible refine LeO.ite ?_ ?_)
      | (with_reducible refine LeO.bind ?_ (fun _ => ?_))
      | exact ih0 _ _ _ _ _ _ _
      | exact digit_Text.mono _ _
      | exact script_OpText.mono _ _ _ _
      | exact LeO.none _
      | refine LeO.ite ?_ ?_
      | refine LeO.bind ?_ (fun _ => ?_)
theorem script_line.mono : ∀ a0 a1 a2 a3 a4 k, LeO (script_line.f k a0 a1 a2 a3 a4) (script_line.f (k + 1) a0 a1 a2 a3 a4) := by
  intro a0 a1 a2 a3 a4 k
  have ih0 := script_line.mono_l k
  unfold script_line.f
  repeat' first
      | (with_reducible exact ih0 _ _ _ _ _ _ _)
      | (with_reducible exact digit_Text.mono _ _)
      | (with_reducible exact script_OpText.mono _ _ _ _)
      | (with_reducible exact LeO.refl _)
      | (with_reducible exact LeO.none _)
      | (with_reducible refine LeO.ite ?_ ?_)
      | (with_reducible refine LeO.bind ?_ (fun _ => ?_))
      | exact ih0 _ _ _ _ _ _ _
      | exact digit_Text.mono _ _
      | exact script_OpText.mono _ _ _ _
      | exact LeO.none _
      | refine LeO.ite ?_ ?_
      | refine LeO.bind ?_ (fun _ => ?_)
set_option maxHeartbeats 8000000 in
set_option maxRecDepth 100000 in
theorem script_line.calls (k : Nat) (a0_0 : Int) (a0_1 : Int) (a0_2 : Int) (a0_3 : Int) (a0_4 : ByteArray) (r : ByteArray) (w : World) (hrG0 : Kd.C Kd.string w (some ⟨0, 0, none⟩) tab_script_names.length tab_script_names) (hrG1 : Kd.C Kd.string w (some ⟨1, 0, none⟩) tab_script_heads.length tab_script_heads) (hrG2 : Kd.C (Kd.int .u8) w (some ⟨2, 0, none⟩) tab_digit_signs.length tab_digit_signs) (h : script_line.f k a0_0 a0_1 a0_2 a0_3 a0_4 = some r) :
    Calls Tryd.prog 32 #[.agg #[.int .i64 a0_0, .int .i64 a0_1, .int .i64 a0_2, .int .i64 a0_3, .string a0_4]] w fun e w' => e = .returned (.string r) ∧ Below w.heap.size w w' := by
  have hu51 := Tryd.underlying51
  have hu42 := Tryd.underlying42
  have HRG0 := Aside0.mk hrG0
  clear hrG0
  have HRG1 := Aside0.mk hrG1
  clear hrG1
  have HRG2 := Aside0.mk hrG2
  clear hrG2
  have HB := Aside0.mk (Below.refl w.heap.size w)
  have H : (if 0 ≤ a0_0 then (if a0_0 < 6 then (if a0_0 = 1 then (script_line.j0 k (rdOf ByteArray.empty tab_script_heads a0_0) true a0_0 a0_1 a0_2 a0_3 a0_4) else (script_line.j0 k (rdOf ByteArray.empty tab_script_heads a0_0) (a0_0 == 2) a0_0 a0_1 a0_2 a0_3 a0_4)) else (none)) else (none)) = some r := h
  clear h
  by_cases c2 : 0 ≤ a0_0
  · rw [if_pos c2] at H
    have c2b0 : decide (0 ≤ a0_0) = true := decide_eq_true c2
    clear c2
    by_cases c3 : a0_0 < 6
    · rw [if_pos c3] at H
      have c3b0 : decide (a0_0 < 6) = true := decide_eq_true c3
      clear c3
      have HC4 := Aside0.mk H
      clear H
      go_enter Tryd.func32, Tryd.ntmps32
      go_upto_region 2 with (first | ((with_reducible refine gate_dst (N := 1) rfl ?_); refine box_event ?hg (N := 1) ?hd (cs := #[.int .i64 a0_0, .int .i64 a0_1, .int .i64 a0_2, .int .i64 a0_3, .string a0_4]) (t := 51) ?hr ?_; (case hd => rfl); (case hg => rfl); (case hr => first | (go_simp; done) | (go_simp; rfl)); intro gb193 hg w5 hbox hb; have n0_ := Aside0.mk (below_step (by repeat (first | (with_reducible first | exact HB.out | apply below_alloc | apply pw_below_drewN | apply below_drew1) | exact HB.out)) hb); have n1_ := Aside0.mk (hbox); have n2_ := Aside0.mk ((by rw [hg]; exact (below_size (by repeat (first | (with_reducible first | exact HB.out | apply below_alloc | apply pw_below_drewN | apply below_drew1) | exact HB.out))) : w.heap.size ≤ gb193)); have n3_ := Aside0.mk ((by rw [hg]; exact (below_size (by repeat (first | (with_reducible first | exact HB.out | apply below_alloc | apply pw_below_drewN | apply below_drew1) | exact HB.out))) : w.heap.size ≤ gb193)); clear HB; have HB := n0_; have BK193 := n1_; have GW193 := n2_; have GE193 := n3_; clear n0_ n1_ n2_ n3_; clear hb hbox hg; have hcz6_0 : w5.cell? ⟨gb193, 0, none⟩ = some (.int .i64 a0_0) := (blk_cell BK193.out 0).trans rfl; have hcz6_1 : w5.cell? ⟨gb193, 1, none⟩ = some (.int .i64 a0_1) := (blk_cell BK193.out 1).trans rfl; have hcz6_2 : w5.cell? ⟨gb193, 2, none⟩ = some (.int .i64 a0_2) := (blk_cell BK193.out 2).trans rfl; have hcz6_3 : w5.cell? ⟨gb193, 3, none⟩ = some (.int .i64 a0_3) := (blk_cell BK193.out 3).trans rfl; have hcz6_4 : w5.cell? ⟨gb193, 4, none⟩ = some (.string a0_4) := (blk_cell BK193.out 4).trans rfl; have hfz6_0 := blk_frozen BK193.out 0; have hfz6_1 := blk_frozen BK193.out 1; have hfz6_2 := blk_frozen BK193.out 2; have hfz6_3 := blk_frozen BK193.out 3; have hfz6_4 := blk_frozen BK193.out 4; have p194 : 0 ≤ (a0_0 : Int) := of_decide_eq_true (by first | (with_reducible assumption) | assumption); have q194 : a0_0 < ((tab_script_heads.length : Nat) : Int) := (by have h_ : (a0_0 : Int) < 6 := of_decide_eq_true (by first | (with_reducible assumption) | assumption); have e_ : tab_script_heads.length = 6 := rfl; omega); have qg194 : ((a0_0 : Int) < 6) = True := eq_true (by have e_ : tab_script_heads.length = 6 := rfl; omega); obtain ⟨ad194, e194, hx194_0⟩ := Kd.at_string HRG1.out a0_0 p194 q194; obtain rfl : (⟨1, 0, none⟩ : Addr) = ad194 := (by injection e194); (first | simp only [add_plain] at hx194_0 | simp only [add_at] at hx194_0 | simp only [Addr.add, Nat.zero_add] at hx194_0 | skip); replace hx194_0 := (HB.out.cell (World.block_lt_of_cell? w _ hx194_0)).trans hx194_0; replace p194 := eq_true p194; replace q194 := eq_true q194))
      (try simp only [Act.put, List.setIfInBounds_toArray, List.set_cons_zero, List.set_cons_succ])
      go_cut [17] (fun v17 wc => ∃ (kq : Nat) (x17_3 : Bool), v17 = .bool x17_3 ∧ Aside0 (script_line.j0 kq (rdOf ByteArray.empty tab_script_heads a0_0) x17_3 a0_0 a0_1 a0_2 a0_3 a0_4 = some r) ∧ Aside0 (kq ≤ k) ∧ Aside0 (wc.heap[gb193]? = some (.cells #[.int .i64 a0_0, .int .i64 a0_1, .int .i64 a0_2, .int .i64 a0_3, .string a0_4] 51 (0, 0))) ∧ Aside0 (Below w.heap.size w wc))
      case first =>
        have H := HC4.out
        clear HC4
        by_cases c7 : a0_0 = 1
        · rw [if_pos c7] at H
          have c7b0 : (a0_0 == 1) = true := beq_iff_eq.mpr c7
          have c7b1 : (a0_0 != 1) = false := bne_eq_false_iff_eq.mpr c7
          clear c7
          (first | rw [c7b0] | (simp only [i64_w, i32_w]; rw [c7b0]) | skip)
          have H' := Aside0.mk H
          clear H
          have hcz8_0 : w5.cell? ⟨gb193, 0, none⟩ = some (.int .i64 a0_0) := (blk_cell BK193.out 0).trans rfl
          have hcz8_1 : w5.cell? ⟨gb193, 1, none⟩ = some (.int .i64 a0_1) := (blk_cell BK193.out 1).trans rfl
          have hcz8_2 : w5.cell? ⟨gb193, 2, none⟩ = some (.int .i64 a0_2) := (blk_cell BK193.out 2).trans rfl
          have hcz8_3 : w5.cell? ⟨gb193, 3, none⟩ = some (.int .i64 a0_3) := (blk_cell BK193.out 3).trans rfl
          have hcz8_4 : w5.cell? ⟨gb193, 4, none⟩ = some (.string a0_4) := (blk_cell BK193.out 4).trans rfl
          have hfz8_0 := blk_frozen BK193.out 0
          have hfz8_1 := blk_frozen BK193.out 1
          have hfz8_2 := blk_frozen BK193.out 2
          have hfz8_3 := blk_frozen BK193.out 3
          have hfz8_4 := blk_frozen BK193.out 4
          go_wp2
          go_meet
          case rel => exact ⟨_, (true), (by first | rfl | (simp; done) | (simp [*]; done)), H', ⟨by first | omega | exact Nat.le_refl _⟩, ⟨by (with_reducible repeat (first | refine blk_drewN ?_ _ | refine blk_drew ?_ | refine blk_alloc ?_ _)); exact BK193.out⟩, ⟨by repeat (first | (with_reducible first | exact HB.out | apply below_alloc | apply pw_below_drewN | apply below_drew1 | refine below_set ?_ GE193.out) | exact HB.out)⟩⟩
        · rw [if_neg c7] at H
          have c7b0 : (a0_0 == 1) = false := beq_eq_false_iff_ne.mpr c7
          have c7b1 : (a0_0 != 1) = true := bne_iff_ne.mpr c7
          (first | rw [c7b0] | (simp only [i64_w, i32_w]; rw [c7b0]) | skip)
          have H' := Aside0.mk H
          clear H
          have hcz9_0 : w5.cell? ⟨gb193, 0, none⟩ = some (.int .i64 a0_0) := (blk_cell BK193.out 0).trans rfl
          have hcz9_1 : w5.cell? ⟨gb193, 1, none⟩ = some (.int .i64 a0_1) := (blk_cell BK193.out 1).trans rfl
          have hcz9_2 : w5.cell? ⟨gb193, 2, none⟩ = some (.int .i64 a0_2) := (blk_cell BK193.out 2).trans rfl
          have hcz9_3 : w5.cell? ⟨gb193, 3, none⟩ = some (.int .i64 a0_3) := (blk_cell BK193.out 3).trans rfl
          have hcz9_4 : w5.cell? ⟨gb193, 4, none⟩ = some (.string a0_4) := (blk_cell BK193.out 4).trans rfl
          have hfz9_0 := blk_frozen BK193.out 0
          have hfz9_1 := blk_frozen BK193.out 1
          have hfz9_2 := blk_frozen BK193.out 2
          have hfz9_3 := blk_frozen BK193.out 3
          have hfz9_4 := blk_frozen BK193.out 4
          go_wp2
          go_meet
          case rel => exact ⟨_, ((a0_0 == 2)), (by first | rfl | (simp; done) | (simp [*]; done)), H', ⟨by first | omega | exact Nat.le_refl _⟩, ⟨by (with_reducible repeat (first | refine blk_drewN ?_ _ | refine blk_drew ?_ | refine blk_alloc ?_ _)); exact BK193.out⟩, ⟨by repeat (first | (with_reducible first | exact HB.out | apply below_alloc | apply pw_below_drewN | apply below_drew1 | refine below_set ?_ GE193.out) | exact HB.out)⟩⟩
      case rest =>
        clear HC4
        try clear p1
        try clear q1
        try clear hx1
        try clear c2
        try clear c2b0
        try clear p2
        try clear c3
        try clear c3b0
        try clear c7
        try clear c7b0
        try clear c7b1
        try clear hcz6_0
        try clear hcz6_1
        try clear hcz6_2
        try clear hcz6_3
        try clear hcz6_4
        try clear hcz8_0
        try clear hcz8_1
        try clear hcz8_2
        try clear hcz8_3
        try clear hcz8_4
        try clear hcz9_0
        try clear hcz9_1
        try clear hcz9_2
        try clear hcz9_3
        try clear hcz9_4
        try clear hfz6_0
        try clear hfz6_1
        try clear hfz6_2
        try clear hfz6_3
        try clear hfz6_4
        try clear hfz8_0
        try clear hfz8_1
        try clear hfz8_2
        try clear hfz8_3
        try clear hfz8_4
        try clear hfz9_0
        try clear hfz9_1
        try clear hfz9_2
        try clear hfz9_3
        try clear hfz9_4
        try clear hx194_0
        try clear p194
        try clear q194
        obtain ⟨kq, x17_3, rfl, HA, HJ3, BK193, HB⟩ := hcut
        cases kq with
        | zero => exact absurd HA.out (by simp [script_line.j0])
        | succ kj3 =>
          have H := HA.out
          clear HA
          simp only [script_line.j0] at H
          by_cases c10 : x17_3 = true
          · subst c10
            have H1 : ((digit_Text.f kj3 a0_1).bind fun t195 => (if 1 + t195.size ≤ 9223372036854775807 then (if (rdOf ByteArray.empty tab_script_heads a0_0).size + ((⟨#[32]⟩ : ByteArray) ++ t195).size ≤ 9223372036854775807 then ((script_OpText.f kj3 a0_2 a0_3 a0_4).bind fun bt196 => (if bt196.2 = true then (if 1 + bt196.1.size ≤ 9223372036854775807 then (if ((rdOf ByteArray.empty tab_script_heads a0_0) ++ ((⟨#[32]⟩ : ByteArray) ++ t195)).size + ((⟨#[32]⟩ : ByteArray) ++ bt196.1).size ≤ 9223372036854775807 then (if (((rdOf ByteArray.empty tab_script_heads a0_0) ++ ((⟨#[32]⟩ : ByteArray) ++ t195)) ++ ((⟨#[32]⟩ : ByteArray) ++ bt196.1)).size + 1 ≤ 9223372036854775807 then (some ((((rdOf ByteArray.empty tab_script_heads a0_0) ++ ((⟨#[32]⟩ : ByteArray) ++ t195)) ++ ((⟨#[32]⟩ : ByteArray) ++ bt196.1)) ++ (⟨#[10]⟩ : ByteArray))) else (none)) else (none)) else (none)) else (if ((rdOf ByteArray.empty tab_script_heads a0_0) ++ ((⟨#[32]⟩ : ByteArray) ++ t195)).size + 1 ≤ 9223372036854775807 then (some (((rdOf ByteArray.empty tab_script_heads a0_0) ++ ((⟨#[32]⟩ : ByteArray) ++ t195)) ++ (⟨#[10]⟩ : ByteArray))) else (none)))) else (none)) else (none))) = some r := by rw [if_pos rfl] at H; exact H
            clear H
            have H := H1
            clear H1
            replace H := Option.bind_eq_some_iff.mp H
            obtain ⟨t195, A110, H⟩ := H
            replace H : (if 1 + t195.size ≤ 9223372036854775807 then (if (rdOf ByteArray.empty tab_script_heads a0_0).size + ((⟨#[32]⟩ : ByteArray) ++ t195).size ≤ 9223372036854775807 then ((script_OpText.f kj3 a0_2 a0_3 a0_4).bind fun bt196 => (if bt196.2 = true then (if 1 + bt196.1.size ≤ 9223372036854775807 then (if ((rdOf ByteArray.empty tab_script_heads a0_0) ++ ((⟨#[32]⟩ : ByteArray) ++ t195)).size + ((⟨#[32]⟩ : ByteArray) ++ bt196.1).size ≤ 9223372036854775807 then (if (((rdOf ByteArray.empty tab_script_heads a0_0) ++ ((⟨#[32]⟩ : ByteArray) ++ t195)) ++ ((⟨#[32]⟩ : ByteArray) ++ bt196.1)).size + 1 ≤ 9223372036854775807 then (some ((((rdOf ByteArray.empty tab_script_heads a0_0) ++ ((⟨#[32]⟩ : ByteArray) ++ t195)) ++ ((⟨#[32]⟩ : ByteArray) ++ bt196.1)) ++ (⟨#[10]⟩ : ByteArray))) else (none)) else (none)) else (none)) else (if ((rdOf ByteArray.empty tab_script_heads a0_0) ++ ((⟨#[32]⟩ : ByteArray) ++ t195)).size + 1 ≤ 9223372036854775807 then (some (((rdOf ByteArray.empty tab_script_heads a0_0) ++ ((⟨#[32]⟩ : ByteArray) ++ t195)) ++ (⟨#[10]⟩ : ByteArray))) else (none)))) else (none)) else (none)) = some r := H
            have A11 := Aside0.mk A110
            clear A110
            by_cases c12 : 1 + t195.size ≤ 9223372036854775807
            · rw [if_pos c12] at H
              have c12b0 := eq_true c12
              have c12b1 : decide (1 + t195.size ≤ 9223372036854775807) = true := decide_eq_true c12
              try have c12b2 : (9223372036854775807 < 1 + t195.size) = False := eq_false (Nat.not_lt.2 c12)
              by_cases c13 : (rdOf ByteArray.empty tab_script_heads a0_0).size + ((⟨#[32]⟩ : ByteArray) ++ t195).size ≤ 9223372036854775807
              · rw [if_pos c13] at H
                have c13b0 := eq_true c13
                have c13b1 : decide ((rdOf ByteArray.empty tab_script_heads a0_0).size + ((⟨#[32]⟩ : ByteArray) ++ t195).size ≤ 9223372036854775807) = true := decide_eq_true c13
                try have c13b1s : decide ((rdOf ByteArray.empty tab_script_heads a0_0).size + (1 + t195.size) ≤ 9223372036854775807) = true := (by have h_ := c13b1; simp only [ByteArray.size_append] at h_; exact h_)
                try have c13b2 : (9223372036854775807 < (rdOf ByteArray.empty tab_script_heads a0_0).size + ((⟨#[32]⟩ : ByteArray) ++ t195).size) = False := eq_false (Nat.not_lt.2 c13)
                try have c13b2s : (9223372036854775807 < (rdOf ByteArray.empty tab_script_heads a0_0).size + (1 + t195.size)) = False := (by have h_ := c13b2; simp only [ByteArray.size_append] at h_; exact h_)
                replace H := Option.bind_eq_some_iff.mp H
                obtain ⟨⟨t196, t197⟩, A140, H⟩ := H
                replace H : (if t197 = true then (if 1 + t196.size ≤ 9223372036854775807 then (if ((rdOf ByteArray.empty tab_script_heads a0_0) ++ ((⟨#[32]⟩ : ByteArray) ++ t195)).size + ((⟨#[32]⟩ : ByteArray) ++ t196).size ≤ 9223372036854775807 then (if (((rdOf ByteArray.empty tab_script_heads a0_0) ++ ((⟨#[32]⟩ : ByteArray) ++ t195)) ++ ((⟨#[32]⟩ : ByteArray) ++ t196)).size + 1 ≤ 9223372036854775807 then (some ((((rdOf ByteArray.empty tab_script_heads a0_0) ++ ((⟨#[32]⟩ : ByteArray) ++ t195)) ++ ((⟨#[32]⟩ : ByteArray) ++ t196)) ++ (⟨#[10]⟩ : ByteArray))) else (none)) else (none)) else (none)) else (if ((rdOf ByteArray.empty tab_script_heads a0_0) ++ ((⟨#[32]⟩ : ByteArray) ++ t195)).size + 1 ≤ 9223372036854775807 then (some (((rdOf ByteArray.empty tab_script_heads a0_0) ++ ((⟨#[32]⟩ : ByteArray) ++ t195)) ++ (⟨#[10]⟩ : ByteArray))) else (none))) = some r := H
                have A14 := Aside0.mk A140
                clear A140
                by_cases c15 : t197 = true
                · subst c15
                  have H1 : (if 1 + t196.size ≤ 9223372036854775807 then (if ((rdOf ByteArray.empty tab_script_heads a0_0) ++ ((⟨#[32]⟩ : ByteArray) ++ t195)).size + ((⟨#[32]⟩ : ByteArray) ++ t196).size ≤ 9223372036854775807 then (if (((rdOf ByteArray.empty tab_script_heads a0_0) ++ ((⟨#[32]⟩ : ByteArray) ++ t195)) ++ ((⟨#[32]⟩ : ByteArray) ++ t196)).size + 1 ≤ 9223372036854775807 then (some ((((rdOf ByteArray.empty tab_script_heads a0_0) ++ ((⟨#[32]⟩ : ByteArray) ++ t195)) ++ ((⟨#[32]⟩ : ByteArray) ++ t196)) ++ (⟨#[10]⟩ : ByteArray))) else (none)) else (none)) else (none)) = some r := by rw [if_pos rfl] at H; exact H
                  clear H
                  have H := H1
                  clear H1
                  by_cases c16 : 1 + t196.size ≤ 9223372036854775807
                  · rw [if_pos c16] at H
                    have c16b0 := eq_true c16
                    have c16b1 : decide (1 + t196.size ≤ 9223372036854775807) = true := decide_eq_true c16
                    try have c16b2 : (9223372036854775807 < 1 + t196.size) = False := eq_false (Nat.not_lt.2 c16)
                    by_cases c17 : ((rdOf ByteArray.empty tab_script_heads a0_0) ++ ((⟨#[32]⟩ : ByteArray) ++ t195)).size + ((⟨#[32]⟩ : ByteArray) ++ t196).size ≤ 9223372036854775807
                    · rw [if_pos c17] at H
                      have c17b0 := eq_true c17
                      have c17b1 : decide (((rdOf ByteArray.empty tab_script_heads a0_0) ++ ((⟨#[32]⟩ : ByteArray) ++ t195)).size + ((⟨#[32]⟩ : ByteArray) ++ t196).size ≤ 9223372036854775807) = true := decide_eq_true c17
                      try have c17b1s : decide (((rdOf ByteArray.empty tab_script_heads a0_0).size + (1 + t195.size)) + (1 + t196.size) ≤ 9223372036854775807) = true := (by have h_ := c17b1; simp only [ByteArray.size_append] at h_; exact h_)
                      try have c17b2 : (9223372036854775807 < ((rdOf ByteArray.empty tab_script_heads a0_0) ++ ((⟨#[32]⟩ : ByteArray) ++ t195)).size + ((⟨#[32]⟩ : ByteArray) ++ t196).size) = False := eq_false (Nat.not_lt.2 c17)
                      try have c17b2s : (9223372036854775807 < ((rdOf ByteArray.empty tab_script_heads a0_0).size + (1 + t195.size)) + (1 + t196.size)) = False := (by have h_ := c17b2; simp only [ByteArray.size_append] at h_; exact h_)
                      by_cases c18 : (((rdOf ByteArray.empty tab_script_heads a0_0) ++ ((⟨#[32]⟩ : ByteArray) ++ t195)) ++ ((⟨#[32]⟩ : ByteArray) ++ t196)).size + 1 ≤ 9223372036854775807
                      · rw [if_pos c18] at H
                        have c18b0 := eq_true c18
                        have c18b1 : decide ((((rdOf ByteArray.empty tab_script_heads a0_0) ++ ((⟨#[32]⟩ : ByteArray) ++ t195)) ++ ((⟨#[32]⟩ : ByteArray) ++ t196)).size + 1 ≤ 9223372036854775807) = true := decide_eq_true c18
                        try have c18b1s : decide ((((rdOf ByteArray.empty tab_script_heads a0_0).size + (1 + t195.size)) + (1 + t196.size)) + 1 ≤ 9223372036854775807) = true := (by have h_ := c18b1; simp only [ByteArray.size_append] at h_; exact h_)
                        try have c18b2 : (9223372036854775807 < (((rdOf ByteArray.empty tab_script_heads a0_0) ++ ((⟨#[32]⟩ : ByteArray) ++ t195)) ++ ((⟨#[32]⟩ : ByteArray) ++ t196)).size + 1) = False := eq_false (Nat.not_lt.2 c18)
                        try have c18b2s : (9223372036854775807 < (((rdOf ByteArray.empty tab_script_heads a0_0).size + (1 + t195.size)) + (1 + t196.size)) + 1) = False := (by have h_ := c18b2; simp only [ByteArray.size_append] at h_; exact h_)
                        obtain rfl := Option.some.inj H
                        have hcz19_0 : wc.cell? ⟨gb193, 0, none⟩ = some (.int .i64 a0_0) := (blk_cell BK193.out 0).trans rfl
                        have hcz19_1 : wc.cell? ⟨gb193, 1, none⟩ = some (.int .i64 a0_1) := (blk_cell BK193.out 1).trans rfl
                        have hcz19_2 : wc.cell? ⟨gb193, 2, none⟩ = some (.int .i64 a0_2) := (blk_cell BK193.out 2).trans rfl
                        have hcz19_3 : wc.cell? ⟨gb193, 3, none⟩ = some (.int .i64 a0_3) := (blk_cell BK193.out 3).trans rfl
                        have hcz19_4 : wc.cell? ⟨gb193, 4, none⟩ = some (.string a0_4) := (blk_cell BK193.out 4).trans rfl
                        have hfz19_0 := blk_frozen BK193.out 0
                        have hfz19_1 := blk_frozen BK193.out 1
                        have hfz19_2 := blk_frozen BK193.out 2
                        have hfz19_3 := blk_frozen BK193.out 3
                        have hfz19_4 := blk_frozen BK193.out 4
                        go_wp2_with (first | ((with_reducible refine gate_callee (f := 43) rfl ?_); refine goesL_ (some 21) rfl rfl Tryd.func43 (by kernel_rfl) rfl #[.int .i64 a0_1] rfl (by (try simp only [List.map_toArray, List.map_cons, List.map_nil]); first | done | rfl | (simp only [List.length_drop, List.length_take]; rfl)) ?_; (with_reducible refine (digit_Text.calls kj3 a0_1 t195 _ ?side1 A11.out).mono ?_); (case side1 => repeat (first | exact (Kd.C_below HRG2.out HB.out) | (with_reducible refine Kd.C_alloc ?_ _) | (with_reducible refine Kd.C_drewN ?_ _) | (with_reducible refine Kd.C_drew ?_))); rintro e w20 ⟨rfl, hb⟩; refine ⟨_, rfl, ?_⟩; have n0_ := Aside0.mk (blk_below (g := gb193) (o := .cells #[.int .i64 a0_0, .int .i64 a0_1, .int .i64 a0_2, .int .i64 a0_3, .string a0_4] 51 (0, 0)) (by (with_reducible repeat (first | refine blk_drewN ?_ _ | refine blk_drew ?_ | refine blk_alloc ?_ _)); exact BK193.out) hb); have n1_ := Aside0.mk (below_step (by repeat (first | (with_reducible first | exact HB.out | apply below_alloc | apply pw_below_drewN | apply below_drew1 | refine below_set ?_ GE193.out) | exact HB.out)) hb); clear BK193; clear HB; have BK193 := n0_; have HB := n1_; clear n0_ n1_; (try clear hb); (try clear hb2); (try clear hk); (try clear hi); have hcz21_0 : w20.cell? ⟨gb193, 0, none⟩ = some (.int .i64 a0_0) := (blk_cell BK193.out 0).trans rfl; have hcz21_1 : w20.cell? ⟨gb193, 1, none⟩ = some (.int .i64 a0_1) := (blk_cell BK193.out 1).trans rfl; have hcz21_2 : w20.cell? ⟨gb193, 2, none⟩ = some (.int .i64 a0_2) := (blk_cell BK193.out 2).trans rfl; have hcz21_3 : w20.cell? ⟨gb193, 3, none⟩ = some (.int .i64 a0_3) := (blk_cell BK193.out 3).trans rfl; have hcz21_4 : w20.cell? ⟨gb193, 4, none⟩ = some (.string a0_4) := (blk_cell BK193.out 4).trans rfl; have hfz21_0 := blk_frozen BK193.out 0; have hfz21_1 := blk_frozen BK193.out 1; have hfz21_2 := blk_frozen BK193.out 2; have hfz21_3 := blk_frozen BK193.out 3; have hfz21_4 := blk_frozen BK193.out 4) | ((with_reducible refine gate_callee (f := 20) rfl ?_); refine goesL_ (some 27) rfl rfl Tryd.func20 (by kernel_rfl) rfl #[.agg #[.int .i64 a0_2, .int .i64 a0_3, .string a0_4]] rfl (by (try simp only [List.map_toArray, List.map_cons, List.map_nil]); first | done | rfl | (simp only [List.length_drop, List.length_take]; rfl)) ?_; (with_reducible refine (script_OpText.calls kj3 a0_2 a0_3 a0_4 t196 true _ ?side1 ?side2 A14.out).mono ?_); (case side1 => repeat (first | exact (Kd.C_below HRG0.out HB.out) | (with_reducible refine Kd.C_alloc ?_ _) | (with_reducible refine Kd.C_drewN ?_ _) | (with_reducible refine Kd.C_drew ?_))); (case side2 => repeat (first | exact (Kd.C_below HRG2.out HB.out) | (with_reducible refine Kd.C_alloc ?_ _) | (with_reducible refine Kd.C_drewN ?_ _) | (with_reducible refine Kd.C_drew ?_))); rintro e w22 ⟨rfl, hb⟩; refine ⟨_, rfl, ?_⟩; have n0_ := Aside0.mk (blk_below (g := gb193) (o := .cells #[.int .i64 a0_0, .int .i64 a0_1, .int .i64 a0_2, .int .i64 a0_3, .string a0_4] 51 (0, 0)) (by (with_reducible repeat (first | refine blk_drewN ?_ _ | refine blk_drew ?_ | refine blk_alloc ?_ _)); exact BK193.out) hb); have n1_ := Aside0.mk (below_step (by repeat (first | (with_reducible first | exact HB.out | apply below_alloc | apply pw_below_drewN | apply below_drew1 | refine below_set ?_ GE193.out) | exact HB.out)) hb); clear BK193; clear HB; have BK193 := n0_; have HB := n1_; clear n0_ n1_; (try clear hb); (try clear hb2); (try clear hk); (try clear hi)))
                        go_ret
                        exact ⟨by first | rfl | (simp [errW_none, errW_some] <;> rfl) | (simp [*, errW_none, errW_some] <;> rfl), by repeat (first | (with_reducible first | exact HB.out | apply below_alloc | apply pw_below_drewN | apply below_drew1 | refine below_set ?_ GE193.out) | exact HB.out)⟩
                      · rw [if_neg c18] at H
                        exact absurd H (by simp)
                    · rw [if_neg c17] at H
                      exact absurd H (by simp)
                  · rw [if_neg c16] at H
                    exact absurd H (by simp)
                · replace c15 := Bool.eq_false_iff.mpr c15
                  subst c15
                  have H1 : (if ((rdOf ByteArray.empty tab_script_heads a0_0) ++ ((⟨#[32]⟩ : ByteArray) ++ t195)).size + 1 ≤ 9223372036854775807 then (some (((rdOf ByteArray.empty tab_script_heads a0_0) ++ ((⟨#[32]⟩ : ByteArray) ++ t195)) ++ (⟨#[10]⟩ : ByteArray))) else (none)) = some r := by rw [if_neg (show ¬ (false = true) by decide)] at H; exact H
                  clear H
                  have H := H1
                  clear H1
                  by_cases c23 : ((rdOf ByteArray.empty tab_script_heads a0_0) ++ ((⟨#[32]⟩ : ByteArray) ++ t195)).size + 1 ≤ 9223372036854775807
                  · rw [if_pos c23] at H
                    have c23b0 := eq_true c23
                    have c23b1 : decide (((rdOf ByteArray.empty tab_script_heads a0_0) ++ ((⟨#[32]⟩ : ByteArray) ++ t195)).size + 1 ≤ 9223372036854775807) = true := decide_eq_true c23
                    try have c23b1s : decide (((rdOf ByteArray.empty tab_script_heads a0_0).size + (1 + t195.size)) + 1 ≤ 9223372036854775807) = true := (by have h_ := c23b1; simp only [ByteArray.size_append] at h_; exact h_)
                    try have c23b2 : (9223372036854775807 < ((rdOf ByteArray.empty tab_script_heads a0_0) ++ ((⟨#[32]⟩ : ByteArray) ++ t195)).size + 1) = False := eq_false (Nat.not_lt.2 c23)
                    try have c23b2s : (9223372036854775807 < ((rdOf ByteArray.empty tab_script_heads a0_0).size + (1 + t195.size)) + 1) = False := (by have h_ := c23b2; simp only [ByteArray.size_append] at h_; exact h_)
                    obtain rfl := Option.some.inj H
                    have hcz24_0 : wc.cell? ⟨gb193, 0, none⟩ = some (.int .i64 a0_0) := (blk_cell BK193.out 0).trans rfl
                    have hcz24_1 : wc.cell? ⟨gb193, 1, none⟩ = some (.int .i64 a0_1) := (blk_cell BK193.out 1).trans rfl
                    have hcz24_2 : wc.cell? ⟨gb193, 2, none⟩ = some (.int .i64 a0_2) := (blk_cell BK193.out 2).trans rfl
                    have hcz24_3 : wc.cell? ⟨gb193, 3, none⟩ = some (.int .i64 a0_3) := (blk_cell BK193.out 3).trans rfl
                    have hcz24_4 : wc.cell? ⟨gb193, 4, none⟩ = some (.string a0_4) := (blk_cell BK193.out 4).trans rfl
                    have hfz24_0 := blk_frozen BK193.out 0
                    have hfz24_1 := blk_frozen BK193.out 1
                    have hfz24_2 := blk_frozen BK193.out 2
                    have hfz24_3 := blk_frozen BK193.out 3
                    have hfz24_4 := blk_frozen BK193.out 4
                    go_wp2_with (first | ((with_reducible refine gate_callee (f := 43) rfl ?_); refine goesL_ (some 21) rfl rfl Tryd.func43 (by kernel_rfl) rfl #[.int .i64 a0_1] rfl (by (try simp only [List.map_toArray, List.map_cons, List.map_nil]); first | done | rfl | (simp only [List.length_drop, List.length_take]; rfl)) ?_; (with_reducible refine (digit_Text.calls kj3 a0_1 t195 _ ?side1 A11.out).mono ?_); (case side1 => repeat (first | exact (Kd.C_below HRG2.out HB.out) | (with_reducible refine Kd.C_alloc ?_ _) | (with_reducible refine Kd.C_drewN ?_ _) | (with_reducible refine Kd.C_drew ?_))); rintro e w25 ⟨rfl, hb⟩; refine ⟨_, rfl, ?_⟩; have n0_ := Aside0.mk (blk_below (g := gb193) (o := .cells #[.int .i64 a0_0, .int .i64 a0_1, .int .i64 a0_2, .int .i64 a0_3, .string a0_4] 51 (0, 0)) (by (with_reducible repeat (first | refine blk_drewN ?_ _ | refine blk_drew ?_ | refine blk_alloc ?_ _)); exact BK193.out) hb); have n1_ := Aside0.mk (below_step (by repeat (first | (with_reducible first | exact HB.out | apply below_alloc | apply pw_below_drewN | apply below_drew1 | refine below_set ?_ GE193.out) | exact HB.out)) hb); clear BK193; clear HB; have BK193 := n0_; have HB := n1_; clear n0_ n1_; (try clear hb); (try clear hb2); (try clear hk); (try clear hi); have hcz26_0 : w25.cell? ⟨gb193, 0, none⟩ = some (.int .i64 a0_0) := (blk_cell BK193.out 0).trans rfl; have hcz26_1 : w25.cell? ⟨gb193, 1, none⟩ = some (.int .i64 a0_1) := (blk_cell BK193.out 1).trans rfl; have hcz26_2 : w25.cell? ⟨gb193, 2, none⟩ = some (.int .i64 a0_2) := (blk_cell BK193.out 2).trans rfl; have hcz26_3 : w25.cell? ⟨gb193, 3, none⟩ = some (.int .i64 a0_3) := (blk_cell BK193.out 3).trans rfl; have hcz26_4 : w25.cell? ⟨gb193, 4, none⟩ = some (.string a0_4) := (blk_cell BK193.out 4).trans rfl; have hfz26_0 := blk_frozen BK193.out 0; have hfz26_1 := blk_frozen BK193.out 1; have hfz26_2 := blk_frozen BK193.out 2; have hfz26_3 := blk_frozen BK193.out 3; have hfz26_4 := blk_frozen BK193.out 4) | ((with_reducible refine gate_callee (f := 20) rfl ?_); refine goesL_ (some 27) rfl rfl Tryd.func20 (by kernel_rfl) rfl #[.agg #[.int .i64 a0_2, .int .i64 a0_3, .string a0_4]] rfl (by (try simp only [List.map_toArray, List.map_cons, List.map_nil]); first | done | rfl | (simp only [List.length_drop, List.length_take]; rfl)) ?_; (with_reducible refine (script_OpText.calls kj3 a0_2 a0_3 a0_4 t196 false _ ?side1 ?side2 A14.out).mono ?_); (case side1 => repeat (first | exact (Kd.C_below HRG0.out HB.out) | (with_reducible refine Kd.C_alloc ?_ _) | (with_reducible refine Kd.C_drewN ?_ _) | (with_reducible refine Kd.C_drew ?_))); (case side2 => repeat (first | exact (Kd.C_below HRG2.out HB.out) | (with_reducible refine Kd.C_alloc ?_ _) | (with_reducible refine Kd.C_drewN ?_ _) | (with_reducible refine Kd.C_drew ?_))); rintro e w27 ⟨rfl, hb⟩; refine ⟨_, rfl, ?_⟩; have n0_ := Aside0.mk (blk_below (g := gb193) (o := .cells #[.int .i64 a0_0, .int .i64 a0_1, .int .i64 a0_2, .int .i64 a0_3, .string a0_4] 51 (0, 0)) (by (with_reducible repeat (first | refine blk_drewN ?_ _ | refine blk_drew ?_ | refine blk_alloc ?_ _)); exact BK193.out) hb); have n1_ := Aside0.mk (below_step (by repeat (first | (with_reducible first | exact HB.out | apply below_alloc | apply pw_below_drewN | apply below_drew1 | refine below_set ?_ GE193.out) | exact HB.out)) hb); clear BK193; clear HB; have BK193 := n0_; have HB := n1_; clear n0_ n1_; (try clear hb); (try clear hb2); (try clear hk); (try clear hi)))
                    go_ret
                    exact ⟨by first | rfl | (simp [errW_none, errW_some] <;> rfl) | (simp [*, errW_none, errW_some] <;> rfl), by repeat (first | (with_reducible first | exact HB.out | apply below_alloc | apply pw_below_drewN | apply below_drew1 | refine below_set ?_ GE193.out) | exact HB.out)⟩
                  · rw [if_neg c23] at H
                    exact absurd H (by simp)
              · rw [if_neg c13] at H
                exact absurd H (by simp)
            · rw [if_neg c12] at H
              exact absurd H (by simp)
          · replace c10 := Bool.eq_false_iff.mpr c10
            subst c10
            have H1 : ((script_OpText.f kj3 a0_2 a0_3 a0_4).bind fun bt198 => (if bt198.2 = true then (if 1 + bt198.1.size ≤ 9223372036854775807 then (if (rdOf ByteArray.empty tab_script_heads a0_0).size + ((⟨#[32]⟩ : ByteArray) ++ bt198.1).size ≤ 9223372036854775807 then (if ((rdOf ByteArray.empty tab_script_heads a0_0) ++ ((⟨#[32]⟩ : ByteArray) ++ bt198.1)).size + 1 ≤ 9223372036854775807 then (some (((rdOf ByteArray.empty tab_script_heads a0_0) ++ ((⟨#[32]⟩ : ByteArray) ++ bt198.1)) ++ (⟨#[10]⟩ : ByteArray))) else (none)) else (none)) else (none)) else (if (rdOf ByteArray.empty tab_script_heads a0_0).size + 1 ≤ 9223372036854775807 then (some ((rdOf ByteArray.empty tab_script_heads a0_0) ++ (⟨#[10]⟩ : ByteArray))) else (none)))) = some r := by rw [if_neg (show ¬ (false = true) by decide)] at H; exact H
            clear H
            have H := H1
            clear H1
            replace H := Option.bind_eq_some_iff.mp H
            obtain ⟨⟨t198, t199⟩, A280, H⟩ := H
            replace H : (if t199 = true then (if 1 + t198.size ≤ 9223372036854775807 then (if (rdOf ByteArray.empty tab_script_heads a0_0).size + ((⟨#[32]⟩ : ByteArray) ++ t198).size ≤ 9223372036854775807 then (if ((rdOf ByteArray.empty tab_script_heads a0_0) ++ ((⟨#[32]⟩ : ByteArray) ++ t198)).size + 1 ≤ 9223372036854775807 then (some (((rdOf ByteArray.empty tab_script_heads a0_0) ++ ((⟨#[32]⟩ : ByteArray) ++ t198)) ++ (⟨#[10]⟩ : ByteArray))) else (none)) else (none)) else (none)) else (if (rdOf ByteArray.empty tab_script_heads a0_0).size + 1 ≤ 9223372036854775807 then (some ((rdOf ByteArray.empty tab_script_heads a0_0) ++ (⟨#[10]⟩ : ByteArray))) else (none))) = some r := H
            have A28 := Aside0.mk A280
            clear A280
            by_cases c29 : t199 = true
            · subst c29
              have H1 : (if 1 + t198.size ≤ 9223372036854775807 then (if (rdOf ByteArray.empty tab_script_heads a0_0).size + ((⟨#[32]⟩ : ByteArray) ++ t198).size ≤ 9223372036854775807 then (if ((rdOf ByteArray.empty tab_script_heads a0_0) ++ ((⟨#[32]⟩ : ByteArray) ++ t198)).size + 1 ≤ 9223372036854775807 then (some (((rdOf ByteArray.empty tab_script_heads a0_0) ++ ((⟨#[32]⟩ : ByteArray) ++ t198)) ++ (⟨#[10]⟩ : ByteArray))) else (none)) else (none)) else (none)) = some r := by rw [if_pos rfl] at H; exact H
              clear H
              have H := H1
              clear H1
              by_cases c30 : 1 + t198.size ≤ 9223372036854775807
              · rw [if_pos c30] at H
                have c30b0 := eq_true c30
                have c30b1 : decide (1 + t198.size ≤ 9223372036854775807) = true := decide_eq_true c30
                try have c30b2 : (9223372036854775807 < 1 + t198.size) = False := eq_false (Nat.not_lt.2 c30)
                by_cases c31 : (rdOf ByteArray.empty tab_script_heads a0_0).size + ((⟨#[32]⟩ : ByteArray) ++ t198).size ≤ 9223372036854775807
                · rw [if_pos c31] at H
                  have c31b0 := eq_true c31
                  have c31b1 : decide ((rdOf ByteArray.empty tab_script_heads a0_0).size + ((⟨#[32]⟩ : ByteArray) ++ t198).size ≤ 9223372036854775807) = true := decide_eq_true c31
                  try have c31b1s : decide ((rdOf ByteArray.empty tab_script_heads a0_0).size + (1 + t198.size) ≤ 9223372036854775807) = true := (by have h_ := c31b1; simp only [ByteArray.size_append] at h_; exact h_)
                  try have c31b2 : (9223372036854775807 < (rdOf ByteArray.empty tab_script_heads a0_0).size + ((⟨#[32]⟩ : ByteArray) ++ t198).size) = False := eq_false (Nat.not_lt.2 c31)
                  try have c31b2s : (9223372036854775807 < (rdOf ByteArray.empty tab_script_heads a0_0).size + (1 + t198.size)) = False := (by have h_ := c31b2; simp only [ByteArray.size_append] at h_; exact h_)
                  by_cases c32 : ((rdOf ByteArray.empty tab_script_heads a0_0) ++ ((⟨#[32]⟩ : ByteArray) ++ t198)).size + 1 ≤ 9223372036854775807
                  · rw [if_pos c32] at H
                    have c32b0 := eq_true c32
                    have c32b1 : decide (((rdOf ByteArray.empty tab_script_heads a0_0) ++ ((⟨#[32]⟩ : ByteArray) ++ t198)).size + 1 ≤ 9223372036854775807) = true := decide_eq_true c32
                    try have c32b1s : decide (((rdOf ByteArray.empty tab_script_heads a0_0).size + (1 + t198.size)) + 1 ≤ 9223372036854775807) = true := (by have h_ := c32b1; simp only [ByteArray.size_append] at h_; exact h_)
                    try have c32b2 : (9223372036854775807 < ((rdOf ByteArray.empty tab_script_heads a0_0) ++ ((⟨#[32]⟩ : ByteArray) ++ t198)).size + 1) = False := eq_false (Nat.not_lt.2 c32)
                    try have c32b2s : (9223372036854775807 < ((rdOf ByteArray.empty tab_script_heads a0_0).size + (1 + t198.size)) + 1) = False := (by have h_ := c32b2; simp only [ByteArray.size_append] at h_; exact h_)
                    obtain rfl := Option.some.inj H
                    have hcz33_0 : wc.cell? ⟨gb193, 0, none⟩ = some (.int .i64 a0_0) := (blk_cell BK193.out 0).trans rfl
                    have hcz33_1 : wc.cell? ⟨gb193, 1, none⟩ = some (.int .i64 a0_1) := (blk_cell BK193.out 1).trans rfl
                    have hcz33_2 : wc.cell? ⟨gb193, 2, none⟩ = some (.int .i64 a0_2) := (blk_cell BK193.out 2).trans rfl
                    have hcz33_3 : wc.cell? ⟨gb193, 3, none⟩ = some (.int .i64 a0_3) := (blk_cell BK193.out 3).trans rfl
                    have hcz33_4 : wc.cell? ⟨gb193, 4, none⟩ = some (.string a0_4) := (blk_cell BK193.out 4).trans rfl
                    have hfz33_0 := blk_frozen BK193.out 0
                    have hfz33_1 := blk_frozen BK193.out 1
                    have hfz33_2 := blk_frozen BK193.out 2
                    have hfz33_3 := blk_frozen BK193.out 3
                    have hfz33_4 := blk_frozen BK193.out 4
                    go_wp2_with (first | ((with_reducible refine gate_callee (f := 20) rfl ?_); refine goesL_ (some 27) rfl rfl Tryd.func20 (by kernel_rfl) rfl #[.agg #[.int .i64 a0_2, .int .i64 a0_3, .string a0_4]] rfl (by (try simp only [List.map_toArray, List.map_cons, List.map_nil]); first | done | rfl | (simp only [List.length_drop, List.length_take]; rfl)) ?_; (with_reducible refine (script_OpText.calls kj3 a0_2 a0_3 a0_4 t198 true _ ?side1 ?side2 A28.out).mono ?_); (case side1 => repeat (first | exact (Kd.C_below HRG0.out HB.out) | (with_reducible refine Kd.C_alloc ?_ _) | (with_reducible refine Kd.C_drewN ?_ _) | (with_reducible refine Kd.C_drew ?_))); (case side2 => repeat (first | exact (Kd.C_below HRG2.out HB.out) | (with_reducible refine Kd.C_alloc ?_ _) | (with_reducible refine Kd.C_drewN ?_ _) | (with_reducible refine Kd.C_drew ?_))); rintro e w34 ⟨rfl, hb⟩; refine ⟨_, rfl, ?_⟩; have n0_ := Aside0.mk (blk_below (g := gb193) (o := .cells #[.int .i64 a0_0, .int .i64 a0_1, .int .i64 a0_2, .int .i64 a0_3, .string a0_4] 51 (0, 0)) (by (with_reducible repeat (first | refine blk_drewN ?_ _ | refine blk_drew ?_ | refine blk_alloc ?_ _)); exact BK193.out) hb); have n1_ := Aside0.mk (below_step (by repeat (first | (with_reducible first | exact HB.out | apply below_alloc | apply pw_below_drewN | apply below_drew1 | refine below_set ?_ GE193.out) | exact HB.out)) hb); clear BK193; clear HB; have BK193 := n0_; have HB := n1_; clear n0_ n1_; (try clear hb); (try clear hb2); (try clear hk); (try clear hi)))
                    go_ret
                    exact ⟨by first | rfl | (simp [errW_none, errW_some] <;> rfl) | (simp [*, errW_none, errW_some] <;> rfl), by repeat (first | (with_reducible first | exact HB.out | apply below_alloc | apply pw_below_drewN | apply below_drew1 | refine below_set ?_ GE193.out) | exact HB.out)⟩
                  · rw [if_neg c32] at H
                    exact absurd H (by simp)
                · rw [if_neg c31] at H
                  exact absurd H (by simp)
              · rw [if_neg c30] at H
                exact absurd H (by simp)
            · replace c29 := Bool.eq_false_iff.mpr c29
              subst c29
              have H1 : (if (rdOf ByteArray.empty tab_script_heads a0_0).size + 1 ≤ 9223372036854775807 then (some ((rdOf ByteArray.empty tab_script_heads a0_0) ++ (⟨#[10]⟩ : ByteArray))) else (none)) = some r := by rw [if_neg (show ¬ (false = true) by decide)] at H; exact H
              clear H
              have H := H1
              clear H1
              by_cases c35 : (rdOf ByteArray.empty tab_script_heads a0_0).size + 1 ≤ 9223372036854775807
              · rw [if_pos c35] at H
                have c35b0 := eq_true c35
                have c35b1 : decide ((rdOf ByteArray.empty tab_script_heads a0_0).size + 1 ≤ 9223372036854775807) = true := decide_eq_true c35
                try have c35b2 : (9223372036854775807 < (rdOf ByteArray.empty tab_script_heads a0_0).size + 1) = False := eq_false (Nat.not_lt.2 c35)
                obtain rfl := Option.some.inj H
                have hcz36_0 : wc.cell? ⟨gb193, 0, none⟩ = some (.int .i64 a0_0) := (blk_cell BK193.out 0).trans rfl
                have hcz36_1 : wc.cell? ⟨gb193, 1, none⟩ = some (.int .i64 a0_1) := (blk_cell BK193.out 1).trans rfl
                have hcz36_2 : wc.cell? ⟨gb193, 2, none⟩ = some (.int .i64 a0_2) := (blk_cell BK193.out 2).trans rfl
                have hcz36_3 : wc.cell? ⟨gb193, 3, none⟩ = some (.int .i64 a0_3) := (blk_cell BK193.out 3).trans rfl
                have hcz36_4 : wc.cell? ⟨gb193, 4, none⟩ = some (.string a0_4) := (blk_cell BK193.out 4).trans rfl
                have hfz36_0 := blk_frozen BK193.out 0
                have hfz36_1 := blk_frozen BK193.out 1
                have hfz36_2 := blk_frozen BK193.out 2
                have hfz36_3 := blk_frozen BK193.out 3
                have hfz36_4 := blk_frozen BK193.out 4
                go_wp2_with (first | ((with_reducible refine gate_callee (f := 20) rfl ?_); refine goesL_ (some 27) rfl rfl Tryd.func20 (by kernel_rfl) rfl #[.agg #[.int .i64 a0_2, .int .i64 a0_3, .string a0_4]] rfl (by (try simp only [List.map_toArray, List.map_cons, List.map_nil]); first | done | rfl | (simp only [List.length_drop, List.length_take]; rfl)) ?_; (with_reducible refine (script_OpText.calls kj3 a0_2 a0_3 a0_4 t198 false _ ?side1 ?side2 A28.out).mono ?_); (case side1 => repeat (first | exact (Kd.C_below HRG0.out HB.out) | (with_reducible refine Kd.C_alloc ?_ _) | (with_reducible refine Kd.C_drewN ?_ _) | (with_reducible refine Kd.C_drew ?_))); (case side2 => repeat (first | exact (Kd.C_below HRG2.out HB.out) | (with_reducible refine Kd.C_alloc ?_ _) | (with_reducible refine Kd.C_drewN ?_ _) | (with_reducible refine Kd.C_drew ?_))); rintro e w37 ⟨rfl, hb⟩; refine ⟨_, rfl, ?_⟩; have n0_ := Aside0.mk (blk_below (g := gb193) (o := .cells #[.int .i64 a0_0, .int .i64 a0_1, .int .i64 a0_2, .int .i64 a0_3, .string a0_4] 51 (0, 0)) (by (with_reducible repeat (first | refine blk_drewN ?_ _ | refine blk_drew ?_ | refine blk_alloc ?_ _)); exact BK193.out) hb); have n1_ := Aside0.mk (below_step (by repeat (first | (with_reducible first | exact HB.out | apply below_alloc | apply pw_below_drewN | apply below_drew1 | refine below_set ?_ GE193.out) | exact HB.out)) hb); clear BK193; clear HB; have BK193 := n0_; have HB := n1_; clear n0_ n1_; (try clear hb); (try clear hb2); (try clear hk); (try clear hi)))
                go_ret
                exact ⟨by first | rfl | (simp [errW_none, errW_some] <;> rfl) | (simp [*, errW_none, errW_some] <;> rfl), by repeat (first | (with_reducible first | exact HB.out | apply below_alloc | apply pw_below_drewN | apply below_drew1 | refine below_set ?_ GE193.out) | exact HB.out)⟩
              · rw [if_neg c35] at H
                exact absurd H (by simp)
    · rw [if_neg c3] at H
      exact absurd H (by simp)
  · rw [if_neg c2] at H
    exact absurd H (by simp)

/-! ### script_Print: function 13 -/
mutual
def script_Print.l0 : Nat → List (S51) → List (S51) → Int → Int → Option (ByteArray × Int)
  | 0, _, _, _, _ => none
  | k + 1, x0, x9, x10, x11 => if x11 < x10 then (if 0 ≤ x11 then (if x11 < (x9.length : Int) then ((script_Right.f k ((rd_T51 x9 x11).f0) ((rd_T51 x9 x11).f1) ((rd_T51 x9 x11).f2.f0) ((rd_T51 x9 x11).f2.f1) ((rd_T51 x9 x11).f2.f2)).bind fun t202 => (if t202 = true then (script_Print.l0 k x0 x9 x10 (wrap64 (x11 + 1))) else (some ((⟨#[]⟩ : ByteArray), 1)))) else (none)) else (none)) else (script_Print.l1 k ([] : List Int) x0 (x0.length : Int) 0)
def script_Print.l1 : Nat → List Int → List (S51) → Int → Int → Option (ByteArray × Int)
  | 0, _, _, _, _ => none
  | k + 1, x6, x19, x20, x21 => if x21 < x20 then (if 0 ≤ x21 then (if x21 < (x19.length : Int) then (if (((rd_T51 x19 x21).f2.f2).size : Int) > 65536 then (some ((⟨#[]⟩ : ByteArray), 6)) else ((script_line.f k ((rd_T51 x19 x21).f0) ((rd_T51 x19 x21).f1) ((rd_T51 x19 x21).f2.f0) ((rd_T51 x19 x21).f2.f1) ((rd_T51 x19 x21).f2.f2)).bind fun t205 => (if x6.length + t205.size < 140737488355328 then ((some (x6 ++ bytesOf t205 : List Int)).bind fun y206 => (if (y206.length : Int) > 65536 then (some ((⟨#[]⟩ : ByteArray), 6)) else (script_Print.l1 k y206 x19 x20 (wrap64 (x21 + 1))))) else (none)))) else (none)) else (none)) else (some (strOfNums x6, 0))
end
def script_Print.f (k : Nat) (l0 : List (S51)) : Option (ByteArray × Int) := script_Print.l0 k l0 l0 (l0.length : Int) 0
theorem script_Print.mono_l : ∀ k, (∀ y0 y1 y2 y3, LeO (script_Print.l0 k y0 y1 y2 y3) (script_Print.l0 (k + 1) y0 y1 y2 y3)) ∧ (∀ y0 y1 y2 y3, LeO (script_Print.l1 k y0 y1 y2 y3) (script_Print.l1 (k + 1) y0 y1 y2 y3))
  | 0 => ⟨fun _ _ _ _ r h => by simp [script_Print.l0] at h, fun _ _ _ _ r h => by simp [script_Print.l1] at h⟩
  | k + 1 => by
    obtain ⟨ih0, ih1⟩ := script_Print.mono_l k
    refine ⟨?_, ?_⟩
    · intro y0 y1 y2 y3
      unfold script_Print.l0
      repeat' first
      | (with_reducible exact ih0 _ _ _ _)
      | (with_reducible exact ih1 _ _ _ _)
      | (with_reducible exact script_Right.mono _ _ _ _ _ _)
      | (with_reducible exact script_line.mono _ _ _ _ _ _)
      | (with_reducible exact LeO.refl _)
      | (with_reducible exact LeO.none _)
      | (with_reducible refine LeO.ite ?_ ?_)
      | (with_reducible refine LeO.bind ?_ (fun _ => ?_))
      | exact ih0 _ _ _ _
      | exact ih1 _ _ _ _
      | exact script_Right.mono _ _ _ _ _ _
      | exact script_line.mono _ _ _ _ _ _
      | exact LeO.none _
      | refine LeO.ite ?_ ?_
      | refine LeO.bind ?_ (fun _ => ?_)
    · intro y0 y1 y2 y3
      unfold script_Print.l1
      repeat' first
      | (with_reducible exact ih0 _ _ _ _)
      | (with_reducible exact ih1 _ _ _ _)
      | (with_reducible exact script_Right.mono _ _ _ _ _ _)
      | (with_reducible exact script_line.mono _ _ _ _ _ _)
      | (with_reducible exact LeO.refl _)
      | (with_reducible exact LeO.none _)
      | (with_reducible refine LeO.ite ?_ ?_)
      | (with_reducible refine LeO.bind ?_ (fun _ => ?_))
      | exact ih0 _ _ _ _
      | exact ih1 _ _ _ _
      | exact script_Right.mono _ _ _ _ _ _
      | exact script_line.mono _ _ _ _ _ _
      | exact LeO.none _
      | refine LeO.ite ?_ ?_
      | refine LeO.bind ?_ (fun _ => ?_)
theorem script_Print.mono : ∀ a0 k, LeO (script_Print.f k a0) (script_Print.f (k + 1) a0) := by
  intro a0 k
  obtain ⟨ih0, ih1⟩ := script_Print.mono_l k
  unfold script_Print.f
  repeat' first
      | (with_reducible exact ih0 _ _ _ _)
      | (with_reducible exact ih1 _ _ _ _)
      | (with_reducible exact script_Right.mono _ _ _ _ _ _)
      | (with_reducible exact script_line.mono _ _ _ _ _ _)
      | (with_reducible exact LeO.refl _)
      | (with_reducible exact LeO.none _)
      | (with_reducible refine LeO.ite ?_ ?_)
      | (with_reducible refine LeO.bind ?_ (fun _ => ?_))
      | exact ih0 _ _ _ _
      | exact ih1 _ _ _ _
      | exact script_Right.mono _ _ _ _ _ _
      | exact script_line.mono _ _ _ _ _ _
      | exact LeO.none _
      | refine LeO.ite ?_ ?_
      | refine LeO.bind ?_ (fun _ => ?_)
set_option maxHeartbeats 8000000 in
set_option maxRecDepth 100000 in
theorem script_Print.calls (k : Nat) (A0 : Option Addr) (c0 : Nat) (l0 : List (S51)) (r1 : ByteArray) (r2 : Int) (w : World) (hr0 : Kd.C k51 w A0 l0.length l0) (hc0 : l0.length ≤ c0) (hrG0 : Kd.C Kd.string w (some ⟨0, 0, none⟩) tab_script_names.length tab_script_names) (hrG1 : Kd.C Kd.string w (some ⟨1, 0, none⟩) tab_script_heads.length tab_script_heads) (hrG2 : Kd.C (Kd.int .u8) w (some ⟨2, 0, none⟩) tab_digit_signs.length tab_digit_signs) (h : script_Print.f k l0 = some (r1, r2)) :
    Calls Tryd.prog 13 #[.slice A0 l0.length c0] w fun e w' => e = .returned (.tuple #[.string r1, .int .i64 r2]) ∧ Below w.heap.size w w' := by
  have hu51 := Tryd.underlying51
  have HR0 := Aside0.mk hr0
  have HC0 := Aside0.mk hc0
  clear hr0 hc0
  have HRG0 := Aside0.mk hrG0
  clear hrG0
  have HRG1 := Aside0.mk hrG1
  clear hrG1
  have HRG2 := Aside0.mk hrG2
  clear hrG2
  have HB := Aside0.mk (Below.refl w.heap.size w)
  have H : (script_Print.l0 k l0 l0 (l0.length : Int) 0) = some (r1, r2) := h
  clear h
  have H' := Aside0.mk H
  clear H
  go_enter Tryd.func13, Tryd.ntmps13
  go_wp2
  go_loopg [11] k (fun kq v11 w' => ∃ (x11_1 : Int), v11 = .int .i64 x11_1 ∧ Aside0 (script_Print.l0 kq l0 l0 (l0.length : Int) x11_1 = some (r1, r2)) ∧ Aside0 (kq ≤ k) ∧ Aside0 (Below w.heap.size w w'))
  case atStart => exact ⟨(0), (by first | rfl | (simp; done) | (simp [*]; done)), H', ⟨Nat.le_refl _⟩, ⟨by repeat (first | (with_reducible first | exact HB.out | apply below_alloc | apply pw_below_drewN | apply below_drew1) | exact HB.out)⟩⟩
  case round =>
    clear H'
    try clear c1
    obtain ⟨x11_1, rfl, HA, HK1, HB⟩ := hrel
    cases gk with
    | zero => exact absurd HA.out (by simp [script_Print.l0])
    | succ k1 =>
      have H := HA.out
      clear HA
      simp only [script_Print.l0] at H
      by_cases c2 : x11_1 < (l0.length : Int)
      · rw [if_pos c2] at H
        have c2b0 : decide (x11_1 < (l0.length : Int)) = true := decide_eq_true c2
        clear c2
        by_cases c3 : 0 ≤ x11_1
        · rw [if_pos c3] at H
          have c3b0 : decide (0 ≤ x11_1) = true := decide_eq_true c3
          clear c3
          by_cases c4 : x11_1 < (l0.length : Int)
          · rw [if_pos c4] at H
            have c4b0 : decide (x11_1 < (l0.length : Int)) = true := decide_eq_true c4
            clear c4
            replace H := Option.bind_eq_some_iff.mp H
            obtain ⟨t202, A50, H⟩ := H
            replace H : (if t202 = true then (script_Print.l0 k1 l0 l0 (l0.length : Int) (wrap64 (x11_1 + 1))) else (some ((⟨#[]⟩ : ByteArray), 1))) = some (r1, r2) := H
            have A5 := Aside0.mk A50
            clear A50
            by_cases c6 : t202 = true
            · subst c6
              have H1 : (script_Print.l0 k1 l0 l0 (l0.length : Int) (wrap64 (x11_1 + 1))) = some (r1, r2) := by rw [if_pos rfl] at H; exact H
              clear H
              have H := H1
              clear H1
              have H' := Aside0.mk H
              clear H
              have p200 : 0 ≤ (x11_1 : Int) := of_decide_eq_true (by first | (with_reducible assumption) | assumption)
              have q200 : x11_1 < (l0.length : Int) := of_decide_eq_true (by first | (with_reducible assumption) | assumption)
              obtain ⟨ad200, e200, hx200_0, hx200_1, hx200_2, hx200_3, hx200_4⟩ := at_T51 HR0.out x11_1 p200 q200
              cases e200
              replace hx200_0 := (HB.out.cell (World.block_lt_of_cell? w _ hx200_0)).trans hx200_0
              replace hx200_1 := (HB.out.cell (World.block_lt_of_cell? w _ hx200_1)).trans hx200_1
              replace hx200_2 := (HB.out.cell (World.block_lt_of_cell? w _ hx200_2)).trans hx200_2
              replace hx200_3 := (HB.out.cell (World.block_lt_of_cell? w _ hx200_3)).trans hx200_3
              replace hx200_4 := (HB.out.cell (World.block_lt_of_cell? w _ hx200_4)).trans hx200_4
              replace p200 := eq_true p200
              replace q200 := eq_true q200
              go_wp2_with (first | ((with_reducible refine gate_dst (N := 5) rfl ?_); refine box_event ?hg (N := 5) ?hd (cs := #[.int .i64 0, .int .i64 0, .int .i64 0, .int .i64 0, .string (⟨#[]⟩ : ByteArray)]) (t := 51) ?hr ?_; (case hd => rfl); (case hg => rfl); (case hr => first | (go_simp; done) | (go_simp; rfl)); intro gb201 hg w7 hbox hb; have n0_ := Aside0.mk (below_step (by repeat (first | (with_reducible first | exact HB.out | apply below_alloc | apply pw_below_drewN | apply below_drew1) | exact HB.out)) hb); have n1_ := Aside0.mk (hbox); have n2_ := Aside0.mk ((by rw [hg]; exact (below_size (by repeat (first | (with_reducible first | exact HB.out | apply below_alloc | apply pw_below_drewN | apply below_drew1) | exact HB.out))) : w.heap.size ≤ gb201)); have n3_ := Aside0.mk ((by rw [hg]; exact (below_size (by repeat (first | (with_reducible first | exact HB.out | apply below_alloc | apply pw_below_drewN | apply below_drew1) | exact HB.out))) : w.heap.size ≤ gb201)); clear HB; have HB := n0_; have BK201 := n1_; have GW201 := n2_; have GE201 := n3_; clear n0_ n1_ n2_ n3_; clear hb hbox hg; have hcz8_0 : w7.cell? ⟨gb201, 0, none⟩ = some (.int .i64 0) := (blk_cell BK201.out 0).trans rfl; have hcz8_1 : w7.cell? ⟨gb201, 1, none⟩ = some (.int .i64 0) := (blk_cell BK201.out 1).trans rfl; have hcz8_2 : w7.cell? ⟨gb201, 2, none⟩ = some (.int .i64 0) := (blk_cell BK201.out 2).trans rfl; have hcz8_3 : w7.cell? ⟨gb201, 3, none⟩ = some (.int .i64 0) := (blk_cell BK201.out 3).trans rfl; have hcz8_4 : w7.cell? ⟨gb201, 4, none⟩ = some (.string (⟨#[]⟩ : ByteArray)) := (blk_cell BK201.out 4).trans rfl; have hfz8_0 := blk_frozen BK201.out 0; have hfz8_1 := blk_frozen BK201.out 1; have hfz8_2 := blk_frozen BK201.out 2; have hfz8_3 := blk_frozen BK201.out 3; have hfz8_4 := blk_frozen BK201.out 4) | ((with_reducible refine gate_callee (f := 24) rfl ?_); refine goesL_ (some 16) rfl rfl Tryd.func24 (by kernel_rfl) rfl #[.agg #[.int .i64 ((rd_T51 l0 x11_1).f0), .int .i64 ((rd_T51 l0 x11_1).f1), .int .i64 ((rd_T51 l0 x11_1).f2.f0), .int .i64 ((rd_T51 l0 x11_1).f2.f1), .string ((rd_T51 l0 x11_1).f2.f2)]] rfl (by (try simp only [List.map_toArray, List.map_cons, List.map_nil]); first | done | rfl | (simp only [List.length_drop, List.length_take]; rfl)) ?_; (with_reducible refine (script_Right.calls k1 ((rd_T51 l0 x11_1).f0) ((rd_T51 l0 x11_1).f1) ((rd_T51 l0 x11_1).f2.f0) ((rd_T51 l0 x11_1).f2.f1) ((rd_T51 l0 x11_1).f2.f2) true _ A5.out).mono ?_); rintro e w9 ⟨rfl, hb⟩; refine ⟨_, rfl, ?_⟩; have n0_ := Aside0.mk (blk_below (g := gb201) (o := .cells #[.int .i64 ((rd_T51 l0 x11_1).f0), .int .i64 ((rd_T51 l0 x11_1).f1), .int .i64 ((rd_T51 l0 x11_1).f2.f0), .int .i64 ((rd_T51 l0 x11_1).f2.f1), .string ((rd_T51 l0 x11_1).f2.f2)] 51 (0, 0)) (by (with_reducible repeat (first | refine blk_drewN ?_ _ | refine blk_drew ?_ | refine blk_alloc ?_ _)); refine blk_put (cs := #[.int .i64 ((rd_T51 l0 x11_1).f0), .int .i64 ((rd_T51 l0 x11_1).f1), .int .i64 ((rd_T51 l0 x11_1).f2.f0), .int .i64 ((rd_T51 l0 x11_1).f2.f1), .string (⟨#[]⟩ : ByteArray)]) ?_ 4 _ rfl; (with_reducible repeat (first | refine blk_drewN ?_ _ | refine blk_drew ?_ | refine blk_alloc ?_ _)); refine blk_put (cs := #[.int .i64 ((rd_T51 l0 x11_1).f0), .int .i64 ((rd_T51 l0 x11_1).f1), .int .i64 ((rd_T51 l0 x11_1).f2.f0), .int .i64 0, .string (⟨#[]⟩ : ByteArray)]) ?_ 3 _ rfl; (with_reducible repeat (first | refine blk_drewN ?_ _ | refine blk_drew ?_ | refine blk_alloc ?_ _)); refine blk_put (cs := #[.int .i64 ((rd_T51 l0 x11_1).f0), .int .i64 ((rd_T51 l0 x11_1).f1), .int .i64 0, .int .i64 0, .string (⟨#[]⟩ : ByteArray)]) ?_ 2 _ rfl; (with_reducible repeat (first | refine blk_drewN ?_ _ | refine blk_drew ?_ | refine blk_alloc ?_ _)); refine blk_put (cs := #[.int .i64 ((rd_T51 l0 x11_1).f0), .int .i64 0, .int .i64 0, .int .i64 0, .string (⟨#[]⟩ : ByteArray)]) ?_ 1 _ rfl; (with_reducible repeat (first | refine blk_drewN ?_ _ | refine blk_drew ?_ | refine blk_alloc ?_ _)); refine blk_put (cs := #[.int .i64 0, .int .i64 0, .int .i64 0, .int .i64 0, .string (⟨#[]⟩ : ByteArray)]) ?_ 0 _ rfl; (with_reducible repeat (first | refine blk_drewN ?_ _ | refine blk_drew ?_ | refine blk_alloc ?_ _)); exact BK201.out) hb); have n1_ := Aside0.mk (below_step (by repeat (first | (with_reducible first | exact HB.out | apply below_alloc | apply pw_below_drewN | apply below_drew1 | refine below_set ?_ GE201.out) | exact HB.out)) hb); clear BK201; clear HB; have BK201 := n0_; have HB := n1_; clear n0_ n1_; (try clear hb); (try clear hb2); (try clear hk); (try clear hi)))
              go_roundg k1
              case measure => have := HK1.out; omega
              case rel => exact ⟨(wrap64 (x11_1 + 1)), (by first | rfl | (simp; done) | (simp [*]; done)), H', ⟨by have := HK1.out; omega⟩, ⟨by repeat (first | (with_reducible first | exact HB.out | apply below_alloc | apply pw_below_drewN | apply below_drew1 | refine below_set ?_ GE201.out) | exact HB.out)⟩⟩
            · replace c6 := Bool.eq_false_iff.mpr c6
              subst c6
              have H1 : (some ((⟨#[]⟩ : ByteArray), 1)) = some (r1, r2) := by rw [if_neg (show ¬ (false = true) by decide)] at H; exact H
              clear H
              have H := H1
              clear H1
              simp only [Option.some.injEq, Prod.mk.injEq] at H
              obtain ⟨rfl, rfl⟩ := H
              have p200 : 0 ≤ (x11_1 : Int) := of_decide_eq_true (by first | (with_reducible assumption) | assumption)
              have q200 : x11_1 < (l0.length : Int) := of_decide_eq_true (by first | (with_reducible assumption) | assumption)
              obtain ⟨ad200, e200, hx200_0, hx200_1, hx200_2, hx200_3, hx200_4⟩ := at_T51 HR0.out x11_1 p200 q200
              cases e200
              replace hx200_0 := (HB.out.cell (World.block_lt_of_cell? w _ hx200_0)).trans hx200_0
              replace hx200_1 := (HB.out.cell (World.block_lt_of_cell? w _ hx200_1)).trans hx200_1
              replace hx200_2 := (HB.out.cell (World.block_lt_of_cell? w _ hx200_2)).trans hx200_2
              replace hx200_3 := (HB.out.cell (World.block_lt_of_cell? w _ hx200_3)).trans hx200_3
              replace hx200_4 := (HB.out.cell (World.block_lt_of_cell? w _ hx200_4)).trans hx200_4
              replace p200 := eq_true p200
              replace q200 := eq_true q200
              go_wp2_with (first | ((with_reducible refine gate_dst (N := 5) rfl ?_); refine box_event ?hg (N := 5) ?hd (cs := #[.int .i64 0, .int .i64 0, .int .i64 0, .int .i64 0, .string (⟨#[]⟩ : ByteArray)]) (t := 51) ?hr ?_; (case hd => rfl); (case hg => rfl); (case hr => first | (go_simp; done) | (go_simp; rfl)); intro gb201 hg w10 hbox hb; have n0_ := Aside0.mk (below_step (by repeat (first | (with_reducible first | exact HB.out | apply below_alloc | apply pw_below_drewN | apply below_drew1) | exact HB.out)) hb); have n1_ := Aside0.mk (hbox); have n2_ := Aside0.mk ((by rw [hg]; exact (below_size (by repeat (first | (with_reducible first | exact HB.out | apply below_alloc | apply pw_below_drewN | apply below_drew1) | exact HB.out))) : w.heap.size ≤ gb201)); have n3_ := Aside0.mk ((by rw [hg]; exact (below_size (by repeat (first | (with_reducible first | exact HB.out | apply below_alloc | apply pw_below_drewN | apply below_drew1) | exact HB.out))) : w.heap.size ≤ gb201)); clear HB; have HB := n0_; have BK201 := n1_; have GW201 := n2_; have GE201 := n3_; clear n0_ n1_ n2_ n3_; clear hb hbox hg; have hcz11_0 : w10.cell? ⟨gb201, 0, none⟩ = some (.int .i64 0) := (blk_cell BK201.out 0).trans rfl; have hcz11_1 : w10.cell? ⟨gb201, 1, none⟩ = some (.int .i64 0) := (blk_cell BK201.out 1).trans rfl; have hcz11_2 : w10.cell? ⟨gb201, 2, none⟩ = some (.int .i64 0) := (blk_cell BK201.out 2).trans rfl; have hcz11_3 : w10.cell? ⟨gb201, 3, none⟩ = some (.int .i64 0) := (blk_cell BK201.out 3).trans rfl; have hcz11_4 : w10.cell? ⟨gb201, 4, none⟩ = some (.string (⟨#[]⟩ : ByteArray)) := (blk_cell BK201.out 4).trans rfl; have hfz11_0 := blk_frozen BK201.out 0; have hfz11_1 := blk_frozen BK201.out 1; have hfz11_2 := blk_frozen BK201.out 2; have hfz11_3 := blk_frozen BK201.out 3; have hfz11_4 := blk_frozen BK201.out 4) | ((with_reducible refine gate_callee (f := 24) rfl ?_); refine goesL_ (some 16) rfl rfl Tryd.func24 (by kernel_rfl) rfl #[.agg #[.int .i64 ((rd_T51 l0 x11_1).f0), .int .i64 ((rd_T51 l0 x11_1).f1), .int .i64 ((rd_T51 l0 x11_1).f2.f0), .int .i64 ((rd_T51 l0 x11_1).f2.f1), .string ((rd_T51 l0 x11_1).f2.f2)]] rfl (by (try simp only [List.map_toArray, List.map_cons, List.map_nil]); first | done | rfl | (simp only [List.length_drop, List.length_take]; rfl)) ?_; (with_reducible refine (script_Right.calls k1 ((rd_T51 l0 x11_1).f0) ((rd_T51 l0 x11_1).f1) ((rd_T51 l0 x11_1).f2.f0) ((rd_T51 l0 x11_1).f2.f1) ((rd_T51 l0 x11_1).f2.f2) false _ A5.out).mono ?_); rintro e w12 ⟨rfl, hb⟩; refine ⟨_, rfl, ?_⟩; have n0_ := Aside0.mk (blk_below (g := gb201) (o := .cells #[.int .i64 ((rd_T51 l0 x11_1).f0), .int .i64 ((rd_T51 l0 x11_1).f1), .int .i64 ((rd_T51 l0 x11_1).f2.f0), .int .i64 ((rd_T51 l0 x11_1).f2.f1), .string ((rd_T51 l0 x11_1).f2.f2)] 51 (0, 0)) (by (with_reducible repeat (first | refine blk_drewN ?_ _ | refine blk_drew ?_ | refine blk_alloc ?_ _)); refine blk_put (cs := #[.int .i64 ((rd_T51 l0 x11_1).f0), .int .i64 ((rd_T51 l0 x11_1).f1), .int .i64 ((rd_T51 l0 x11_1).f2.f0), .int .i64 ((rd_T51 l0 x11_1).f2.f1), .string (⟨#[]⟩ : ByteArray)]) ?_ 4 _ rfl; (with_reducible repeat (first | refine blk_drewN ?_ _ | refine blk_drew ?_ | refine blk_alloc ?_ _)); refine blk_put (cs := #[.int .i64 ((rd_T51 l0 x11_1).f0), .int .i64 ((rd_T51 l0 x11_1).f1), .int .i64 ((rd_T51 l0 x11_1).f2.f0), .int .i64 0, .string (⟨#[]⟩ : ByteArray)]) ?_ 3 _ rfl; (with_reducible repeat (first | refine blk_drewN ?_ _ | refine blk_drew ?_ | refine blk_alloc ?_ _)); refine blk_put (cs := #[.int .i64 ((rd_T51 l0 x11_1).f0), .int .i64 ((rd_T51 l0 x11_1).f1), .int .i64 0, .int .i64 0, .string (⟨#[]⟩ : ByteArray)]) ?_ 2 _ rfl; (with_reducible repeat (first | refine blk_drewN ?_ _ | refine blk_drew ?_ | refine blk_alloc ?_ _)); refine blk_put (cs := #[.int .i64 ((rd_T51 l0 x11_1).f0), .int .i64 0, .int .i64 0, .int .i64 0, .string (⟨#[]⟩ : ByteArray)]) ?_ 1 _ rfl; (with_reducible repeat (first | refine blk_drewN ?_ _ | refine blk_drew ?_ | refine blk_alloc ?_ _)); refine blk_put (cs := #[.int .i64 0, .int .i64 0, .int .i64 0, .int .i64 0, .string (⟨#[]⟩ : ByteArray)]) ?_ 0 _ rfl; (with_reducible repeat (first | refine blk_drewN ?_ _ | refine blk_drew ?_ | refine blk_alloc ?_ _)); exact BK201.out) hb); have n1_ := Aside0.mk (below_step (by repeat (first | (with_reducible first | exact HB.out | apply below_alloc | apply pw_below_drewN | apply below_drew1 | refine below_set ?_ GE201.out) | exact HB.out)) hb); clear BK201; clear HB; have BK201 := n0_; have HB := n1_; clear n0_ n1_; (try clear hb); (try clear hb2); (try clear hk); (try clear hi)))
              go_ret2
              exact ⟨by first | rfl | (simp [errW_none, errW_some] <;> rfl) | (simp [*, errW_none, errW_some] <;> rfl), by repeat (first | (with_reducible first | exact HB.out | apply below_alloc | apply pw_below_drewN | apply below_drew1 | refine below_set ?_ GE201.out) | exact HB.out)⟩
          · rw [if_neg c4] at H
            exact absurd H (by simp)
        · rw [if_neg c3] at H
          exact absurd H (by simp)
      · rw [if_neg c2] at H
        have c2b0 : decide (x11_1 < (l0.length : Int)) = false := decide_eq_false c2
        clear c2
        have H' := Aside0.mk H
        clear H
        go_wp2
        go_loopg [6, 21] k1 (fun kq v6 v21 w' => ∃ (x6_2 : List Int) (x21_2 : Int), v21 = .int .i64 x21_2 ∧ Aside0 (script_Print.l1 kq x6_2 l0 (l0.length : Int) x21_2 = some (r1, r2)) ∧ Aside0 (kq ≤ k1) ∧ Aside0 (Kd.R (Kd.int .u8) 5 w' w.heap.size (fun _ => True) v6 x6_2) ∧ Aside0 (Below w.heap.size w w'))
        case atStart => exact ⟨(([] : List Int)), (0), (by first | rfl | (simp; done) | (simp [*]; done)), H', ⟨Nat.le_refl _⟩, ⟨by first | exact Kd.R_nil _ _ _ _ _ | exact Kd.N_nil _ _ _ _ _ | exact Kd.V_nil _ _ _ _ _ | exact Kd.Q_nil _ _ _ _ _ | exact Kd.S_nil _ _ _ _ _⟩, ⟨by repeat (first | (with_reducible first | exact HB.out | apply below_alloc | apply pw_below_drewN | apply below_drew1) | exact HB.out)⟩⟩
        case round =>
          clear H'
          try clear c1
          try clear c2
          try clear c2b0
          try clear p2
          try clear q2
          try clear hx2
          try clear c3
          try clear c3b0
          try clear c4
          try clear c4b0
          try clear c6
          try clear p6
          try clear hcz11_0
          try clear hcz11_1
          try clear hcz11_2
          try clear hcz11_3
          try clear hcz11_4
          try clear hcz8_0
          try clear hcz8_1
          try clear hcz8_2
          try clear hcz8_3
          try clear hcz8_4
          try clear hfz11_0
          try clear hfz11_1
          try clear hfz11_2
          try clear hfz11_3
          try clear hfz11_4
          try clear hfz8_0
          try clear hfz8_1
          try clear hfz8_2
          try clear hfz8_3
          try clear hfz8_4
          try clear hx200_0
          try clear hx200_1
          try clear hx200_2
          try clear hx200_3
          try clear hx200_4
          try clear p200
          try clear q200
          obtain ⟨x6_2, x21_2, rfl, HA, HK2, HO_6, HB⟩ := hrel
          cases gk with
          | zero => exact absurd HA.out (by simp [script_Print.l1])
          | succ k2 =>
            have H := HA.out
            clear HA
            simp only [script_Print.l1] at H
            by_cases c13 : x21_2 < (l0.length : Int)
            · rw [if_pos c13] at H
              have c13b0 : decide (x21_2 < (l0.length : Int)) = true := decide_eq_true c13
              clear c13
              by_cases c14 : 0 ≤ x21_2
              · rw [if_pos c14] at H
                have c14b0 : decide (0 ≤ x21_2) = true := decide_eq_true c14
                clear c14
                by_cases c15 : x21_2 < (l0.length : Int)
                · rw [if_pos c15] at H
                  have c15b0 : decide (x21_2 < (l0.length : Int)) = true := decide_eq_true c15
                  clear c15
                  by_cases c16 : (((rd_T51 l0 x21_2).f2.f2).size : Int) > 65536
                  · rw [if_pos c16] at H
                    have c16b0 : decide (65536 < (((rd_T51 l0 x21_2).f2.f2).size : Int)) = true := decide_eq_true c16
                    have c16b1 : decide (65536 < ((rd_T51 l0 x21_2).f2.f2).size) = true := decide_eq_true (by omega)
                    clear c16
                    simp only [Option.some.injEq, Prod.mk.injEq] at H
                    obtain ⟨rfl, rfl⟩ := H
                    have p203 : 0 ≤ (x21_2 : Int) := of_decide_eq_true (by first | (with_reducible assumption) | assumption)
                    have q203 : x21_2 < (l0.length : Int) := of_decide_eq_true (by first | (with_reducible assumption) | assumption)
                    obtain ⟨ad203, e203, hx203_0, hx203_1, hx203_2, hx203_3, hx203_4⟩ := at_T51 HR0.out x21_2 p203 q203
                    cases e203
                    replace hx203_0 := (HB.out.cell (World.block_lt_of_cell? w _ hx203_0)).trans hx203_0
                    replace hx203_1 := (HB.out.cell (World.block_lt_of_cell? w _ hx203_1)).trans hx203_1
                    replace hx203_2 := (HB.out.cell (World.block_lt_of_cell? w _ hx203_2)).trans hx203_2
                    replace hx203_3 := (HB.out.cell (World.block_lt_of_cell? w _ hx203_3)).trans hx203_3
                    replace hx203_4 := (HB.out.cell (World.block_lt_of_cell? w _ hx203_4)).trans hx203_4
                    replace p203 := eq_true p203
                    replace q203 := eq_true q203
                    go_wp2_with (first | ((with_reducible refine gate_dst (N := 8) rfl ?_); refine box_event ?hg (N := 8) ?hd (cs := #[.int .i64 0, .int .i64 0, .int .i64 0, .int .i64 0, .string (⟨#[]⟩ : ByteArray)]) (t := 51) ?hr ?_; (case hd => rfl); (case hg => rfl); (case hr => first | (go_simp; done) | (go_simp; rfl)); intro gb204 hg w17 hbox hb; have n0_ := Aside0.mk (Kd.R_below (by (with_reducible repeat (first | apply Kd.R_alloc | apply Kd.R_drewN | apply Kd.R_drew)); exact HO_6.out) hb); have n1_ := Aside0.mk (below_step (by repeat (first | (with_reducible first | exact HB.out | apply below_alloc | apply pw_below_drewN | apply below_drew1) | exact HB.out)) hb); have n2_ := Aside0.mk (hbox); have n3_ := Aside0.mk ((by rw [hg]; exact (below_size (by repeat (first | (with_reducible first | exact HB.out | apply below_alloc | apply pw_below_drewN | apply below_drew1) | exact HB.out))) : w.heap.size ≤ gb204)); have n4_ := Aside0.mk ((by rw [hg]; exact (below_size (by repeat (first | (with_reducible first | exact HB.out | apply below_alloc | apply pw_below_drewN | apply below_drew1) | exact HB.out))) : w.heap.size ≤ gb204)); clear HO_6; clear HB; have HO_6 := n0_; have HB := n1_; have BK204 := n2_; have GW204 := n3_; have GE204 := n4_; clear n0_ n1_ n2_ n3_ n4_; clear hb hbox hg; have hcz18_0 : w17.cell? ⟨gb204, 0, none⟩ = some (.int .i64 0) := (blk_cell BK204.out 0).trans rfl; have hcz18_1 : w17.cell? ⟨gb204, 1, none⟩ = some (.int .i64 0) := (blk_cell BK204.out 1).trans rfl; have hcz18_2 : w17.cell? ⟨gb204, 2, none⟩ = some (.int .i64 0) := (blk_cell BK204.out 2).trans rfl; have hcz18_3 : w17.cell? ⟨gb204, 3, none⟩ = some (.int .i64 0) := (blk_cell BK204.out 3).trans rfl; have hcz18_4 : w17.cell? ⟨gb204, 4, none⟩ = some (.string (⟨#[]⟩ : ByteArray)) := (blk_cell BK204.out 4).trans rfl; have hfz18_0 := blk_frozen BK204.out 0; have hfz18_1 := blk_frozen BK204.out 1; have hfz18_2 := blk_frozen BK204.out 2; have hfz18_3 := blk_frozen BK204.out 3; have hfz18_4 := blk_frozen BK204.out 4))
                    go_ret2
                    exact ⟨by first | rfl | (simp [errW_none, errW_some] <;> rfl) | (simp [*, errW_none, errW_some] <;> rfl), by repeat (first | (with_reducible first | exact HB.out | apply below_alloc | apply pw_below_drewN | apply below_drew1 | refine below_set ?_ GE204.out) | exact HB.out)⟩
                  · rw [if_neg c16] at H
                    have c16b0 : decide (65536 < (((rd_T51 l0 x21_2).f2.f2).size : Int)) = false := decide_eq_false c16
                    have c16b1 : decide (65536 < ((rd_T51 l0 x21_2).f2.f2).size) = false := decide_eq_false (by omega)
                    clear c16
                    replace H := Option.bind_eq_some_iff.mp H
                    obtain ⟨t205, A190, H⟩ := H
                    replace H : (if x6_2.length + t205.size < 140737488355328 then ((some (x6_2 ++ bytesOf t205 : List Int)).bind fun y206 => (if (y206.length : Int) > 65536 then (some ((⟨#[]⟩ : ByteArray), 6)) else (script_Print.l1 k2 y206 l0 (l0.length : Int) (wrap64 (x21_2 + 1))))) else (none)) = some (r1, r2) := H
                    have A19 := Aside0.mk A190
                    clear A190
                    by_cases c20 : x6_2.length + t205.size < 140737488355328
                    · rw [if_pos c20] at H
                      have LMc20 := Aside0.mk c20
                      clear c20
                      obtain ⟨y206, hy206⟩ : ∃ y_ : List Int, y_ = (x6_2 ++ bytesOf t205) := ⟨_, rfl⟩
                      replace H : (if (y206.length : Int) > 65536 then (some ((⟨#[]⟩ : ByteArray), 6)) else (script_Print.l1 k2 y206 l0 (l0.length : Int) (wrap64 (x21_2 + 1)))) = some (r1, r2) := by first | (rw [hy206]; with_reducible exact H) | (have H2_ := (Option.bind_some _ _).symm.trans H; rw [hy206]; with_reducible exact H2_) | (have H2_ := (Option.bind_some _ _).symm.trans H; with_reducible exact H2_) | with_reducible exact H | (rw [hy206]; exact H) | exact H
                      have Ny206 := Aside0.mk hy206
                      clear hy206
                      by_cases c21 : (y206.length : Int) > 65536
                      · rw [if_pos c21] at H
                        have c21b0 : decide (65536 < (y206.length : Int)) = true := decide_eq_true c21
                        have c21b1 : decide (65536 < y206.length) = true := decide_eq_true (by omega)
                        clear c21
                        simp only [Option.some.injEq, Prod.mk.injEq] at H
                        obtain ⟨rfl, rfl⟩ := H
                        have p203 : 0 ≤ (x21_2 : Int) := of_decide_eq_true (by first | (with_reducible assumption) | assumption)
                        have q203 : x21_2 < (l0.length : Int) := of_decide_eq_true (by first | (with_reducible assumption) | assumption)
                        obtain ⟨ad203, e203, hx203_0, hx203_1, hx203_2, hx203_3, hx203_4⟩ := at_T51 HR0.out x21_2 p203 q203
                        cases e203
                        replace hx203_0 := (HB.out.cell (World.block_lt_of_cell? w _ hx203_0)).trans hx203_0
                        replace hx203_1 := (HB.out.cell (World.block_lt_of_cell? w _ hx203_1)).trans hx203_1
                        replace hx203_2 := (HB.out.cell (World.block_lt_of_cell? w _ hx203_2)).trans hx203_2
                        replace hx203_3 := (HB.out.cell (World.block_lt_of_cell? w _ hx203_3)).trans hx203_3
                        replace hx203_4 := (HB.out.cell (World.block_lt_of_cell? w _ hx203_4)).trans hx203_4
                        replace p203 := eq_true p203
                        replace q203 := eq_true q203
                        go_wp2_with (first | ((with_reducible refine gate_dst (N := 8) rfl ?_); refine box_event ?hg (N := 8) ?hd (cs := #[.int .i64 0, .int .i64 0, .int .i64 0, .int .i64 0, .string (⟨#[]⟩ : ByteArray)]) (t := 51) ?hr ?_; (case hd => rfl); (case hg => rfl); (case hr => first | (go_simp; done) | (go_simp; rfl)); intro gb204 hg w22 hbox hb; have n0_ := Aside0.mk (Kd.R_below (by (with_reducible repeat (first | apply Kd.R_alloc | apply Kd.R_drewN | apply Kd.R_drew)); exact HO_6.out) hb); have n1_ := Aside0.mk (below_step (by repeat (first | (with_reducible first | exact HB.out | apply below_alloc | apply pw_below_drewN | apply below_drew1) | exact HB.out)) hb); have n2_ := Aside0.mk (hbox); have n3_ := Aside0.mk ((by rw [hg]; exact (below_size (by repeat (first | (with_reducible first | exact HB.out | apply below_alloc | apply pw_below_drewN | apply below_drew1) | exact HB.out))) : w.heap.size ≤ gb204)); have n4_ := Aside0.mk ((by rw [hg]; exact (below_size (by repeat (first | (with_reducible first | exact HB.out | apply below_alloc | apply pw_below_drewN | apply below_drew1) | exact HB.out))) : w.heap.size ≤ gb204)); clear HO_6; clear HB; have HO_6 := n0_; have HB := n1_; have BK204 := n2_; have GW204 := n3_; have GE204 := n4_; clear n0_ n1_ n2_ n3_ n4_; clear hb hbox hg; have hcz23_0 : w22.cell? ⟨gb204, 0, none⟩ = some (.int .i64 0) := (blk_cell BK204.out 0).trans rfl; have hcz23_1 : w22.cell? ⟨gb204, 1, none⟩ = some (.int .i64 0) := (blk_cell BK204.out 1).trans rfl; have hcz23_2 : w22.cell? ⟨gb204, 2, none⟩ = some (.int .i64 0) := (blk_cell BK204.out 2).trans rfl; have hcz23_3 : w22.cell? ⟨gb204, 3, none⟩ = some (.int .i64 0) := (blk_cell BK204.out 3).trans rfl; have hcz23_4 : w22.cell? ⟨gb204, 4, none⟩ = some (.string (⟨#[]⟩ : ByteArray)) := (blk_cell BK204.out 4).trans rfl; have hfz23_0 := blk_frozen BK204.out 0; have hfz23_1 := blk_frozen BK204.out 1; have hfz23_2 := blk_frozen BK204.out 2; have hfz23_3 := blk_frozen BK204.out 3; have hfz23_4 := blk_frozen BK204.out 4) | ((with_reducible refine gate_callee (f := 32) rfl ?_); refine goesL_ (some 32) rfl rfl Tryd.func32 (by kernel_rfl) rfl #[.agg #[.int .i64 ((rd_T51 l0 x21_2).f0), .int .i64 ((rd_T51 l0 x21_2).f1), .int .i64 ((rd_T51 l0 x21_2).f2.f0), .int .i64 ((rd_T51 l0 x21_2).f2.f1), .string ((rd_T51 l0 x21_2).f2.f2)]] rfl (by (try simp only [List.map_toArray, List.map_cons, List.map_nil]); first | done | rfl | (simp only [List.length_drop, List.length_take]; rfl)) ?_; (with_reducible refine (script_line.calls k2 ((rd_T51 l0 x21_2).f0) ((rd_T51 l0 x21_2).f1) ((rd_T51 l0 x21_2).f2.f0) ((rd_T51 l0 x21_2).f2.f1) ((rd_T51 l0 x21_2).f2.f2) t205 _ ?side1 ?side2 ?side3 A19.out).mono ?_); (case side1 => exact Kd.C_below HRG0.out (by repeat (first | (with_reducible first | exact HB.out | apply below_alloc | apply pw_below_drewN | apply below_drew1 | refine below_set ?_ GE204.out) | exact HB.out))); (case side2 => exact Kd.C_below HRG1.out (by repeat (first | (with_reducible first | exact HB.out | apply below_alloc | apply pw_below_drewN | apply below_drew1 | refine below_set ?_ GE204.out) | exact HB.out))); (case side3 => exact Kd.C_below HRG2.out (by repeat (first | (with_reducible first | exact HB.out | apply below_alloc | apply pw_below_drewN | apply below_drew1 | refine below_set ?_ GE204.out) | exact HB.out))); rintro e w24 ⟨rfl, hb⟩; refine ⟨_, rfl, ?_⟩; have n0_ := Aside0.mk (Kd.R_below (by (with_reducible repeat (first | apply Kd.R_alloc | apply Kd.R_drewN | apply Kd.R_drew)); exact (Kd.R_mono (Kd.R_far (p := ⟨gb204, 4, none⟩) (Kd.R_far (p := ⟨gb204, 3, none⟩) (Kd.R_far (p := ⟨gb204, 2, none⟩) (Kd.R_far (p := ⟨gb204, 1, none⟩) (Kd.R_far (p := ⟨gb204, 0, none⟩) (Kd.R_types HO_6.out BK204.out (by decide)) (fun _ hk => hk.2) (.int .i64 ((rd_T51 l0 x21_2).f0))) (fun _ hk => hk.2) (.int .i64 ((rd_T51 l0 x21_2).f1))) (fun _ hk => hk.2) (.int .i64 ((rd_T51 l0 x21_2).f2.f0))) (fun _ hk => hk.2) (.int .i64 ((rd_T51 l0 x21_2).f2.f1))) (fun _ hk => hk.2) (.string ((rd_T51 l0 x21_2).f2.f2))) (fun _ h_ => h_.1))) hb); have n1_ := Aside0.mk (blk_below (g := gb204) (o := .cells #[.int .i64 ((rd_T51 l0 x21_2).f0), .int .i64 ((rd_T51 l0 x21_2).f1), .int .i64 ((rd_T51 l0 x21_2).f2.f0), .int .i64 ((rd_T51 l0 x21_2).f2.f1), .string ((rd_T51 l0 x21_2).f2.f2)] 51 (0, 0)) (by (with_reducible repeat (first | refine blk_drewN ?_ _ | refine blk_drew ?_ | refine blk_alloc ?_ _)); refine blk_put (cs := #[.int .i64 ((rd_T51 l0 x21_2).f0), .int .i64 ((rd_T51 l0 x21_2).f1), .int .i64 ((rd_T51 l0 x21_2).f2.f0), .int .i64 ((rd_T51 l0 x21_2).f2.f1), .string (⟨#[]⟩ : ByteArray)]) ?_ 4 _ rfl; (with_reducible repeat (first | refine blk_drewN ?_ _ | refine blk_drew ?_ | refine blk_alloc ?_ _)); refine blk_put (cs := #[.int .i64 ((rd_T51 l0 x21_2).f0), .int .i64 ((rd_T51 l0 x21_2).f1), .int .i64 ((rd_T51 l0 x21_2).f2.f0), .int .i64 0, .string (⟨#[]⟩ : ByteArray)]) ?_ 3 _ rfl; (with_reducible repeat (first | refine blk_drewN ?_ _ | refine blk_drew ?_ | refine blk_alloc ?_ _)); refine blk_put (cs := #[.int .i64 ((rd_T51 l0 x21_2).f0), .int .i64 ((rd_T51 l0 x21_2).f1), .int .i64 0, .int .i64 0, .string (⟨#[]⟩ : ByteArray)]) ?_ 2 _ rfl; (with_reducible repeat (first | refine blk_drewN ?_ _ | refine blk_drew ?_ | refine blk_alloc ?_ _)); refine blk_put (cs := #[.int .i64 ((rd_T51 l0 x21_2).f0), .int .i64 0, .int .i64 0, .int .i64 0, .string (⟨#[]⟩ : ByteArray)]) ?_ 1 _ rfl; (with_reducible repeat (first | refine blk_drewN ?_ _ | refine blk_drew ?_ | refine blk_alloc ?_ _)); refine blk_put (cs := #[.int .i64 0, .int .i64 0, .int .i64 0, .int .i64 0, .string (⟨#[]⟩ : ByteArray)]) ?_ 0 _ rfl; (with_reducible repeat (first | refine blk_drewN ?_ _ | refine blk_drew ?_ | refine blk_alloc ?_ _)); exact BK204.out) hb); have n2_ := Aside0.mk (below_step (by repeat (first | (with_reducible first | exact HB.out | apply below_alloc | apply pw_below_drewN | apply below_drew1 | refine below_set ?_ GE204.out) | exact HB.out)) hb); clear HO_6; clear BK204; clear HB; have HO_6 := n0_; have BK204 := n1_; have HB := n2_; clear n0_ n1_ n2_; (try clear hb); (try clear hb2); (try clear hk); (try clear hi)) | (at_builtin; refine print_append_str (w0 := w) w.heap.size rfl (.tmp 30) _ 67 9 5 rfl Tryd.underlying67 Tryd.underlying9 info5 u6 x6_2 t205 rfl rfl ?aO ?aB ?aS ?aL ?_; (case aB => exact (by repeat (first | (with_reducible first | exact HB.out | apply below_alloc | apply pw_below_drewN | apply below_drew1 | refine below_set ?_ GE204.out) | exact HB.out))); (case aO => exact (Kd.own_of_R (by (with_reducible repeat (first | apply Kd.R_alloc | apply Kd.R_drewN | apply Kd.R_drew)); exact HO_6.out))); (case aS => exact (below_size (by repeat (first | (with_reducible first | exact HB.out | apply below_alloc | apply pw_below_drewN | apply below_drew1 | refine below_set ?_ GE204.out) | exact HB.out)))); (case aL => have := LMc20.out; omega); intro v207 w25 ho0 hb hg; have ho := Kd.R_of_own (h1 := fun _ => rfl) (ok := fun _ => True) ho0 (fun _ _ => trivial); clear ho0; have hat := True.intro; rw [← Ny206.out] at ho; change Kd.R (Kd.int .u8) 5 w25 w.heap.size (fun _ => True) v207 y206 at ho; have n0_ := Aside0.mk (blk_grown (g := gb204) (o := .cells #[.int .i64 ((rd_T51 l0 x21_2).f0), .int .i64 ((rd_T51 l0 x21_2).f1), .int .i64 ((rd_T51 l0 x21_2).f2.f0), .int .i64 ((rd_T51 l0 x21_2).f2.f1), .string ((rd_T51 l0 x21_2).f2.f2)] 51 (0, 0)) (by (with_reducible repeat (first | refine blk_drewN ?_ _ | refine blk_drew ?_ | refine blk_alloc ?_ _)); exact BK204.out) hg (Kd.R_ne HO_6.out BK204.out (by decide))); have n1_ := Aside0.mk (hb); have n2_ := Aside0.mk (ho); clear BK204; clear HB; clear HO_6; have BK204 := n0_; have HB := n1_; have HO208 := n2_; clear n0_ n1_ n2_; clear ho hb hg hat; obtain ⟨Ao26, co26, eo26⟩ := Kd.R_slice HO208.out; subst eo26))
                        go_ret2
                        exact ⟨by first | rfl | (simp [errW_none, errW_some] <;> rfl) | (simp [*, errW_none, errW_some] <;> rfl), by repeat (first | (with_reducible first | exact HB.out | apply below_alloc | apply pw_below_drewN | apply below_drew1 | refine below_set ?_ GE204.out) | exact HB.out)⟩
                      · rw [if_neg c21] at H
                        have c21b0 : decide (65536 < (y206.length : Int)) = false := decide_eq_false c21
                        have c21b1 : decide (65536 < y206.length) = false := decide_eq_false (by omega)
                        clear c21
                        have H' := Aside0.mk H
                        clear H
                        have p203 : 0 ≤ (x21_2 : Int) := of_decide_eq_true (by first | (with_reducible assumption) | assumption)
                        have q203 : x21_2 < (l0.length : Int) := of_decide_eq_true (by first | (with_reducible assumption) | assumption)
                        obtain ⟨ad203, e203, hx203_0, hx203_1, hx203_2, hx203_3, hx203_4⟩ := at_T51 HR0.out x21_2 p203 q203
                        cases e203
                        replace hx203_0 := (HB.out.cell (World.block_lt_of_cell? w _ hx203_0)).trans hx203_0
                        replace hx203_1 := (HB.out.cell (World.block_lt_of_cell? w _ hx203_1)).trans hx203_1
                        replace hx203_2 := (HB.out.cell (World.block_lt_of_cell? w _ hx203_2)).trans hx203_2
                        replace hx203_3 := (HB.out.cell (World.block_lt_of_cell? w _ hx203_3)).trans hx203_3
                        replace hx203_4 := (HB.out.cell (World.block_lt_of_cell? w _ hx203_4)).trans hx203_4
                        replace p203 := eq_true p203
                        replace q203 := eq_true q203
                        go_wp2_with (first | ((with_reducible refine gate_dst (N := 8) rfl ?_); refine box_event ?hg (N := 8) ?hd (cs := #[.int .i64 0, .int .i64 0, .int .i64 0, .int .i64 0, .string (⟨#[]⟩ : ByteArray)]) (t := 51) ?hr ?_; (case hd => rfl); (case hg => rfl); (case hr => first | (go_simp; done) | (go_simp; rfl)); intro gb204 hg w27 hbox hb; have n0_ := Aside0.mk (Kd.R_below (by (with_reducible repeat (first | apply Kd.R_alloc | apply Kd.R_drewN | apply Kd.R_drew)); exact HO_6.out) hb); have n1_ := Aside0.mk (below_step (by repeat (first | (with_reducible first | exact HB.out | apply below_alloc | apply pw_below_drewN | apply below_drew1) | exact HB.out)) hb); have n2_ := Aside0.mk (hbox); have n3_ := Aside0.mk ((by rw [hg]; exact (below_size (by repeat (first | (with_reducible first | exact HB.out | apply below_alloc | apply pw_below_drewN | apply below_drew1) | exact HB.out))) : w.heap.size ≤ gb204)); have n4_ := Aside0.mk ((by rw [hg]; exact (below_size (by repeat (first | (with_reducible first | exact HB.out | apply below_alloc | apply pw_below_drewN | apply below_drew1) | exact HB.out))) : w.heap.size ≤ gb204)); clear HO_6; clear HB; have HO_6 := n0_; have HB := n1_; have BK204 := n2_; have GW204 := n3_; have GE204 := n4_; clear n0_ n1_ n2_ n3_ n4_; clear hb hbox hg; have hcz28_0 : w27.cell? ⟨gb204, 0, none⟩ = some (.int .i64 0) := (blk_cell BK204.out 0).trans rfl; have hcz28_1 : w27.cell? ⟨gb204, 1, none⟩ = some (.int .i64 0) := (blk_cell BK204.out 1).trans rfl; have hcz28_2 : w27.cell? ⟨gb204, 2, none⟩ = some (.int .i64 0) := (blk_cell BK204.out 2).trans rfl; have hcz28_3 : w27.cell? ⟨gb204, 3, none⟩ = some (.int .i64 0) := (blk_cell BK204.out 3).trans rfl; have hcz28_4 : w27.cell? ⟨gb204, 4, none⟩ = some (.string (⟨#[]⟩ : ByteArray)) := (blk_cell BK204.out 4).trans rfl; have hfz28_0 := blk_frozen BK204.out 0; have hfz28_1 := blk_frozen BK204.out 1; have hfz28_2 := blk_frozen BK204.out 2; have hfz28_3 := blk_frozen BK204.out 3; have hfz28_4 := blk_frozen BK204.out 4) | ((with_reducible refine gate_callee (f := 32) rfl ?_); refine goesL_ (some 32) rfl rfl Tryd.func32 (by kernel_rfl) rfl #[.agg #[.int .i64 ((rd_T51 l0 x21_2).f0), .int .i64 ((rd_T51 l0 x21_2).f1), .int .i64 ((rd_T51 l0 x21_2).f2.f0), .int .i64 ((rd_T51 l0 x21_2).f2.f1), .string ((rd_T51 l0 x21_2).f2.f2)]] rfl (by (try simp only [List.map_toArray, List.map_cons, List.map_nil]); first | done | rfl | (simp only [List.length_drop, List.length_take]; rfl)) ?_; (with_reducible refine (script_line.calls k2 ((rd_T51 l0 x21_2).f0) ((rd_T51 l0 x21_2).f1) ((rd_T51 l0 x21_2).f2.f0) ((rd_T51 l0 x21_2).f2.f1) ((rd_T51 l0 x21_2).f2.f2) t205 _ ?side1 ?side2 ?side3 A19.out).mono ?_); (case side1 => exact Kd.C_below HRG0.out (by repeat (first | (with_reducible first | exact HB.out | apply below_alloc | apply pw_below_drewN | apply below_drew1 | refine below_set ?_ GE204.out) | exact HB.out))); (case side2 => exact Kd.C_below HRG1.out (by repeat (first | (with_reducible first | exact HB.out | apply below_alloc | apply pw_below_drewN | apply below_drew1 | refine below_set ?_ GE204.out) | exact HB.out))); (case side3 => exact Kd.C_below HRG2.out (by repeat (first | (with_reducible first | exact HB.out | apply below_alloc | apply pw_below_drewN | apply below_drew1 | refine below_set ?_ GE204.out) | exact HB.out))); rintro e w29 ⟨rfl, hb⟩; refine ⟨_, rfl, ?_⟩; have n0_ := Aside0.mk (Kd.R_below (by (with_reducible repeat (first | apply Kd.R_alloc | apply Kd.R_drewN | apply Kd.R_drew)); exact (Kd.R_mono (Kd.R_far (p := ⟨gb204, 4, none⟩) (Kd.R_far (p := ⟨gb204, 3, none⟩) (Kd.R_far (p := ⟨gb204, 2, none⟩) (Kd.R_far (p := ⟨gb204, 1, none⟩) (Kd.R_far (p := ⟨gb204, 0, none⟩) (Kd.R_types HO_6.out BK204.out (by decide)) (fun _ hk => hk.2) (.int .i64 ((rd_T51 l0 x21_2).f0))) (fun _ hk => hk.2) (.int .i64 ((rd_T51 l0 x21_2).f1))) (fun _ hk => hk.2) (.int .i64 ((rd_T51 l0 x21_2).f2.f0))) (fun _ hk => hk.2) (.int .i64 ((rd_T51 l0 x21_2).f2.f1))) (fun _ hk => hk.2) (.string ((rd_T51 l0 x21_2).f2.f2))) (fun _ h_ => h_.1))) hb); have n1_ := Aside0.mk (blk_below (g := gb204) (o := .cells #[.int .i64 ((rd_T51 l0 x21_2).f0), .int .i64 ((rd_T51 l0 x21_2).f1), .int .i64 ((rd_T51 l0 x21_2).f2.f0), .int .i64 ((rd_T51 l0 x21_2).f2.f1), .string ((rd_T51 l0 x21_2).f2.f2)] 51 (0, 0)) (by (with_reducible repeat (first | refine blk_drewN ?_ _ | refine blk_drew ?_ | refine blk_alloc ?_ _)); refine blk_put (cs := #[.int .i64 ((rd_T51 l0 x21_2).f0), .int .i64 ((rd_T51 l0 x21_2).f1), .int .i64 ((rd_T51 l0 x21_2).f2.f0), .int .i64 ((rd_T51 l0 x21_2).f2.f1), .string (⟨#[]⟩ : ByteArray)]) ?_ 4 _ rfl; (with_reducible repeat (first | refine blk_drewN ?_ _ | refine blk_drew ?_ | refine blk_alloc ?_ _)); refine blk_put (cs := #[.int .i64 ((rd_T51 l0 x21_2).f0), .int .i64 ((rd_T51 l0 x21_2).f1), .int .i64 ((rd_T51 l0 x21_2).f2.f0), .int .i64 0, .string (⟨#[]⟩ : ByteArray)]) ?_ 3 _ rfl; (with_reducible repeat (first | refine blk_drewN ?_ _ | refine blk_drew ?_ | refine blk_alloc ?_ _)); refine blk_put (cs := #[.int .i64 ((rd_T51 l0 x21_2).f0), .int .i64 ((rd_T51 l0 x21_2).f1), .int .i64 0, .int .i64 0, .string (⟨#[]⟩ : ByteArray)]) ?_ 2 _ rfl; (with_reducible repeat (first | refine blk_drewN ?_ _ | refine blk_drew ?_ | refine blk_alloc ?_ _)); refine blk_put (cs := #[.int .i64 ((rd_T51 l0 x21_2).f0), .int .i64 0, .int .i64 0, .int .i64 0, .string (⟨#[]⟩ : ByteArray)]) ?_ 1 _ rfl; (with_reducible repeat (first | refine blk_drewN ?_ _ | refine blk_drew ?_ | refine blk_alloc ?_ _)); refine blk_put (cs := #[.int .i64 0, .int .i64 0, .int .i64 0, .int .i64 0, .string (⟨#[]⟩ : ByteArray)]) ?_ 0 _ rfl; (with_reducible repeat (first | refine blk_drewN ?_ _ | refine blk_drew ?_ | refine blk_alloc ?_ _)); exact BK204.out) hb); have n2_ := Aside0.mk (below_step (by repeat (first | (with_reducible first | exact HB.out | apply below_alloc | apply pw_below_drewN | apply below_drew1 | refine below_set ?_ GE204.out) | exact HB.out)) hb); clear HO_6; clear BK204; clear HB; have HO_6 := n0_; have BK204 := n1_; have HB := n2_; clear n0_ n1_ n2_; (try clear hb); (try clear hb2); (try clear hk); (try clear hi)) | (at_builtin; refine print_append_str (w0 := w) w.heap.size rfl (.tmp 30) _ 67 9 5 rfl Tryd.underlying67 Tryd.underlying9 info5 u6 x6_2 t205 rfl rfl ?aO ?aB ?aS ?aL ?_; (case aB => exact (by repeat (first | (with_reducible first | exact HB.out | apply below_alloc | apply pw_below_drewN | apply below_drew1 | refine below_set ?_ GE204.out) | exact HB.out))); (case aO => exact (Kd.own_of_R (by (with_reducible repeat (first | apply Kd.R_alloc | apply Kd.R_drewN | apply Kd.R_drew)); exact HO_6.out))); (case aS => exact (below_size (by repeat (first | (with_reducible first | exact HB.out | apply below_alloc | apply pw_below_drewN | apply below_drew1 | refine below_set ?_ GE204.out) | exact HB.out)))); (case aL => have := LMc20.out; omega); intro v207 w30 ho0 hb hg; have ho := Kd.R_of_own (h1 := fun _ => rfl) (ok := fun _ => True) ho0 (fun _ _ => trivial); clear ho0; have hat := True.intro; rw [← Ny206.out] at ho; change Kd.R (Kd.int .u8) 5 w30 w.heap.size (fun _ => True) v207 y206 at ho; have n0_ := Aside0.mk (blk_grown (g := gb204) (o := .cells #[.int .i64 ((rd_T51 l0 x21_2).f0), .int .i64 ((rd_T51 l0 x21_2).f1), .int .i64 ((rd_T51 l0 x21_2).f2.f0), .int .i64 ((rd_T51 l0 x21_2).f2.f1), .string ((rd_T51 l0 x21_2).f2.f2)] 51 (0, 0)) (by (with_reducible repeat (first | refine blk_drewN ?_ _ | refine blk_drew ?_ | refine blk_alloc ?_ _)); exact BK204.out) hg (Kd.R_ne HO_6.out BK204.out (by decide))); have n1_ := Aside0.mk (hb); have n2_ := Aside0.mk (ho); clear BK204; clear HB; clear HO_6; have BK204 := n0_; have HB := n1_; have HO208 := n2_; clear n0_ n1_ n2_; clear ho hb hg hat; obtain ⟨Ao31, co31, eo31⟩ := Kd.R_slice HO208.out; subst eo31))
                        go_roundg k2
                        case measure => have := HK1.out; have := HK2.out; omega
                        case rel => exact ⟨(y206), (wrap64 (x21_2 + 1)), (by first | rfl | (simp; done) | (simp [*]; done)), H', ⟨by have := HK1.out; have := HK2.out; omega⟩, ⟨by (with_reducible repeat (first | apply Kd.R_alloc | apply Kd.R_drewN | apply Kd.R_drew)); exact HO208.out⟩, ⟨by repeat (first | (with_reducible first | exact HB.out | apply below_alloc | apply pw_below_drewN | apply below_drew1 | refine below_set ?_ GE204.out) | exact HB.out)⟩⟩
                    · rw [if_neg c20] at H
                      exact absurd H (by simp)
                · rw [if_neg c15] at H
                  exact absurd H (by simp)
              · rw [if_neg c14] at H
                exact absurd H (by simp)
            · rw [if_neg c13] at H
              have c13b0 : decide (x21_2 < (l0.length : Int)) = false := decide_eq_false c13
              clear c13
              simp only [Option.some.injEq, Prod.mk.injEq] at H
              obtain ⟨rfl, rfl⟩ := H
              have hcv32 := own_string (P := Tryd.prog) Tryd.underlying67 Tryd.underlying5 Tryd.underlying9 (Kd.own_of_R HO_6.out)
              go_wp2
              go_ret2
              exact ⟨by first | rfl | (simp [errW_none, errW_some] <;> rfl) | (simp [*, errW_none, errW_some] <;> rfl), by repeat (first | (with_reducible first | exact HB.out | apply below_alloc | apply pw_below_drewN | apply below_drew1) | exact HB.out)⟩

end Go.Proofs.YtifcpamliidabaaDoor.PS

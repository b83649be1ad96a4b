-- WRITTEN BY A PROGRAM OF THIS SESSION (patchprint.py over the kit's print)
import Derived.Test.YtfknoaokoncneaaDoorPUx0
import Derived.Test.YtfknoaokoncneaaDoorPUx1
namespace Go.Proofs.YtfknoaokoncneaaDoor.PU
open Go.RowKit Go.Proofs.YtfknoaokoncneaaDoorW.PrintWords Go.Proofs.YtfknoaokoncneaaDoorW.PrintLast Go.Proofs.YtfknoaokoncneaaDoorW.PrintMore
attribute [local go_sem] max2_int min2_int max_two min_two max_three min_three max_four min_four   -- for this text's walks alone
set_option linter.unusedVariables false
set_option linter.unusedSimpArgs false

/-! ### utf8_decodeRuneInStringSlow: function 59 -/
mutual
def utf8_decodeRuneInStringSlow.j0 : Nat → ByteArray → Int → Int → Int → Bool → Option (Int × Int)
  | 0, _, _, _, _, _ => none
  | k + 1, x0, x5, x8, x10, x57 => if x57 = true then (some (65533, 1)) else (if x8 ≤ 2 then (some (Go.bits .or .i32 (wrap32 ((wrap32 (Go.bits .and .u8 x5 31)) * 64)) (wrap32 (Go.bits .and .u8 x10 63)), 2)) else (if 2 < (x0.size : Int) then (if (bt x0 2) < 128 then (utf8_decodeRuneInStringSlow.j1 k x0 x5 x8 x10 (bt x0 2) true) else (utf8_decodeRuneInStringSlow.j1 k x0 x5 x8 x10 (bt x0 2) (decide (191 < (bt x0 2))))) else (none)))
def utf8_decodeRuneInStringSlow.j1 : Nat → ByteArray → Int → Int → Int → Int → Bool → Option (Int × Int)
  | 0, _, _, _, _, _, _ => none
  | k + 1, x0, x5, x8, x10, x11, x75 => if x75 = true then (some (65533, 1)) else (if x8 ≤ 3 then (some (Go.bits .or .i32 (Go.bits .or .i32 (wrap32 ((wrap32 (Go.bits .and .u8 x5 15)) * 4096)) (wrap32 ((wrap32 (Go.bits .and .u8 x10 63)) * 64))) (wrap32 (Go.bits .and .u8 x11 63)), 3)) else (if 3 < (x0.size : Int) then (if (bt x0 3) < 128 then (some (65533, 1)) else (if 191 < (bt x0 3) then (some (65533, 1)) else (some (Go.bits .or .i32 (Go.bits .or .i32 (Go.bits .or .i32 (wrap32 ((wrap32 (Go.bits .and .u8 x5 7)) * 262144)) (wrap32 ((wrap32 (Go.bits .and .u8 x10 63)) * 4096))) (wrap32 ((wrap32 (Go.bits .and .u8 x11 63)) * 64))) (wrap32 (Go.bits .and .u8 (bt x0 3) 63)), 4)))) else (none)))
end
def utf8_decodeRuneInStringSlow.f (k : Nat) (a0 : ByteArray) : Option (Int × Int) := if (a0.size : Int) < 1 then (some (65533, 0)) else (if 0 < (a0.size : Int) then (if 0 ≤ (bt a0 0) then (if (bt a0 0) < 256 then (if (rd tab_utf8_first (bt a0 0)) ≥ 240 then (some (Go.bits .or .i32 (Go.bits .andNot .i32 (wrap32 (bt a0 0)) ((wrap32 ((wrap32 (rd tab_utf8_first (bt a0 0))) * 2147483648)) / 2147483648)) (Go.bits .and .i32 65533 ((wrap32 ((wrap32 (rd tab_utf8_first (bt a0 0))) * 2147483648)) / 2147483648)), 1)) else (if 0 ≤ ((rd tab_utf8_first (bt a0 0)) / 16) then (if ((rd tab_utf8_first (bt a0 0)) / 16) < 16 then (if (a0.size : Int) < (wrap64 (Go.bits .and .u8 (rd tab_utf8_first (bt a0 0)) 7)) then (some (65533, 1)) else (if 1 < (a0.size : Int) then (if (bt a0 1) < ((rd_T69 tab_utf8_acceptRanges ((rd tab_utf8_first (bt a0 0)) / 16)).f0) then (utf8_decodeRuneInStringSlow.j0 k a0 (bt a0 0) (wrap64 (Go.bits .and .u8 (rd tab_utf8_first (bt a0 0)) 7)) (bt a0 1) true) else (utf8_decodeRuneInStringSlow.j0 k a0 (bt a0 0) (wrap64 (Go.bits .and .u8 (rd tab_utf8_first (bt a0 0)) 7)) (bt a0 1) (decide (((rd_T69 tab_utf8_acceptRanges ((rd tab_utf8_first (bt a0 0)) / 16)).f1) < (bt a0 1))))) else (none))) else (none)) else (none))) else (none)) else (none)) else (none))
theorem utf8_decodeRuneInStringSlow.mono_l : ∀ k, (∀ y0 y1 y2 y3 y4, LeO (utf8_decodeRuneInStringSlow.j0 k y0 y1 y2 y3 y4) (utf8_decodeRuneInStringSlow.j0 (k + 1) y0 y1 y2 y3 y4)) ∧ (∀ y0 y1 y2 y3 y4 y5, LeO (utf8_decodeRuneInStringSlow.j1 k y0 y1 y2 y3 y4 y5) (utf8_decodeRuneInStringSlow.j1 (k + 1) y0 y1 y2 y3 y4 y5))
  | 0 => ⟨fun _ _ _ _ _ r h => by simp [utf8_decodeRuneInStringSlow.j0] at h, fun _ _ _ _ _ _ r h => by simp [utf8_decodeRuneInStringSlow.j1] at h⟩
  | k + 1 => by
    obtain ⟨ih0, ih1⟩ := utf8_decodeRuneInStringSlow.mono_l k
    refine ⟨?_, ?_⟩
    · intro y0 y1 y2 y3 y4
      unfold utf8_decodeRuneInStringSlow.j0
      repeat' first
      | (with_reducible exact ih0 _ _ _ _ _)
      | (with_reducible exact ih1 _ _ _ _ _ _)
      | (with_reducible exact LeO.refl _)
      | (with_reducible exact LeO.none _)
      | (with_reducible refine LeO.ite ?_ ?_)
      | (with_reducible refine LeO.bind ?_ (fun _ => ?_))
      | exact ih0 _ _ _ _ _
      | exact ih1 _ _ _ _ _ _
      | exact LeO.none _
      | refine LeO.ite ?_ ?_
      | refine LeO.bind ?_ (fun _ => ?_)
    · intro y0 y1 y2 y3 y4 y5
      unfold utf8_decodeRuneInStringSlow.j1
      repeat' first
      | (with_reducible exact ih0 _ _ _ _ _)
      | (with_reducible exact ih1 _ _ _ _ _ _)
      | (with_reducible exact LeO.refl _)
      | (with_reducible exact LeO.none _)
      | (with_reducible refine LeO.ite ?_ ?_)
      | (with_reducible refine LeO.bind ?_ (fun _ => ?_))
      | exact ih0 _ _ _ _ _
      | exact ih1 _ _ _ _ _ _
      | exact LeO.none _
      | refine LeO.ite ?_ ?_
      | refine LeO.bind ?_ (fun _ => ?_)
theorem utf8_decodeRuneInStringSlow.mono : ∀ a0 k, LeO (utf8_decodeRuneInStringSlow.f k a0) (utf8_decodeRuneInStringSlow.f (k + 1) a0) := by
  intro a0 k
  obtain ⟨ih0, ih1⟩ := utf8_decodeRuneInStringSlow.mono_l k
  unfold utf8_decodeRuneInStringSlow.f
  repeat' first
      | (with_reducible exact ih0 _ _ _ _ _)
      | (with_reducible exact ih1 _ _ _ _ _ _)
      | (with_reducible exact LeO.refl _)
      | (with_reducible exact LeO.none _)
      | (with_reducible refine LeO.ite ?_ ?_)
      | (with_reducible refine LeO.bind ?_ (fun _ => ?_))
      | exact ih0 _ _ _ _ _
      | exact ih1 _ _ _ _ _ _
      | exact LeO.none _
      | refine LeO.ite ?_ ?_
      | refine LeO.bind ?_ (fun _ => ?_)
set_option maxHeartbeats 8000000 in
set_option maxRecDepth 100000 in
theorem utf8_decodeRuneInStringSlow.calls (k : Nat) (a0 : ByteArray) (r1 : Int) (r2 : Int) (w : World) (hrG2 : Kd.C (Kd.int .u8) w (some ⟨2, 0, none⟩) tab_utf8_first.length tab_utf8_first) (hrG3 : Kd.C k69 w (some ⟨3, 0, none⟩) tab_utf8_acceptRanges.length tab_utf8_acceptRanges) (h : utf8_decodeRuneInStringSlow.f k a0 = some (r1, r2)) :
    Calls Tryd.prog 59 #[.string a0] w fun e w' => e = .returned (.tuple #[.int .i32 r1, .int .i64 r2]) ∧ Below w.heap.size w w' := by
  have hu69 := Tryd.underlying69
  have HRG2 := Aside0.mk hrG2
  clear hrG2
  have HRG3 := Aside0.mk hrG3
  clear hrG3
  have HB := Aside0.mk (Below.refl w.heap.size w)
  have H : (if (a0.size : Int) < 1 then (some (65533, 0)) else (if 0 < (a0.size : Int) then (if 0 ≤ (bt a0 0) then (if (bt a0 0) < 256 then (if (rd tab_utf8_first (bt a0 0)) ≥ 240 then (some (Go.bits .or .i32 (Go.bits .andNot .i32 (wrap32 (bt a0 0)) ((wrap32 ((wrap32 (rd tab_utf8_first (bt a0 0))) * 2147483648)) / 2147483648)) (Go.bits .and .i32 65533 ((wrap32 ((wrap32 (rd tab_utf8_first (bt a0 0))) * 2147483648)) / 2147483648)), 1)) else (if 0 ≤ ((rd tab_utf8_first (bt a0 0)) / 16) then (if ((rd tab_utf8_first (bt a0 0)) / 16) < 16 then (if (a0.size : Int) < (wrap64 (Go.bits .and .u8 (rd tab_utf8_first (bt a0 0)) 7)) then (some (65533, 1)) else (if 1 < (a0.size : Int) then (if (bt a0 1) < ((rd_T69 tab_utf8_acceptRanges ((rd tab_utf8_first (bt a0 0)) / 16)).f0) then (utf8_decodeRuneInStringSlow.j0 k a0 (bt a0 0) (wrap64 (Go.bits .and .u8 (rd tab_utf8_first (bt a0 0)) 7)) (bt a0 1) true) else (utf8_decodeRuneInStringSlow.j0 k a0 (bt a0 0) (wrap64 (Go.bits .and .u8 (rd tab_utf8_first (bt a0 0)) 7)) (bt a0 1) (decide (((rd_T69 tab_utf8_acceptRanges ((rd tab_utf8_first (bt a0 0)) / 16)).f1) < (bt a0 1))))) else (none))) else (none)) else (none))) else (none)) else (none)) else (none))) = some (r1, r2) := h
  clear h
  by_cases c2 : (a0.size : Int) < 1
  · rw [if_pos c2] at H
    have c2b0 : decide ((a0.size : Int) < 1) = true := decide_eq_true c2
    have c2b1 : decide (a0.size < 1) = true := decide_eq_true (by omega)
    clear c2
    simp only [Option.some.injEq, Prod.mk.injEq] at H
    obtain ⟨rfl, rfl⟩ := H
    go_enter Tryd.func59, Tryd.ntmps59
    go_wp2
    go_ret2
    exact ⟨by first | rfl | (simp [errW_none, errW_some] <;> rfl) | (simp [*, errW_none, errW_some] <;> rfl), by repeat (first | (with_reducible first | exact HB.out | apply below_alloc | apply pw_below_drewN | apply below_drew1) | exact HB.out)⟩
  · rw [if_neg c2] at H
    have c2b0 : decide ((a0.size : Int) < 1) = false := decide_eq_false c2
    have c2b1 : decide (a0.size < 1) = false := decide_eq_false (by omega)
    clear c2
    by_cases c3 : 0 < (a0.size : Int)
    · rw [if_pos c3] at H
      have c3b0 : decide (0 < (a0.size : Int)) = true := decide_eq_true c3
      have c3b1 : decide (0 < a0.size) = true := decide_eq_true (by omega)
      clear c3
      by_cases c5 : 0 ≤ (bt a0 0)
      · rw [if_pos c5] at H
        have c5b0 : decide (0 ≤ (bt a0 0)) = true := decide_eq_true c5
        clear c5
        by_cases c6 : (bt a0 0) < 256
        · rw [if_pos c6] at H
          have c6b0 : decide ((bt a0 0) < 256) = true := decide_eq_true c6
          clear c6
          by_cases c7 : (rd tab_utf8_first (bt a0 0)) ≥ 240
          · rw [if_pos c7] at H
            have c7b0 : decide (240 ≤ (rd tab_utf8_first (bt a0 0))) = true := decide_eq_true c7
            clear c7
            simp only [Option.some.injEq, Prod.mk.injEq] at H
            obtain ⟨rfl, rfl⟩ := H
            have p4 : 0 ≤ (0 : Int) := (by omega)
            have q4 : 0 < a0.size := (by have : (0 : Int) < (a0.size : Int) := of_decide_eq_true (by first | (with_reducible assumption) | assumption); omega)
            have hx4 : ∀ h : 0 < a0.size, ((a0[0]'h).toNat : Int) = bt a0 0 := bt_at a0 0
            clear p4
            have qi4 : (0 < (a0.size : Int)) = True := eq_true (of_decide_eq_true (by first | (with_reducible assumption) | assumption))
            replace q4 := eq_true q4
            have p143 : 0 ≤ ((bt a0 0) : Int) := of_decide_eq_true (by first | (with_reducible assumption) | assumption)
            have q143 : (bt a0 0) < ((tab_utf8_first.length : Nat) : Int) := (by have h_ : ((bt a0 0) : Int) < 256 := of_decide_eq_true (by first | (with_reducible assumption) | assumption); have e_ : tab_utf8_first.length = 256 := rfl; omega)
            have qg143 : (((bt a0 0) : Int) < 256) = True := eq_true (by have e_ : tab_utf8_first.length = 256 := rfl; omega)
            obtain ⟨ad143, e143, hx143_0⟩ := Kd.at_int HRG2.out (bt a0 0) p143 q143
            obtain rfl : (⟨2, 0, none⟩ : Addr) = ad143 := (by injection e143)
            (first | simp only [add_plain] at hx143_0 | simp only [add_at] at hx143_0 | simp only [Addr.add, Nat.zero_add] at hx143_0 | skip)
            replace p143 := eq_true p143
            replace q143 := eq_true q143
            have p8 : 0 ≤ (0 : Int) := (by omega)
            have q8 : 0 < a0.size := (by have : (0 : Int) < (a0.size : Int) := of_decide_eq_true (by first | (with_reducible assumption) | assumption); omega)
            have hx8 : ∀ h : 0 < a0.size, ((a0[0]'h).toNat : Int) = bt a0 0 := bt_at a0 0
            clear p8
            have qi8 : (0 < (a0.size : Int)) = True := eq_true (of_decide_eq_true (by first | (with_reducible assumption) | assumption))
            replace q8 := eq_true q8
            go_enter Tryd.func59, Tryd.ntmps59
            go_wp2
            go_ret2
            exact ⟨by first | rfl | (simp [errW_none, errW_some] <;> rfl) | (simp [*, errW_none, errW_some] <;> rfl), by repeat (first | (with_reducible first | exact HB.out | apply below_alloc | apply pw_below_drewN | apply below_drew1) | exact HB.out)⟩
          · rw [if_neg c7] at H
            have c7b0 : decide (240 ≤ (rd tab_utf8_first (bt a0 0))) = false := decide_eq_false c7
            clear c7
            obtain ⟨ji9, hji9⟩ : ∃ j_ : Int, ((rd tab_utf8_first (bt a0 0)) / 16) = j_ := ⟨_, rfl⟩
            replace H : (if 0 ≤ (ji9) then (if (ji9) < 16 then (if (a0.size : Int) < (wrap64 (Go.bits .and .u8 (rd tab_utf8_first (bt a0 0)) 7)) then (some (65533, 1)) else (if 1 < (a0.size : Int) then (if (bt a0 1) < ((rd_T69 tab_utf8_acceptRanges (ji9)).f0) then (utf8_decodeRuneInStringSlow.j0 k a0 (bt a0 0) (wrap64 (Go.bits .and .u8 (rd tab_utf8_first (bt a0 0)) 7)) (bt a0 1) true) else (utf8_decodeRuneInStringSlow.j0 k a0 (bt a0 0) (wrap64 (Go.bits .and .u8 (rd tab_utf8_first (bt a0 0)) 7)) (bt a0 1) (decide (((rd_T69 tab_utf8_acceptRanges (ji9)).f1) < (bt a0 1))))) else (none))) else (none)) else (none)) = some (r1, r2) := by first | (rw [hji9] at H; exact H) | (simp only [hji9] at H ⊢; exact H)
            by_cases c10 : 0 ≤ (ji9)
            · rw [if_pos c10] at H
              have c10b0 : decide (0 ≤ (ji9)) = true := decide_eq_true c10
              clear c10
              by_cases c11 : (ji9) < 16
              · rw [if_pos c11] at H
                have c11b0 : decide ((ji9) < 16) = true := decide_eq_true c11
                clear c11
                by_cases c12 : (a0.size : Int) < (wrap64 (Go.bits .and .u8 (rd tab_utf8_first (bt a0 0)) 7))
                · rw [if_pos c12] at H
                  have c12b0 : decide ((a0.size : Int) < (wrap64 (Go.bits .and .u8 (rd tab_utf8_first (bt a0 0)) 7))) = true := decide_eq_true c12
                  clear c12
                  simp only [Option.some.injEq, Prod.mk.injEq] at H
                  obtain ⟨rfl, rfl⟩ := H
                  have p4 : 0 ≤ (0 : Int) := (by omega)
                  have q4 : 0 < a0.size := (by have : (0 : Int) < (a0.size : Int) := of_decide_eq_true (by first | (with_reducible assumption) | assumption); omega)
                  have hx4 : ∀ h : 0 < a0.size, ((a0[0]'h).toNat : Int) = bt a0 0 := bt_at a0 0
                  clear p4
                  have qi4 : (0 < (a0.size : Int)) = True := eq_true (of_decide_eq_true (by first | (with_reducible assumption) | assumption))
                  replace q4 := eq_true q4
                  have p143 : 0 ≤ ((bt a0 0) : Int) := of_decide_eq_true (by first | (with_reducible assumption) | assumption)
                  have q143 : (bt a0 0) < ((tab_utf8_first.length : Nat) : Int) := (by have h_ : ((bt a0 0) : Int) < 256 := of_decide_eq_true (by first | (with_reducible assumption) | assumption); have e_ : tab_utf8_first.length = 256 := rfl; omega)
                  have qg143 : (((bt a0 0) : Int) < 256) = True := eq_true (by have e_ : tab_utf8_first.length = 256 := rfl; omega)
                  obtain ⟨ad143, e143, hx143_0⟩ := Kd.at_int HRG2.out (bt a0 0) p143 q143
                  obtain rfl : (⟨2, 0, none⟩ : Addr) = ad143 := (by injection e143)
                  (first | simp only [add_plain] at hx143_0 | simp only [add_at] at hx143_0 | simp only [Addr.add, Nat.zero_add] at hx143_0 | skip)
                  replace p143 := eq_true p143
                  replace q143 := eq_true q143
                  have p144 : 0 ≤ ((ji9) : Int) := of_decide_eq_true (by first | (with_reducible assumption) | assumption)
                  have q144 : (ji9) < ((tab_utf8_acceptRanges.length : Nat) : Int) := (by have h_ : ((ji9) : Int) < 16 := of_decide_eq_true (by first | (with_reducible assumption) | assumption); have e_ : tab_utf8_acceptRanges.length = 16 := rfl; omega)
                  have qg144 : (((ji9) : Int) < 16) = True := eq_true (by have e_ : tab_utf8_acceptRanges.length = 16 := rfl; omega)
                  obtain ⟨ad144, e144, hx144_0, hx144_1⟩ := at_T69 HRG3.out (ji9) p144 q144
                  obtain rfl : (⟨3, 0, none⟩ : Addr) = ad144 := (by injection e144)
                  (first | simp only [add_plain] at hx144_0 | simp only [add_at] at hx144_0 | simp only [Addr.add, Nat.zero_add] at hx144_0 | skip)
                  (first | simp only [add_plain] at hx144_1 | simp only [add_at] at hx144_1 | simp only [Addr.add, Nat.zero_add] at hx144_1 | skip)
                  replace p144 := eq_true p144
                  replace q144 := eq_true q144
                  go_enter Tryd.func59, Tryd.ntmps59
                  go_wp2_with (first | ((with_reducible refine gate_dst (N := 9) rfl ?_); refine box_event ?hg (N := 9) ?hd (cs := #[.int .u8 0, .int .u8 0]) (t := 69) ?hr ?_; (case hd => rfl); (case hg => rfl); (case hr => first | (go_simp; done) | (go_simp; rfl)); intro gb145 hg w13 hbox hb; have n0_ := Aside0.mk (below_step (by repeat (first | (with_reducible first | exact HB.out | apply below_alloc | apply pw_below_drewN | apply below_drew1) | exact HB.out)) hb); have n1_ := Aside0.mk (hbox); have n2_ := Aside0.mk ((by rw [hg]; exact (below_size (by repeat (first | (with_reducible first | exact HB.out | apply below_alloc | apply pw_below_drewN | apply below_drew1) | exact HB.out))) : w.heap.size ≤ gb145)); have n3_ := Aside0.mk ((by rw [hg]; exact (below_size (by repeat (first | (with_reducible first | exact HB.out | apply below_alloc | apply pw_below_drewN | apply below_drew1) | exact HB.out))) : w.heap.size ≤ gb145)); clear HB; have HB := n0_; have BK145 := n1_; have GW145 := n2_; have GE145 := n3_; clear n0_ n1_ n2_ n3_; clear hb hbox hg; have hcz14_0 : w13.cell? ⟨gb145, 0, none⟩ = some (.int .u8 0) := (blk_cell BK145.out 0).trans rfl; have hcz14_1 : w13.cell? ⟨gb145, 1, none⟩ = some (.int .u8 0) := (blk_cell BK145.out 1).trans rfl; have hfz14_0 := blk_frozen BK145.out 0; have hfz14_1 := blk_frozen BK145.out 1))
                  go_ret2
                  exact ⟨by first | rfl | (simp [errW_none, errW_some] <;> rfl) | (simp only [← hji9]; first | rfl | (simp [errW_none, errW_some] <;> rfl)) | (simp [*, errW_none, errW_some] <;> rfl), by repeat (first | (with_reducible first | exact HB.out | apply below_alloc | apply pw_below_drewN | apply below_drew1 | refine below_set ?_ GE145.out) | exact HB.out)⟩
                · rw [if_neg c12] at H
                  have c12b0 : decide ((a0.size : Int) < (wrap64 (Go.bits .and .u8 (rd tab_utf8_first (bt a0 0)) 7))) = false := decide_eq_false c12
                  clear c12
                  by_cases c15 : 1 < (a0.size : Int)
                  · rw [if_pos c15] at H
                    have c15b0 : decide (1 < (a0.size : Int)) = true := decide_eq_true c15
                    have c15b1 : decide (1 < a0.size) = true := decide_eq_true (by omega)
                    clear c15
                    have HC17 := Aside0.mk H
                    clear H
                    have p4 : 0 ≤ (0 : Int) := (by omega)
                    have q4 : 0 < a0.size := (by have : (0 : Int) < (a0.size : Int) := of_decide_eq_true (by first | (with_reducible assumption) | assumption); omega)
                    have hx4 : ∀ h : 0 < a0.size, ((a0[0]'h).toNat : Int) = bt a0 0 := bt_at a0 0
                    clear p4
                    have qi4 : (0 < (a0.size : Int)) = True := eq_true (of_decide_eq_true (by first | (with_reducible assumption) | assumption))
                    replace q4 := eq_true q4
                    have p143 : 0 ≤ ((bt a0 0) : Int) := of_decide_eq_true (by first | (with_reducible assumption) | assumption)
                    have q143 : (bt a0 0) < ((tab_utf8_first.length : Nat) : Int) := (by have h_ : ((bt a0 0) : Int) < 256 := of_decide_eq_true (by first | (with_reducible assumption) | assumption); have e_ : tab_utf8_first.length = 256 := rfl; omega)
                    have qg143 : (((bt a0 0) : Int) < 256) = True := eq_true (by have e_ : tab_utf8_first.length = 256 := rfl; omega)
                    obtain ⟨ad143, e143, hx143_0⟩ := Kd.at_int HRG2.out (bt a0 0) p143 q143
                    obtain rfl : (⟨2, 0, none⟩ : Addr) = ad143 := (by injection e143)
                    (first | simp only [add_plain] at hx143_0 | simp only [add_at] at hx143_0 | simp only [Addr.add, Nat.zero_add] at hx143_0 | skip)
                    replace p143 := eq_true p143
                    replace q143 := eq_true q143
                    have p144 : 0 ≤ ((ji9) : Int) := of_decide_eq_true (by first | (with_reducible assumption) | assumption)
                    have q144 : (ji9) < ((tab_utf8_acceptRanges.length : Nat) : Int) := (by have h_ : ((ji9) : Int) < 16 := of_decide_eq_true (by first | (with_reducible assumption) | assumption); have e_ : tab_utf8_acceptRanges.length = 16 := rfl; omega)
                    have qg144 : (((ji9) : Int) < 16) = True := eq_true (by have e_ : tab_utf8_acceptRanges.length = 16 := rfl; omega)
                    obtain ⟨ad144, e144, hx144_0, hx144_1⟩ := at_T69 HRG3.out (ji9) p144 q144
                    obtain rfl : (⟨3, 0, none⟩ : Addr) = ad144 := (by injection e144)
                    (first | simp only [add_plain] at hx144_0 | simp only [add_at] at hx144_0 | simp only [Addr.add, Nat.zero_add] at hx144_0 | skip)
                    (first | simp only [add_plain] at hx144_1 | simp only [add_at] at hx144_1 | simp only [Addr.add, Nat.zero_add] at hx144_1 | skip)
                    replace p144 := eq_true p144
                    replace q144 := eq_true q144
                    go_enter Tryd.func59, Tryd.ntmps59
                    go_upto_region 14 with (first | ((with_reducible refine gate_dst (N := 9) rfl ?_); refine box_event ?hg (N := 9) ?hd (cs := #[.int .u8 0, .int .u8 0]) (t := 69) ?hr ?_; (case hd => rfl); (case hg => rfl); (case hr => first | (go_simp; done) | (go_simp; rfl)); intro gb145 hg w18 hbox hb; have n0_ := Aside0.mk (below_step (by repeat (first | (with_reducible first | exact HB.out | apply below_alloc | apply pw_below_drewN | apply below_drew1) | exact HB.out)) hb); have n1_ := Aside0.mk (hbox); have n2_ := Aside0.mk ((by rw [hg]; exact (below_size (by repeat (first | (with_reducible first | exact HB.out | apply below_alloc | apply pw_below_drewN | apply below_drew1) | exact HB.out))) : w.heap.size ≤ gb145)); have n3_ := Aside0.mk ((by rw [hg]; exact (below_size (by repeat (first | (with_reducible first | exact HB.out | apply below_alloc | apply pw_below_drewN | apply below_drew1) | exact HB.out))) : w.heap.size ≤ gb145)); clear HB; have HB := n0_; have BK145 := n1_; have GW145 := n2_; have GE145 := n3_; clear n0_ n1_ n2_ n3_; clear hb hbox hg; have hcz19_0 : w18.cell? ⟨gb145, 0, none⟩ = some (.int .u8 0) := (blk_cell BK145.out 0).trans rfl; have hcz19_1 : w18.cell? ⟨gb145, 1, none⟩ = some (.int .u8 0) := (blk_cell BK145.out 1).trans rfl; have hfz19_0 := blk_frozen BK145.out 0; have hfz19_1 := blk_frozen BK145.out 1; have p16 : 0 ≤ (1 : Int) := (by omega); have q16 : 1 < a0.size := (by have : (1 : Int) < (a0.size : Int) := of_decide_eq_true (by first | (with_reducible assumption) | assumption); omega); have hx16 : ∀ h : 1 < a0.size, ((a0[1]'h).toNat : Int) = bt a0 1 := bt_at a0 1; clear p16; have qi16 : (1 < (a0.size : Int)) = True := eq_true (of_decide_eq_true (by first | (with_reducible assumption) | assumption)); replace q16 := eq_true q16))
                    (try simp only [Act.put, List.setIfInBounds_toArray, List.set_cons_zero, List.set_cons_succ])
                    go_cut [57] (fun v57 wc => ∃ (kq : Nat) (x57_16 : Bool), v57 = .bool x57_16 ∧ Aside0 (utf8_decodeRuneInStringSlow.j0 kq a0 (bt a0 0) (wrap64 (Go.bits .and .u8 (rd tab_utf8_first (bt a0 0)) 7)) (bt a0 1) x57_16 = some (r1, r2)) ∧ Aside0 (kq ≤ k) ∧ Aside0 (wc.heap[gb145]? = some (.cells #[.int .u8 ((rd_T69 tab_utf8_acceptRanges (ji9)).f0), .int .u8 ((rd_T69 tab_utf8_acceptRanges (ji9)).f1)] 69 (0, 0))) ∧ Aside0 (Below w.heap.size w wc))
                    case first =>
                      have H := HC17.out
                      clear HC17
                      by_cases c20 : (bt a0 1) < ((rd_T69 tab_utf8_acceptRanges (ji9)).f0)
                      · rw [if_pos c20] at H
                        have c20b0 : decide ((bt a0 1) < ((rd_T69 tab_utf8_acceptRanges (ji9)).f0)) = true := decide_eq_true c20
                        clear c20
                        (first | rw [c20b0] | (simp only [i64_w, i32_w]; rw [c20b0]) | skip)
                        have H' := Aside0.mk H
                        clear H
                        have hcz21_0 : w18.cell? ⟨gb145, 0, none⟩ = some (.int .u8 0) := (blk_cell BK145.out 0).trans rfl
                        have hcz21_1 : w18.cell? ⟨gb145, 1, none⟩ = some (.int .u8 0) := (blk_cell BK145.out 1).trans rfl
                        have hfz21_0 := blk_frozen BK145.out 0
                        have hfz21_1 := blk_frozen BK145.out 1
                        go_wp2
                        go_meet
                        case rel => exact ⟨_, (true), (by first | rfl | (simp; done) | (simp [*]; done)), H', ⟨by first | omega | exact Nat.le_refl _⟩, ⟨by (with_reducible repeat (first | refine blk_drewN ?_ _ | refine blk_drew ?_ | refine blk_alloc ?_ _)); refine blk_put (cs := #[.int .u8 ((rd_T69 tab_utf8_acceptRanges (ji9)).f0), .int .u8 0]) ?_ 1 _ rfl; (with_reducible repeat (first | refine blk_drewN ?_ _ | refine blk_drew ?_ | refine blk_alloc ?_ _)); refine blk_put (cs := #[.int .u8 0, .int .u8 0]) ?_ 0 _ rfl; (with_reducible repeat (first | refine blk_drewN ?_ _ | refine blk_drew ?_ | refine blk_alloc ?_ _)); exact BK145.out⟩, ⟨by repeat (first | (with_reducible first | exact HB.out | apply below_alloc | apply pw_below_drewN | apply below_drew1 | refine below_set ?_ GE145.out) | exact HB.out)⟩⟩
                      · rw [if_neg c20] at H
                        have c20b0 : decide ((bt a0 1) < ((rd_T69 tab_utf8_acceptRanges (ji9)).f0)) = false := decide_eq_false c20
                        clear c20
                        (first | rw [c20b0] | (simp only [i64_w, i32_w]; rw [c20b0]) | skip)
                        have H' := Aside0.mk H
                        clear H
                        have hcz22_0 : w18.cell? ⟨gb145, 0, none⟩ = some (.int .u8 0) := (blk_cell BK145.out 0).trans rfl
                        have hcz22_1 : w18.cell? ⟨gb145, 1, none⟩ = some (.int .u8 0) := (blk_cell BK145.out 1).trans rfl
                        have hfz22_0 := blk_frozen BK145.out 0
                        have hfz22_1 := blk_frozen BK145.out 1
                        go_wp2
                        go_meet
                        case rel => exact ⟨_, (decide (((rd_T69 tab_utf8_acceptRanges (ji9)).f1) < (bt a0 1))), (by first | rfl | (simp; done) | (simp only [← hji9] <;> (first | rfl | simp)) | (simp [*]; done)), H', ⟨by first | omega | exact Nat.le_refl _⟩, ⟨by (with_reducible repeat (first | refine blk_drewN ?_ _ | refine blk_drew ?_ | refine blk_alloc ?_ _)); refine blk_put (cs := #[.int .u8 ((rd_T69 tab_utf8_acceptRanges (ji9)).f0), .int .u8 0]) ?_ 1 _ rfl; (with_reducible repeat (first | refine blk_drewN ?_ _ | refine blk_drew ?_ | refine blk_alloc ?_ _)); refine blk_put (cs := #[.int .u8 0, .int .u8 0]) ?_ 0 _ rfl; (with_reducible repeat (first | refine blk_drewN ?_ _ | refine blk_drew ?_ | refine blk_alloc ?_ _)); exact BK145.out⟩, ⟨by repeat (first | (with_reducible first | exact HB.out | apply below_alloc | apply pw_below_drewN | apply below_drew1 | refine below_set ?_ GE145.out) | exact HB.out)⟩⟩
                    case rest =>
                      clear HC17
                      try clear c1
                      try clear p1
                      try clear q1
                      try clear hx1
                      try clear qi1
                      try clear c2
                      try clear c2b0
                      try clear c2b1
                      try clear p2
                      try clear c3
                      try clear c3b0
                      try clear c3b1
                      try clear p3
                      try clear p4
                      try clear q4
                      try clear hx4
                      try clear qi4
                      try clear c5
                      try clear c5b0
                      try clear c6
                      try clear c6b0
                      try clear p6
                      try clear c7
                      try clear c7b0
                      try clear p8
                      try clear q8
                      try clear hx8
                      try clear qi8
                      try clear c10
                      try clear c10b0
                      try clear c11
                      try clear c11b0
                      try clear c12
                      try clear c12b0
                      try clear p14
                      try clear q14
                      try clear hx14
                      try clear c15
                      try clear c15b0
                      try clear c15b1
                      try clear p16
                      try clear q16
                      try clear hx16
                      try clear qi16
                      try clear c20
                      try clear c20b0
                      try clear hcz14_0
                      try clear hcz14_1
                      try clear hcz19_0
                      try clear hcz19_1
                      try clear hcz21_0
                      try clear hcz21_1
                      try clear hcz22_0
                      try clear hcz22_1
                      try clear hfz14_0
                      try clear hfz14_1
                      try clear hfz19_0
                      try clear hfz19_1
                      try clear hfz21_0
                      try clear hfz21_1
                      try clear hfz22_0
                      try clear hfz22_1
                      try clear hx143_0
                      try clear hx144_0
                      try clear hx144_1
                      try clear p143
                      try clear p144
                      try clear p16
                      try clear p4
                      try clear p8
                      try clear q143
                      try clear q144
                      try clear q16
                      try clear q4
                      try clear q8
                      obtain ⟨kq, x57_16, rfl, HA, HJ16, BK145, HB⟩ := hcut
                      cases kq with
                      | zero => exact absurd HA.out (by simp [utf8_decodeRuneInStringSlow.j0])
                      | succ kj16 =>
                        have H := HA.out
                        clear HA
                        simp only [utf8_decodeRuneInStringSlow.j0] at H
                        by_cases c23 : x57_16 = true
                        · subst c23
                          have H1 : (some (65533, 1)) = some (r1, r2) := by rw [if_pos rfl] at H; exact H
                          clear H
                          have H := H1
                          clear H1
                          simp only [Option.some.injEq, Prod.mk.injEq] at H
                          obtain ⟨rfl, rfl⟩ := H
                          go_wp2
                          go_ret2
                          exact ⟨by first | rfl | (simp [errW_none, errW_some] <;> rfl) | (simp only [← hji9]; first | rfl | (simp [errW_none, errW_some] <;> rfl)) | (simp [*, errW_none, errW_some] <;> rfl), by repeat (first | (with_reducible first | exact HB.out | apply below_alloc | apply pw_below_drewN | apply below_drew1 | refine below_set ?_ GE145.out) | exact HB.out)⟩
                        · replace c23 := Bool.eq_false_iff.mpr c23
                          subst c23
                          have H1 : (if (wrap64 (Go.bits .and .u8 (rd tab_utf8_first (bt a0 0)) 7)) ≤ 2 then (some (Go.bits .or .i32 (wrap32 ((wrap32 (Go.bits .and .u8 (bt a0 0) 31)) * 64)) (wrap32 (Go.bits .and .u8 (bt a0 1) 63)), 2)) else (if 2 < (a0.size : Int) then (if (bt a0 2) < 128 then (utf8_decodeRuneInStringSlow.j1 kj16 a0 (bt a0 0) (wrap64 (Go.bits .and .u8 (rd tab_utf8_first (bt a0 0)) 7)) (bt a0 1) (bt a0 2) true) else (utf8_decodeRuneInStringSlow.j1 kj16 a0 (bt a0 0) (wrap64 (Go.bits .and .u8 (rd tab_utf8_first (bt a0 0)) 7)) (bt a0 1) (bt a0 2) (decide (191 < (bt a0 2))))) else (none))) = some (r1, r2) := by rw [if_neg (show ¬ (false = true) by decide)] at H; exact H
                          clear H
                          have H := H1
                          clear H1
                          by_cases c24 : (wrap64 (Go.bits .and .u8 (rd tab_utf8_first (bt a0 0)) 7)) ≤ 2
                          · rw [if_pos c24] at H
                            have c24b0 : decide ((wrap64 (Go.bits .and .u8 (rd tab_utf8_first (bt a0 0)) 7)) ≤ 2) = true := decide_eq_true c24
                            clear c24
                            simp only [Option.some.injEq, Prod.mk.injEq] at H
                            obtain ⟨rfl, rfl⟩ := H
                            go_wp2
                            go_ret2
                            exact ⟨by first | rfl | (simp [errW_none, errW_some] <;> rfl) | (simp only [← hji9]; first | rfl | (simp [errW_none, errW_some] <;> rfl)) | (simp [*, errW_none, errW_some] <;> rfl), by repeat (first | (with_reducible first | exact HB.out | apply below_alloc | apply pw_below_drewN | apply below_drew1 | refine below_set ?_ GE145.out) | exact HB.out)⟩
                          · rw [if_neg c24] at H
                            have c24b0 : decide ((wrap64 (Go.bits .and .u8 (rd tab_utf8_first (bt a0 0)) 7)) ≤ 2) = false := decide_eq_false c24
                            clear c24
                            by_cases c25 : 2 < (a0.size : Int)
                            · rw [if_pos c25] at H
                              have c25b0 : decide (2 < (a0.size : Int)) = true := decide_eq_true c25
                              have c25b1 : decide (2 < a0.size) = true := decide_eq_true (by omega)
                              clear c25
                              have HC27 := Aside0.mk H
                              clear H
                              have p26 : 0 ≤ (2 : Int) := (by omega)
                              have q26 : 2 < a0.size := (by have : (2 : Int) < (a0.size : Int) := of_decide_eq_true (by first | (with_reducible assumption) | assumption); omega)
                              have hx26 : ∀ h : 2 < a0.size, ((a0[2]'h).toNat : Int) = bt a0 2 := bt_at a0 2
                              clear p26
                              have qi26 : (2 < (a0.size : Int)) = True := eq_true (of_decide_eq_true (by first | (with_reducible assumption) | assumption))
                              replace q26 := eq_true q26
                              go_upto_region 19 with (fail)
                              go_cut [75] (fun v75 wc => ∃ (kq : Nat) (x75_26 : Bool), v75 = .bool x75_26 ∧ Aside0 (utf8_decodeRuneInStringSlow.j1 kq a0 (bt a0 0) (wrap64 (Go.bits .and .u8 (rd tab_utf8_first (bt a0 0)) 7)) (bt a0 1) (bt a0 2) x75_26 = some (r1, r2)) ∧ Aside0 (kq ≤ kj16) ∧ Aside0 (wc.heap[gb145]? = some (.cells #[.int .u8 ((rd_T69 tab_utf8_acceptRanges (ji9)).f0), .int .u8 ((rd_T69 tab_utf8_acceptRanges (ji9)).f1)] 69 (0, 0))) ∧ Aside0 (Below w.heap.size w wc))
                              case first =>
                                have H := HC27.out
                                clear HC27
                                by_cases c28 : (bt a0 2) < 128
                                · rw [if_pos c28] at H
                                  have c28b0 : decide ((bt a0 2) < 128) = true := decide_eq_true c28
                                  clear c28
                                  (first | rw [c28b0] | (simp only [i64_w, i32_w]; rw [c28b0]) | skip)
                                  have H' := Aside0.mk H
                                  clear H
                                  go_wp2
                                  go_meet
                                  case rel => exact ⟨_, (true), (by first | rfl | (simp; done) | (simp [*]; done)), H', ⟨by have := HJ16.out; first | omega | exact Nat.le_refl _⟩, ⟨by (with_reducible repeat (first | refine blk_drewN ?_ _ | refine blk_drew ?_ | refine blk_alloc ?_ _)); exact BK145.out⟩, ⟨by repeat (first | (with_reducible first | exact HB.out | apply below_alloc | apply pw_below_drewN | apply below_drew1 | refine below_set ?_ GE145.out) | exact HB.out)⟩⟩
                                · rw [if_neg c28] at H
                                  have c28b0 : decide ((bt a0 2) < 128) = false := decide_eq_false c28
                                  clear c28
                                  (first | rw [c28b0] | (simp only [i64_w, i32_w]; rw [c28b0]) | skip)
                                  have H' := Aside0.mk H
                                  clear H
                                  go_wp2
                                  go_meet
                                  case rel => exact ⟨_, (decide (191 < (bt a0 2))), (by first | rfl | (simp; done) | (simp [*]; done)), H', ⟨by have := HJ16.out; first | omega | exact Nat.le_refl _⟩, ⟨by (with_reducible repeat (first | refine blk_drewN ?_ _ | refine blk_drew ?_ | refine blk_alloc ?_ _)); exact BK145.out⟩, ⟨by repeat (first | (with_reducible first | exact HB.out | apply below_alloc | apply pw_below_drewN | apply below_drew1 | refine below_set ?_ GE145.out) | exact HB.out)⟩⟩
                              case rest =>
                                clear HC27
                                try clear c1
                                try clear p1
                                try clear q1
                                try clear hx1
                                try clear qi1
                                try clear c2
                                try clear c2b0
                                try clear c2b1
                                try clear p2
                                try clear q2
                                try clear hx2
                                try clear qi2
                                try clear c3
                                try clear c3b0
                                try clear c3b1
                                try clear p3
                                try clear p4
                                try clear q4
                                try clear hx4
                                try clear qi4
                                try clear c5
                                try clear c5b0
                                try clear c6
                                try clear c6b0
                                try clear p6
                                try clear c7
                                try clear c7b0
                                try clear p8
                                try clear q8
                                try clear hx8
                                try clear qi8
                                try clear c10
                                try clear c10b0
                                try clear c11
                                try clear c11b0
                                try clear c12
                                try clear c12b0
                                try clear p14
                                try clear q14
                                try clear hx14
                                try clear c15
                                try clear c15b0
                                try clear c15b1
                                try clear p16
                                try clear q16
                                try clear hx16
                                try clear qi16
                                try clear c20
                                try clear c20b0
                                try clear c23
                                try clear c24
                                try clear c24b0
                                try clear c25
                                try clear c25b0
                                try clear c25b1
                                try clear p26
                                try clear q26
                                try clear hx26
                                try clear qi26
                                try clear c28
                                try clear c28b0
                                try clear hcz14_0
                                try clear hcz14_1
                                try clear hcz19_0
                                try clear hcz19_1
                                try clear hcz21_0
                                try clear hcz21_1
                                try clear hcz22_0
                                try clear hcz22_1
                                try clear hfz14_0
                                try clear hfz14_1
                                try clear hfz19_0
                                try clear hfz19_1
                                try clear hfz21_0
                                try clear hfz21_1
                                try clear hfz22_0
                                try clear hfz22_1
                                try clear hx143_0
                                try clear hx144_0
                                try clear hx144_1
                                try clear p1
                                try clear p14
                                try clear p143
                                try clear p144
                                try clear p16
                                try clear p2
                                try clear p26
                                try clear p3
                                try clear p4
                                try clear p6
                                try clear p8
                                try clear q1
                                try clear q14
                                try clear q143
                                try clear q144
                                try clear q16
                                try clear q26
                                try clear q4
                                try clear q8
                                obtain ⟨kq, x75_26, rfl, HA, HJ26, BK145, HB⟩ := hcut
                                cases kq with
                                | zero => exact absurd HA.out (by simp [utf8_decodeRuneInStringSlow.j1])
                                | succ kj26 =>
                                  have H := HA.out
                                  clear HA
                                  simp only [utf8_decodeRuneInStringSlow.j1] at H
                                  by_cases c29 : x75_26 = true
                                  · subst c29
                                    have H1 : (some (65533, 1)) = some (r1, r2) := by rw [if_pos rfl] at H; exact H
                                    clear H
                                    have H := H1
                                    clear H1
                                    simp only [Option.some.injEq, Prod.mk.injEq] at H
                                    obtain ⟨rfl, rfl⟩ := H
                                    go_wp2
                                    go_ret2
                                    exact ⟨by first | rfl | (simp [errW_none, errW_some] <;> rfl) | (simp only [← hji9]; first | rfl | (simp [errW_none, errW_some] <;> rfl)) | (simp [*, errW_none, errW_some] <;> rfl), by repeat (first | (with_reducible first | exact HB.out | apply below_alloc | apply pw_below_drewN | apply below_drew1 | refine below_set ?_ GE145.out) | exact HB.out)⟩
                                  · replace c29 := Bool.eq_false_iff.mpr c29
                                    subst c29
                                    have H1 : (if (wrap64 (Go.bits .and .u8 (rd tab_utf8_first (bt a0 0)) 7)) ≤ 3 then (some (Go.bits .or .i32 (Go.bits .or .i32 (wrap32 ((wrap32 (Go.bits .and .u8 (bt a0 0) 15)) * 4096)) (wrap32 ((wrap32 (Go.bits .and .u8 (bt a0 1) 63)) * 64))) (wrap32 (Go.bits .and .u8 (bt a0 2) 63)), 3)) else (if 3 < (a0.size : Int) then (if (bt a0 3) < 128 then (some (65533, 1)) else (if 191 < (bt a0 3) then (some (65533, 1)) else (some (Go.bits .or .i32 (Go.bits .or .i32 (Go.bits .or .i32 (wrap32 ((wrap32 (Go.bits .and .u8 (bt a0 0) 7)) * 262144)) (wrap32 ((wrap32 (Go.bits .and .u8 (bt a0 1) 63)) * 4096))) (wrap32 ((wrap32 (Go.bits .and .u8 (bt a0 2) 63)) * 64))) (wrap32 (Go.bits .and .u8 (bt a0 3) 63)), 4)))) else (none))) = some (r1, r2) := by rw [if_neg (show ¬ (false = true) by decide)] at H; exact H
                                    clear H
                                    have H := H1
                                    clear H1
                                    by_cases c30 : (wrap64 (Go.bits .and .u8 (rd tab_utf8_first (bt a0 0)) 7)) ≤ 3
                                    · rw [if_pos c30] at H
                                      have c30b0 : decide ((wrap64 (Go.bits .and .u8 (rd tab_utf8_first (bt a0 0)) 7)) ≤ 3) = true := decide_eq_true c30
                                      clear c30
                                      simp only [Option.some.injEq, Prod.mk.injEq] at H
                                      obtain ⟨rfl, rfl⟩ := H
                                      go_wp2
                                      go_ret2
                                      exact ⟨by first | rfl | (simp [errW_none, errW_some] <;> rfl) | (simp only [← hji9]; first | rfl | (simp [errW_none, errW_some] <;> rfl)) | (simp [*, errW_none, errW_some] <;> rfl), by repeat (first | (with_reducible first | exact HB.out | apply below_alloc | apply pw_below_drewN | apply below_drew1 | refine below_set ?_ GE145.out) | exact HB.out)⟩
                                    · rw [if_neg c30] at H
                                      have c30b0 : decide ((wrap64 (Go.bits .and .u8 (rd tab_utf8_first (bt a0 0)) 7)) ≤ 3) = false := decide_eq_false c30
                                      clear c30
                                      by_cases c31 : 3 < (a0.size : Int)
                                      · rw [if_pos c31] at H
                                        have c31b0 : decide (3 < (a0.size : Int)) = true := decide_eq_true c31
                                        have c31b1 : decide (3 < a0.size) = true := decide_eq_true (by omega)
                                        clear c31
                                        by_cases c33 : (bt a0 3) < 128
                                        · rw [if_pos c33] at H
                                          have c33b0 : decide ((bt a0 3) < 128) = true := decide_eq_true c33
                                          clear c33
                                          simp only [Option.some.injEq, Prod.mk.injEq] at H
                                          obtain ⟨rfl, rfl⟩ := H
                                          have p32 : 0 ≤ (3 : Int) := (by omega)
                                          have q32 : 3 < a0.size := (by have : (3 : Int) < (a0.size : Int) := of_decide_eq_true (by first | (with_reducible assumption) | assumption); omega)
                                          have hx32 : ∀ h : 3 < a0.size, ((a0[3]'h).toNat : Int) = bt a0 3 := bt_at a0 3
                                          clear p32
                                          have qi32 : (3 < (a0.size : Int)) = True := eq_true (of_decide_eq_true (by first | (with_reducible assumption) | assumption))
                                          replace q32 := eq_true q32
                                          go_wp2
                                          go_ret2
                                          exact ⟨by first | rfl | (simp [errW_none, errW_some] <;> rfl) | (simp only [← hji9]; first | rfl | (simp [errW_none, errW_some] <;> rfl)) | (simp [*, errW_none, errW_some] <;> rfl), by repeat (first | (with_reducible first | exact HB.out | apply below_alloc | apply pw_below_drewN | apply below_drew1 | refine below_set ?_ GE145.out) | exact HB.out)⟩
                                        · rw [if_neg c33] at H
                                          have c33b0 : decide ((bt a0 3) < 128) = false := decide_eq_false c33
                                          clear c33
                                          by_cases c34 : 191 < (bt a0 3)
                                          · rw [if_pos c34] at H
                                            have c34b0 : decide (191 < (bt a0 3)) = true := decide_eq_true c34
                                            clear c34
                                            simp only [Option.some.injEq, Prod.mk.injEq] at H
                                            obtain ⟨rfl, rfl⟩ := H
                                            have p32 : 0 ≤ (3 : Int) := (by omega)
                                            have q32 : 3 < a0.size := (by have : (3 : Int) < (a0.size : Int) := of_decide_eq_true (by first | (with_reducible assumption) | assumption); omega)
                                            have hx32 : ∀ h : 3 < a0.size, ((a0[3]'h).toNat : Int) = bt a0 3 := bt_at a0 3
                                            clear p32
                                            have qi32 : (3 < (a0.size : Int)) = True := eq_true (of_decide_eq_true (by first | (with_reducible assumption) | assumption))
                                            replace q32 := eq_true q32
                                            go_wp2
                                            go_ret2
                                            exact ⟨by first | rfl | (simp [errW_none, errW_some] <;> rfl) | (simp only [← hji9]; first | rfl | (simp [errW_none, errW_some] <;> rfl)) | (simp [*, errW_none, errW_some] <;> rfl), by repeat (first | (with_reducible first | exact HB.out | apply below_alloc | apply pw_below_drewN | apply below_drew1 | refine below_set ?_ GE145.out) | exact HB.out)⟩
                                          · rw [if_neg c34] at H
                                            have c34b0 : decide (191 < (bt a0 3)) = false := decide_eq_false c34
                                            clear c34
                                            simp only [Option.some.injEq, Prod.mk.injEq] at H
                                            obtain ⟨rfl, rfl⟩ := H
                                            have p32 : 0 ≤ (3 : Int) := (by omega)
                                            have q32 : 3 < a0.size := (by have : (3 : Int) < (a0.size : Int) := of_decide_eq_true (by first | (with_reducible assumption) | assumption); omega)
                                            have hx32 : ∀ h : 3 < a0.size, ((a0[3]'h).toNat : Int) = bt a0 3 := bt_at a0 3
                                            clear p32
                                            have qi32 : (3 < (a0.size : Int)) = True := eq_true (of_decide_eq_true (by first | (with_reducible assumption) | assumption))
                                            replace q32 := eq_true q32
                                            go_wp2
                                            go_ret2
                                            exact ⟨by first | rfl | (simp [errW_none, errW_some] <;> rfl) | (simp only [← hji9]; first | rfl | (simp [errW_none, errW_some] <;> rfl)) | (simp [*, errW_none, errW_some] <;> rfl), by repeat (first | (with_reducible first | exact HB.out | apply below_alloc | apply pw_below_drewN | apply below_drew1 | refine below_set ?_ GE145.out) | exact HB.out)⟩
                                      · rw [if_neg c31] at H
                                        exact absurd H (by simp)
                            · rw [if_neg c25] at H
                              exact absurd H (by simp)
                  · rw [if_neg c15] at H
                    exact absurd H (by simp)
              · rw [if_neg c11] at H
                exact absurd H (by simp)
            · rw [if_neg c10] at H
              exact absurd H (by simp)
        · rw [if_neg c6] at H
          exact absurd H (by simp)
      · rw [if_neg c5] at H
        exact absurd H (by simp)
    · rw [if_neg c3] at H
      exact absurd H (by simp)

/-! ### utf8_DecodeRuneInString: function 55 -/
def utf8_DecodeRuneInString.f (k : Nat) (a0 : ByteArray) : Option (Int × Int) := if a0.toList = ([] : List UInt8) then ((utf8_decodeRuneInStringSlow.f k a0).bind fun bt146 => (some (bt146.1, bt146.2))) else (if 0 < (a0.size : Int) then (if (bt a0 0) < 128 then (some (wrap32 (bt a0 0), 1)) else ((utf8_decodeRuneInStringSlow.f k a0).bind fun bt148 => (some (bt148.1, bt148.2)))) else (none))
theorem utf8_DecodeRuneInString.mono : ∀ a0 k, LeO (utf8_DecodeRuneInString.f k a0) (utf8_DecodeRuneInString.f (k + 1) a0) := by
  intro a0 k
  unfold utf8_DecodeRuneInString.f
  repeat' first
      | (with_reducible exact utf8_decodeRuneInStringSlow.mono _ _)
      | (with_reducible exact LeO.refl _)
      | (with_reducible exact LeO.none _)
      | (with_reducible refine LeO.ite ?_ ?_)
      | (with_reducible refine LeO.bind ?_ (fun _ => ?_))
      | exact utf8_decodeRuneInStringSlow.mono _ _
      | exact LeO.none _
      | refine LeO.ite ?_ ?_
      | refine LeO.bind ?_ (fun _ => ?_)
set_option maxHeartbeats 8000000 in
set_option maxRecDepth 100000 in
theorem utf8_DecodeRuneInString.calls (k : Nat) (a0 : ByteArray) (r1 : Int) (r2 : Int) (w : World) (hrG2 : Kd.C (Kd.int .u8) w (some ⟨2, 0, none⟩) tab_utf8_first.length tab_utf8_first) (hrG3 : Kd.C k69 w (some ⟨3, 0, none⟩) tab_utf8_acceptRanges.length tab_utf8_acceptRanges) (h : utf8_DecodeRuneInString.f k a0 = some (r1, r2)) :
    Calls Tryd.prog 55 #[.string a0] w fun e w' => e = .returned (.tuple #[.int .i32 r1, .int .i64 r2]) ∧ Below w.heap.size w w' := by
  have HRG2 := Aside0.mk hrG2
  clear hrG2
  have HRG3 := Aside0.mk hrG3
  clear hrG3
  have HB := Aside0.mk (Below.refl w.heap.size w)
  have H : (if a0.toList = ([] : List UInt8) then ((utf8_decodeRuneInStringSlow.f k a0).bind fun bt146 => (some (bt146.1, bt146.2))) else (if 0 < (a0.size : Int) then (if (bt a0 0) < 128 then (some (wrap32 (bt a0 0), 1)) else ((utf8_decodeRuneInStringSlow.f k a0).bind fun bt148 => (some (bt148.1, bt148.2)))) else (none))) = some (r1, r2) := h
  clear h
  by_cases c2 : a0.toList = ([] : List UInt8)
  · rw [if_pos c2] at H
    have c2b0 : (a0.toList == ([] : List UInt8)) = true := beq_iff_eq.mpr c2
    have c2b1 : (a0.toList != ([] : List UInt8)) = false := bne_eq_false_iff_eq.mpr c2
    clear c2
    replace H := Option.bind_eq_some_iff.mp H
    obtain ⟨⟨t146, t147⟩, A30, H⟩ := H
    replace H : (some (t146, t147)) = some (r1, r2) := H
    have A3 := Aside0.mk A30
    clear A30
    simp only [Option.some.injEq, Prod.mk.injEq] at H
    obtain ⟨rfl, rfl⟩ := H
    go_enter Tryd.func55, Tryd.ntmps55
    go_wp2_with (first | ((with_reducible refine gate_callee (f := 59) rfl ?_); refine goesL_ (some 16) rfl rfl Tryd.func59 (by kernel_rfl) rfl #[.string a0] rfl (by (try simp only [List.map_toArray, List.map_cons, List.map_nil]); first | done | rfl | (simp only [List.length_drop, List.length_take]; rfl)) ?_; (with_reducible refine (utf8_decodeRuneInStringSlow.calls k a0 t146 t147 _ ?side1 ?side2 A3.out).mono ?_); (case side1 => repeat (first | exact HRG2.out | (with_reducible refine Kd.C_alloc ?_ _) | (with_reducible refine Kd.C_drewN ?_ _) | (with_reducible refine Kd.C_drew ?_))); (case side2 => repeat (first | exact HRG3.out | (with_reducible refine Kd.C_alloc ?_ _) | (with_reducible refine Kd.C_drewN ?_ _) | (with_reducible refine Kd.C_drew ?_))); rintro e w4 ⟨rfl, hb⟩; refine ⟨_, rfl, ?_⟩; have n0_ := Aside0.mk (below_step (by repeat (first | (with_reducible first | exact HB.out | apply below_alloc | apply pw_below_drewN | apply below_drew1) | exact HB.out)) hb); clear HB; have HB := n0_; clear n0_; (try clear hb); (try clear hb2); (try clear hk); (try clear hi)))
    go_ret2
    exact ⟨by first | rfl | (simp [errW_none, errW_some] <;> rfl) | (simp [*, errW_none, errW_some] <;> rfl), by repeat (first | (with_reducible first | exact HB.out | apply below_alloc | apply pw_below_drewN | apply below_drew1) | exact HB.out)⟩
  · rw [if_neg c2] at H
    have c2b0 : (a0.toList == ([] : List UInt8)) = false := beq_eq_false_iff_ne.mpr c2
    have c2b1 : (a0.toList != ([] : List UInt8)) = true := bne_iff_ne.mpr c2
    by_cases c5 : 0 < (a0.size : Int)
    · rw [if_pos c5] at H
      have c5b0 : decide (0 < (a0.size : Int)) = true := decide_eq_true c5
      have c5b1 : decide (0 < a0.size) = true := decide_eq_true (by omega)
      clear c5
      by_cases c7 : (bt a0 0) < 128
      · rw [if_pos c7] at H
        have c7b0 : decide ((bt a0 0) < 128) = true := decide_eq_true c7
        clear c7
        simp only [Option.some.injEq, Prod.mk.injEq] at H
        obtain ⟨rfl, rfl⟩ := H
        have p6 : 0 ≤ (0 : Int) := (by omega)
        have q6 : 0 < a0.size := (by have : (0 : Int) < (a0.size : Int) := of_decide_eq_true (by first | (with_reducible assumption) | assumption); omega)
        have hx6 : ∀ h : 0 < a0.size, ((a0[0]'h).toNat : Int) = bt a0 0 := bt_at a0 0
        clear p6
        have qi6 : (0 < (a0.size : Int)) = True := eq_true (of_decide_eq_true (by first | (with_reducible assumption) | assumption))
        replace q6 := eq_true q6
        have p8 : 0 ≤ (0 : Int) := (by omega)
        have q8 : 0 < a0.size := (by have : (0 : Int) < (a0.size : Int) := of_decide_eq_true (by first | (with_reducible assumption) | assumption); omega)
        have hx8 : ∀ h : 0 < a0.size, ((a0[0]'h).toNat : Int) = bt a0 0 := bt_at a0 0
        clear p8
        have qi8 : (0 < (a0.size : Int)) = True := eq_true (of_decide_eq_true (by first | (with_reducible assumption) | assumption))
        replace q8 := eq_true q8
        go_enter Tryd.func55, Tryd.ntmps55
        go_wp2
        go_ret2
        exact ⟨by first | rfl | (simp [errW_none, errW_some] <;> rfl) | (simp [*, errW_none, errW_some] <;> rfl), by repeat (first | (with_reducible first | exact HB.out | apply below_alloc | apply pw_below_drewN | apply below_drew1) | exact HB.out)⟩
      · rw [if_neg c7] at H
        have c7b0 : decide ((bt a0 0) < 128) = false := decide_eq_false c7
        clear c7
        replace H := Option.bind_eq_some_iff.mp H
        obtain ⟨⟨t148, t149⟩, A90, H⟩ := H
        replace H : (some (t148, t149)) = some (r1, r2) := H
        have A9 := Aside0.mk A90
        clear A90
        simp only [Option.some.injEq, Prod.mk.injEq] at H
        obtain ⟨rfl, rfl⟩ := H
        have p6 : 0 ≤ (0 : Int) := (by omega)
        have q6 : 0 < a0.size := (by have : (0 : Int) < (a0.size : Int) := of_decide_eq_true (by first | (with_reducible assumption) | assumption); omega)
        have hx6 : ∀ h : 0 < a0.size, ((a0[0]'h).toNat : Int) = bt a0 0 := bt_at a0 0
        clear p6
        have qi6 : (0 < (a0.size : Int)) = True := eq_true (of_decide_eq_true (by first | (with_reducible assumption) | assumption))
        replace q6 := eq_true q6
        go_enter Tryd.func55, Tryd.ntmps55
        go_wp2_with (first | ((with_reducible refine gate_callee (f := 59) rfl ?_); refine goesL_ (some 16) rfl rfl Tryd.func59 (by kernel_rfl) rfl #[.string a0] rfl (by (try simp only [List.map_toArray, List.map_cons, List.map_nil]); first | done | rfl | (simp only [List.length_drop, List.length_take]; rfl)) ?_; (with_reducible refine (utf8_decodeRuneInStringSlow.calls k a0 t148 t149 _ ?side1 ?side2 A9.out).mono ?_); (case side1 => repeat (first | exact HRG2.out | (with_reducible refine Kd.C_alloc ?_ _) | (with_reducible refine Kd.C_drewN ?_ _) | (with_reducible refine Kd.C_drew ?_))); (case side2 => repeat (first | exact HRG3.out | (with_reducible refine Kd.C_alloc ?_ _) | (with_reducible refine Kd.C_drewN ?_ _) | (with_reducible refine Kd.C_drew ?_))); rintro e w10 ⟨rfl, hb⟩; refine ⟨_, rfl, ?_⟩; have n0_ := Aside0.mk (below_step (by repeat (first | (with_reducible first | exact HB.out | apply below_alloc | apply pw_below_drewN | apply below_drew1) | exact HB.out)) hb); clear HB; have HB := n0_; clear n0_; (try clear hb); (try clear hb2); (try clear hk); (try clear hi)))
        go_ret2
        exact ⟨by first | rfl | (simp [errW_none, errW_some] <;> rfl) | (simp [*, errW_none, errW_some] <;> rfl), by repeat (first | (with_reducible first | exact HB.out | apply below_alloc | apply pw_below_drewN | apply below_drew1) | exact HB.out)⟩
    · rw [if_neg c5] at H
      exact absurd H (by simp)

/-! ### utf_Get: function 40 -/
def utf_Get.f (k : Nat) (a0 : ByteArray) : Option (Int × Int) := (utf8_DecodeRuneInString.f k a0).bind fun bt150 => (if bt150.1 = 65533 then (if bt150.2 < 2 then (some ((-1), bt150.2)) else (some (wrap64 (bt150.1), bt150.2))) else (some (wrap64 (bt150.1), bt150.2)))
theorem utf_Get.mono : ∀ a0 k, LeO (utf_Get.f k a0) (utf_Get.f (k + 1) a0) := by
  intro a0 k
  unfold utf_Get.f
  repeat' first
      | (with_reducible exact utf8_DecodeRuneInString.mono _ _)
      | (with_reducible exact LeO.refl _)
      | (with_reducible exact LeO.none _)
      | (with_reducible refine LeO.ite ?_ ?_)
      | (with_reducible refine LeO.bind ?_ (fun _ => ?_))
      | exact utf8_DecodeRuneInString.mono _ _
      | exact LeO.none _
      | refine LeO.ite ?_ ?_
      | refine LeO.bind ?_ (fun _ => ?_)
set_option maxHeartbeats 8000000 in
set_option maxRecDepth 100000 in
theorem utf_Get.calls (k : Nat) (a0 : ByteArray) (r1 : Int) (r2 : Int) (w : World) (hrG2 : Kd.C (Kd.int .u8) w (some ⟨2, 0, none⟩) tab_utf8_first.length tab_utf8_first) (hrG3 : Kd.C k69 w (some ⟨3, 0, none⟩) tab_utf8_acceptRanges.length tab_utf8_acceptRanges) (h : utf_Get.f k a0 = some (r1, r2)) :
    Calls Tryd.prog 40 #[.string a0] w fun e w' => e = .returned (.tuple #[.int .i64 r1, .int .i64 r2]) ∧ Below w.heap.size w w' := by
  have HRG2 := Aside0.mk hrG2
  clear hrG2
  have HRG3 := Aside0.mk hrG3
  clear hrG3
  have HB := Aside0.mk (Below.refl w.heap.size w)
  have H : ((utf8_DecodeRuneInString.f k a0).bind fun bt150 => (if bt150.1 = 65533 then (if bt150.2 < 2 then (some ((-1), bt150.2)) else (some (wrap64 (bt150.1), bt150.2))) else (some (wrap64 (bt150.1), bt150.2)))) = some (r1, r2) := h
  clear h
  replace H := Option.bind_eq_some_iff.mp H
  obtain ⟨⟨t150, t151⟩, A20, H⟩ := H
  replace H : (if t150 = 65533 then (if t151 < 2 then (some ((-1), t151)) else (some (wrap64 (t150), t151))) else (some (wrap64 (t150), t151))) = some (r1, r2) := H
  have A2 := Aside0.mk A20
  clear A20
  by_cases c3 : t150 = 65533
  · rw [if_pos c3] at H
    have c3b0 : (t150 == 65533) = true := beq_iff_eq.mpr c3
    have c3b1 : (t150 != 65533) = false := bne_eq_false_iff_eq.mpr c3
    clear c3
    by_cases c4 : t151 < 2
    · rw [if_pos c4] at H
      have c4b0 : decide (t151 < 2) = true := decide_eq_true c4
      clear c4
      simp only [Option.some.injEq, Prod.mk.injEq] at H
      obtain ⟨rfl, rfl⟩ := H
      go_enter Tryd.func40, Tryd.ntmps40
      go_wp2_with (first | ((with_reducible refine gate_callee (f := 55) rfl ?_); refine goesL_ (some 8) rfl rfl Tryd.func55 (by kernel_rfl) rfl #[.string a0] rfl (by (try simp only [List.map_toArray, List.map_cons, List.map_nil]); first | done | rfl | (simp only [List.length_drop, List.length_take]; rfl)) ?_; (with_reducible refine (utf8_DecodeRuneInString.calls k a0 t150 t151 _ ?side1 ?side2 A2.out).mono ?_); (case side1 => repeat (first | exact HRG2.out | (with_reducible refine Kd.C_alloc ?_ _) | (with_reducible refine Kd.C_drewN ?_ _) | (with_reducible refine Kd.C_drew ?_))); (case side2 => repeat (first | exact HRG3.out | (with_reducible refine Kd.C_alloc ?_ _) | (with_reducible refine Kd.C_drewN ?_ _) | (with_reducible refine Kd.C_drew ?_))); rintro e w5 ⟨rfl, hb⟩; refine ⟨_, rfl, ?_⟩; have n0_ := Aside0.mk (below_step (by repeat (first | (with_reducible first | exact HB.out | apply below_alloc | apply pw_below_drewN | apply below_drew1) | exact HB.out)) hb); clear HB; have HB := n0_; clear n0_; (try clear hb); (try clear hb2); (try clear hk); (try clear hi)))
      go_ret2
      exact ⟨by first | rfl | (simp [errW_none, errW_some] <;> rfl) | (simp [*, errW_none, errW_some] <;> rfl), by repeat (first | (with_reducible first | exact HB.out | apply below_alloc | apply pw_below_drewN | apply below_drew1) | exact HB.out)⟩
    · rw [if_neg c4] at H
      have c4b0 : decide (t151 < 2) = false := decide_eq_false c4
      clear c4
      simp only [Option.some.injEq, Prod.mk.injEq] at H
      obtain ⟨rfl, rfl⟩ := H
      go_enter Tryd.func40, Tryd.ntmps40
      go_wp2_with (first | ((with_reducible refine gate_callee (f := 55) rfl ?_); refine goesL_ (some 8) rfl rfl Tryd.func55 (by kernel_rfl) rfl #[.string a0] rfl (by (try simp only [List.map_toArray, List.map_cons, List.map_nil]); first | done | rfl | (simp only [List.length_drop, List.length_take]; rfl)) ?_; (with_reducible refine (utf8_DecodeRuneInString.calls k a0 t150 t151 _ ?side1 ?side2 A2.out).mono ?_); (case side1 => repeat (first | exact HRG2.out | (with_reducible refine Kd.C_alloc ?_ _) | (with_reducible refine Kd.C_drewN ?_ _) | (with_reducible refine Kd.C_drew ?_))); (case side2 => repeat (first | exact HRG3.out | (with_reducible refine Kd.C_alloc ?_ _) | (with_reducible refine Kd.C_drewN ?_ _) | (with_reducible refine Kd.C_drew ?_))); rintro e w6 ⟨rfl, hb⟩; refine ⟨_, rfl, ?_⟩; have n0_ := Aside0.mk (below_step (by repeat (first | (with_reducible first | exact HB.out | apply below_alloc | apply pw_below_drewN | apply below_drew1) | exact HB.out)) hb); clear HB; have HB := n0_; clear n0_; (try clear hb); (try clear hb2); (try clear hk); (try clear hi)))
      go_ret2
      exact ⟨by first | rfl | (simp [errW_none, errW_some] <;> rfl) | (simp [*, errW_none, errW_some] <;> rfl), by repeat (first | (with_reducible first | exact HB.out | apply below_alloc | apply pw_below_drewN | apply below_drew1) | exact HB.out)⟩
  · rw [if_neg c3] at H
    have c3b0 : (t150 == 65533) = false := beq_eq_false_iff_ne.mpr c3
    have c3b1 : (t150 != 65533) = true := bne_iff_ne.mpr c3
    simp only [Option.some.injEq, Prod.mk.injEq] at H
    obtain ⟨rfl, rfl⟩ := H
    go_enter Tryd.func40, Tryd.ntmps40
    go_wp2_with (first | ((with_reducible refine gate_callee (f := 55) rfl ?_); refine goesL_ (some 8) rfl rfl Tryd.func55 (by kernel_rfl) rfl #[.string a0] rfl (by (try simp only [List.map_toArray, List.map_cons, List.map_nil]); first | done | rfl | (simp only [List.length_drop, List.length_take]; rfl)) ?_; (with_reducible refine (utf8_DecodeRuneInString.calls k a0 t150 t151 _ ?side1 ?side2 A2.out).mono ?_); (case side1 => repeat (first | exact HRG2.out | (with_reducible refine Kd.C_alloc ?_ _) | (with_reducible refine Kd.C_drewN ?_ _) | (with_reducible refine Kd.C_drew ?_))); (case side2 => repeat (first | exact HRG3.out | (with_reducible refine Kd.C_alloc ?_ _) | (with_reducible refine Kd.C_drewN ?_ _) | (with_reducible refine Kd.C_drew ?_))); rintro e w7 ⟨rfl, hb⟩; refine ⟨_, rfl, ?_⟩; have n0_ := Aside0.mk (below_step (by repeat (first | (with_reducible first | exact HB.out | apply below_alloc | apply pw_below_drewN | apply below_drew1) | exact HB.out)) hb); clear HB; have HB := n0_; clear n0_; (try clear hb); (try clear hb2); (try clear hk); (try clear hi)))
    go_ret2
    exact ⟨by first | rfl | (simp [errW_none, errW_some] <;> rfl) | (simp [*, errW_none, errW_some] <;> rfl), by repeat (first | (with_reducible first | exact HB.out | apply below_alloc | apply pw_below_drewN | apply below_drew1) | exact HB.out)⟩

-- AT INSTANCES: function 60 (utf_points_1)

-- BY HAND: function 57 (utf_points)

-- BY HAND: function 45 (utf_Valid)

/-! ### utf_Join: function 47 -/
def utf_Join.l0 : Nat → ByteArray → List Int → Int → Int → Option (ByteArray)
  | 0, _, _, _, _ => none
  | k + 1, x3, x6, x7, x8 => if x8 < x7 then (if 0 ≤ x8 then (if x8 < (x6.length : Int) then ((utf_Put.f k (rd x6 x8)).bind fun t153 => (if x3.size + t153.size ≤ 9223372036854775807 then (utf_Join.l0 k (x3 ++ t153) x6 x7 (wrap64 (x8 + 1))) else (none))) else (none)) else (none)) else (some x3)
def utf_Join.f (k : Nat) (l0 : List Int) : Option (ByteArray) := utf_Join.l0 k (⟨#[]⟩ : ByteArray) l0 (l0.length : Int) 0
theorem utf_Join.mono_l : ∀ k, (∀ y0 y1 y2 y3, LeO (utf_Join.l0 k y0 y1 y2 y3) (utf_Join.l0 (k + 1) y0 y1 y2 y3))
  | 0 => fun _ _ _ _ r h => by simp [utf_Join.l0] at h
  | k + 1 => by
    have ih0 := utf_Join.mono_l k
    · intro y0 y1 y2 y3
      unfold utf_Join.l0
      repeat' first
      | (with_reducible exact ih0 _ _ _ _)
      | (with_reducible exact utf_Put.mono _ _)
      | (with_reducible exact LeO.refl _)
      | (with_reducible exact LeO.none _)
      | (with_reducible refine LeO.ite ?_ ?_)
      | (with_reducible refine LeO.bind ?_ (fun _ => ?_))
      | exact ih0 _ _ _ _
      | exact utf_Put.mono _ _
      | exact LeO.none _
      | refine LeO.ite ?_ ?_
      | refine LeO.bind ?_ (fun _ => ?_)
theorem utf_Join.mono : ∀ a0 k, LeO (utf_Join.f k a0) (utf_Join.f (k + 1) a0) := by
  intro a0 k
  have ih0 := utf_Join.mono_l k
  unfold utf_Join.f
  repeat' first
      | (with_reducible exact ih0 _ _ _ _)
      | (with_reducible exact utf_Put.mono _ _)
      | (with_reducible exact LeO.refl _)
      | (with_reducible exact LeO.none _)
      | (with_reducible refine LeO.ite ?_ ?_)
      | (with_reducible refine LeO.bind ?_ (fun _ => ?_))
      | exact ih0 _ _ _ _
      | exact utf_Put.mono _ _
      | exact LeO.none _
      | refine LeO.ite ?_ ?_
      | refine LeO.bind ?_ (fun _ => ?_)
set_option maxHeartbeats 8000000 in
set_option maxRecDepth 100000 in
theorem utf_Join.calls (k : Nat) (A0 : Option Addr) (c0 : Nat) (l0 : List Int) (r : ByteArray) (w : World) (hr0 : Kd.C (Kd.int .i64) w A0 l0.length l0) (hc0 : l0.length ≤ c0) (h : utf_Join.f k l0 = some r) :
    Calls Tryd.prog 47 #[.slice A0 l0.length c0] w fun e w' => e = .returned (.string r) ∧ Below w.heap.size w w' := by
  have HR0 := Aside0.mk hr0
  have HC0 := Aside0.mk hc0
  clear hr0 hc0
  have HB := Aside0.mk (Below.refl w.heap.size w)
  have H : (utf_Join.l0 k (⟨#[]⟩ : ByteArray) l0 (l0.length : Int) 0) = some r := h
  clear h
  have H' := Aside0.mk H
  clear H
  go_enter Tryd.func47, Tryd.ntmps47
  go_wp2
  go_loopg [3, 8] k (fun kq v3 v8 w' => ∃ (x3_1 : ByteArray) (x8_1 : Int), v3 = .string x3_1 ∧ v8 = .int .i64 x8_1 ∧ Aside0 (utf_Join.l0 kq x3_1 l0 (l0.length : Int) x8_1 = some r) ∧ Aside0 (kq ≤ k) ∧ Aside0 (Below w.heap.size w w'))
  case atStart => exact ⟨((⟨#[]⟩ : ByteArray)), (0), (by first | rfl | (simp; done) | (simp [*]; done)), (by first | rfl | (simp; done) | (simp [*]; done)), H', ⟨Nat.le_refl _⟩, ⟨by repeat (first | (with_reducible first | exact HB.out | apply below_alloc | apply pw_below_drewN | apply below_drew1) | exact HB.out)⟩⟩
  case round =>
    clear H'
    obtain ⟨x3_1, x8_1, rfl, rfl, HA, HK1, HB⟩ := hrel
    cases gk with
    | zero => exact absurd HA.out (by simp [utf_Join.l0])
    | succ k1 =>
      have H := HA.out
      clear HA
      simp only [utf_Join.l0] at H
      by_cases c2 : x8_1 < (l0.length : Int)
      · rw [if_pos c2] at H
        have c2b0 : decide (x8_1 < (l0.length : Int)) = true := decide_eq_true c2
        clear c2
        by_cases c3 : 0 ≤ x8_1
        · rw [if_pos c3] at H
          have c3b0 : decide (0 ≤ x8_1) = true := decide_eq_true c3
          clear c3
          by_cases c4 : x8_1 < (l0.length : Int)
          · rw [if_pos c4] at H
            have c4b0 : decide (x8_1 < (l0.length : Int)) = true := decide_eq_true c4
            clear c4
            replace H := Option.bind_eq_some_iff.mp H
            obtain ⟨t153, A50, H⟩ := H
            replace H : (if x3_1.size + t153.size ≤ 9223372036854775807 then (utf_Join.l0 k1 (x3_1 ++ t153) l0 (l0.length : Int) (wrap64 (x8_1 + 1))) else (none)) = some r := H
            have A5 := Aside0.mk A50
            clear A50
            by_cases c6 : x3_1.size + t153.size ≤ 9223372036854775807
            · rw [if_pos c6] at H
              have c6b0 := eq_true c6
              have c6b1 : decide (x3_1.size + t153.size ≤ 9223372036854775807) = true := decide_eq_true c6
              try have c6b2 : (9223372036854775807 < x3_1.size + t153.size) = False := eq_false (Nat.not_lt.2 c6)
              have H' := Aside0.mk H
              clear H
              have p152 : 0 ≤ (x8_1 : Int) := of_decide_eq_true (by first | (with_reducible assumption) | assumption)
              have q152 : x8_1 < (l0.length : Int) := of_decide_eq_true (by first | (with_reducible assumption) | assumption)
              obtain ⟨ad152, e152, hx152_0⟩ := Kd.at_int HR0.out x8_1 p152 q152
              cases e152
              replace hx152_0 := (HB.out.cell (World.block_lt_of_cell? w _ hx152_0)).trans hx152_0
              replace p152 := eq_true p152
              replace q152 := eq_true q152
              go_wp2_with (first | ((with_reducible refine gate_callee (f := 35) rfl ?_); refine goesL_ (some 14) rfl rfl Tryd.func35 (by kernel_rfl) rfl #[.int .i64 (rd l0 x8_1)] rfl (by (try simp only [List.map_toArray, List.map_cons, List.map_nil]); first | done | rfl | (simp only [List.length_drop, List.length_take]; rfl)) ?_; (with_reducible refine (utf_Put.calls k1 (rd l0 x8_1) t153 _ A5.out).mono ?_); rintro e w7 ⟨rfl, hb⟩; refine ⟨_, rfl, ?_⟩; have n0_ := Aside0.mk (below_step (by repeat (first | (with_reducible first | exact HB.out | apply below_alloc | apply pw_below_drewN | apply below_drew1) | exact HB.out)) hb); clear HB; have HB := n0_; clear n0_; (try clear hb); (try clear hb2); (try clear hk); (try clear hi)))
              go_roundg k1
              case measure => have := HK1.out; omega
              case rel => exact ⟨(x3_1 ++ t153), (wrap64 (x8_1 + 1)), (by first | rfl | (simp; done) | (simp [*]; done)), (by first | rfl | (simp; done) | (simp [*]; done)), H', ⟨by have := HK1.out; omega⟩, ⟨by repeat (first | (with_reducible first | exact HB.out | apply below_alloc | apply pw_below_drewN | apply below_drew1) | exact HB.out)⟩⟩
            · rw [if_neg c6] at H
              exact absurd H (by simp)
          · rw [if_neg c4] at H
            exact absurd H (by simp)
        · rw [if_neg c3] at H
          exact absurd H (by simp)
      · rw [if_neg c2] at H
        have c2b0 : decide (x8_1 < (l0.length : Int)) = false := decide_eq_false c2
        clear c2
        obtain rfl := Option.some.inj H
        go_wp2
        go_ret
        exact ⟨by first | rfl | (simp [errW_none, errW_some] <;> rfl) | (simp [*, errW_none, errW_some] <;> rfl), by repeat (first | (with_reducible first | exact HB.out | apply below_alloc | apply pw_below_drewN | apply below_drew1) | exact HB.out)⟩

end Go.Proofs.YtfknoaokoncneaaDoor.PU

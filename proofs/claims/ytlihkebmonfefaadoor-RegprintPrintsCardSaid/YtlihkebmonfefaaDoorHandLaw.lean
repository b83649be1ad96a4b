/- RegprintPrints, walked by hand: the ways on which it is true. Condition: the fuel. -/
import Derived.Test.YtlihkebmonfefaaDoorPGx0
import Derived.Test.YtlihkebmonfefaaDoorPGx12
import Derived.Test.YtlihkebmonfefaaDoorPGx14
import Derived.Test.YtlihkebmonfefaaDoorPGx17
import Derived.Test.YtlihkebmonfefaaDoorPGx20
import Derived.Test.YtlihkebmonfefaaDoorHandPrint
import Derived.Test.YtlihkebmonfefaaDoorHandDeeps
import Derived.Test.YtlihkebmonfefaaDoorHandRefs
set_option linter.unusedSimpArgs false
set_option linter.unusedVariables false
namespace Go.Proofs.YtlihkebmonfefaaDoor.PG
open Go.RowKit Go.Proofs.YtlihkebmonfefaaDoorW.PrintWords Go.Proofs.YtlihkebmonfefaaDoorW.PrintLast Go.Proofs.YtlihkebmonfefaaDoorW.PrintMore
open Go.Proofs.YtlihkebmonfefaaDoor.HandPrint (regprint_Print.f regprint_Print.calls)
open Go.Proofs.YtlihkebmonfefaaDoor.HandDeeps (regprint_Deep.f regprint_Deep.calls)
open Go.Proofs.YtlihkebmonfefaaDoor.HandRefs (spoolref14_Print.f spoolref14_Print.calls)
set_option maxRecDepth 100000 in
set_option maxHeartbeats 2000000 in
theorem law_far (k : Nat) (A0_0 : Option Addr) (c0_0 : Nat) (l0_0 : List (S48)) (A0_1 : Option Addr) (c0_1 : Nat) (l0_1 : List (List (S60))) (a0_2 : Int) (r : Bool) (w : World) (hr0_0 : Kd.C k48 w A0_0 l0_0.length l0_0) (hc0_0 : l0_0.length ≤ c0_0) (hr0_1 : Kd.C (Kd.slice 60 k60) w A0_1 l0_1.length l0_1) (hc0_1 : l0_1.length ≤ c0_1) (hrG0 : Kd.C (Kd.int .u8) w (some ⟨0, 0, none⟩) tab_digit_signs.length tab_digit_signs) (ha : spoollaw14_alive.f k = some r) (hf : spoollaw14_R10Far.f k l0_0 l0_1 a0_2 = some true) :
  Calls Tryd.prog 3 #[.agg #[.slice A0_0 l0_0.length c0_0, .slice A0_1 l0_1.length c0_1, .int .i64 a0_2]] w fun e w' => e = .returned (.bool r) ∧ Below w.heap.size w w' := by
 have hu25 := Tryd.underlying25
 have hbx := blk_new w (.cells #[.slice A0_0 l0_0.length c0_0, .slice A0_1 l0_1.length c0_1, .int .i64 a0_2] 25 (0, 0))
 have b0 : (w.alloc (.cells #[.slice A0_0 l0_0.length c0_0, .slice A0_1 l0_1.length c0_1, .int .i64 a0_2] 25 (0, 0))).cell? ⟨w.heap.size, 0, none⟩ = some (.slice A0_0 l0_0.length c0_0) := (blk_cell hbx 0).trans rfl
 have b1 : (w.alloc (.cells #[.slice A0_0 l0_0.length c0_0, .slice A0_1 l0_1.length c0_1, .int .i64 a0_2] 25 (0, 0))).cell? ⟨w.heap.size, 1, none⟩ = some (.slice A0_1 l0_1.length c0_1) := (blk_cell hbx 1).trans rfl
 have b2 : (w.alloc (.cells #[.slice A0_0 l0_0.length c0_0, .slice A0_1 l0_1.length c0_1, .int .i64 a0_2] 25 (0, 0))).cell? ⟨w.heap.size, 2, none⟩ = some (.int .i64 a0_2) := (blk_cell hbx 2).trans rfl
 have HX0 := Aside0.mk hbx
 have HB0 : Aside0 (Below w.heap.size w (w.alloc (.cells #[.slice A0_0 l0_0.length c0_0, .slice A0_1 l0_1.length c0_1, .int .i64 a0_2] 25 (0, 0)))) := ⟨below_alloc (Below.refl _ w) _⟩
 have HR0 := Aside0.mk hr0_0
 have HC0 := Aside0.mk hc0_0
 have HR1 := Aside0.mk hr0_1
 have HC1 := Aside0.mk hc0_1
 have HG := Aside0.mk hrG0
 have HA := Aside0.mk ha
 have HF := Aside0.mk hf
 clear hbx hr0_0 hc0_0 hr0_1 hc0_1 hrG0 ha hf
 go_enter Tryd.func3, Tryd.ntmps3
 go_wp2_with fail
 refine (spoollaw14_R10Far.calls k A0_0 c0_0 l0_0 A0_1 c0_1 l0_1 a0_2 true _ (Kd.C_below HR0.out HB0.out) HC0.out (Kd.C_below HR1.out HB0.out) HC1.out HF.out).mono ?_
 rintro e w1 ⟨rfl, hb⟩
 have hbx1 := blk_below HX0.out hb
 have b10 : w1.cell? ⟨w.heap.size, 0, none⟩ = some (.slice A0_0 l0_0.length c0_0) := (blk_cell hbx1 0).trans rfl
 have b11 : w1.cell? ⟨w.heap.size, 1, none⟩ = some (.slice A0_1 l0_1.length c0_1) := (blk_cell hbx1 1).trans rfl
 have b12 : w1.cell? ⟨w.heap.size, 2, none⟩ = some (.int .i64 a0_2) := (blk_cell hbx1 2).trans rfl
 have HX1 := Aside0.mk hbx1
 have HB1 := Aside0.mk (below_then HB0.out HB0.out.size hb)
 clear hb hbx1
 go_wp2_with fail
 refine (spoollaw14_alive.calls k r _ (Kd.C_below HG.out HB1.out) HA.out).mono ?_
 rintro e w2 ⟨rfl, hb⟩
 have HE := Aside0.mk (below_then HB1.out HB1.out.size hb)
 clear hb
 go_wp2_with fail
 go_ret
 exact ⟨rfl, HE.out⟩
set_option maxRecDepth 100000 in
set_option maxHeartbeats 2000000 in
theorem law_bad (k : Nat) (A0_0 : Option Addr) (c0_0 : Nat) (l0_0 : List (S48)) (A0_1 : Option Addr) (c0_1 : Nat) (l0_1 : List (List (S60))) (a0_2 : Int) (r : Bool) (w : World) (hr0_0 : Kd.C k48 w A0_0 l0_0.length l0_0) (hc0_0 : l0_0.length ≤ c0_0) (hr0_1 : Kd.C (Kd.slice 60 k60) w A0_1 l0_1.length l0_1) (hc0_1 : l0_1.length ≤ c0_1) (hrG0 : Kd.C (Kd.int .u8) w (some ⟨0, 0, none⟩) tab_digit_signs.length tab_digit_signs) (ha : spoollaw14_alive.f k = some r) (hf : spoollaw14_R10Far.f k l0_0 l0_1 a0_2 = some false) (p1 : ByteArray) (p2 : Int) (hp : regprint_Print.f k l0_0 l0_1 a0_2 = some (p1, p2)) (x : Int) (hk : spoolref10_Check.f k l0_0 l0_1 a0_2 = some x) (hx : ¬ x = 0) (hp1 : p1.toList = []) (hp2 : p2 = x) (hd : regprint_Deep.f k l0_0 l0_1 a0_2 = some 0) :
  Calls Tryd.prog 3 #[.agg #[.slice A0_0 l0_0.length c0_0, .slice A0_1 l0_1.length c0_1, .int .i64 a0_2]] w fun e w' => e = .returned (.bool r) ∧ Below w.heap.size w w' := by
 have hu25 := Tryd.underlying25
 have hbx := blk_new w (.cells #[.slice A0_0 l0_0.length c0_0, .slice A0_1 l0_1.length c0_1, .int .i64 a0_2] 25 (0, 0))
 have b0 : (w.alloc (.cells #[.slice A0_0 l0_0.length c0_0, .slice A0_1 l0_1.length c0_1, .int .i64 a0_2] 25 (0, 0))).cell? ⟨w.heap.size, 0, none⟩ = some (.slice A0_0 l0_0.length c0_0) := (blk_cell hbx 0).trans rfl
 have b1 : (w.alloc (.cells #[.slice A0_0 l0_0.length c0_0, .slice A0_1 l0_1.length c0_1, .int .i64 a0_2] 25 (0, 0))).cell? ⟨w.heap.size, 1, none⟩ = some (.slice A0_1 l0_1.length c0_1) := (blk_cell hbx 1).trans rfl
 have b2 : (w.alloc (.cells #[.slice A0_0 l0_0.length c0_0, .slice A0_1 l0_1.length c0_1, .int .i64 a0_2] 25 (0, 0))).cell? ⟨w.heap.size, 2, none⟩ = some (.int .i64 a0_2) := (blk_cell hbx 2).trans rfl
 have HX0 := Aside0.mk hbx
 have HB0 : Aside0 (Below w.heap.size w (w.alloc (.cells #[.slice A0_0 l0_0.length c0_0, .slice A0_1 l0_1.length c0_1, .int .i64 a0_2] 25 (0, 0)))) := ⟨below_alloc (Below.refl _ w) _⟩
 have HR0 := Aside0.mk hr0_0
 have HC0 := Aside0.mk hc0_0
 have HR1 := Aside0.mk hr0_1
 have HC1 := Aside0.mk hc0_1
 have HG := Aside0.mk hrG0
 have HA := Aside0.mk ha
 have HF := Aside0.mk hf
 subst hp2
 have HP := Aside0.mk hp
 have HK := Aside0.mk hk
 have HD := Aside0.mk hd
 have e1 : (p1.toList == ([] : List UInt8)) = true := beq_iff_eq.mpr hp1
 have e2 : (p1.toList != ([] : List UInt8)) = false := bne_eq_false_iff_eq.mpr hp1
 have e3 : p1.toList.isEmpty = true := by rw [hp1]; rfl
 have x1 : (p2 == 0) = false := beq_eq_false_iff_ne.mpr hx
 have x2 : (p2 != 0) = true := bne_iff_ne.mpr hx
 have x3 : decide (p2 = 0) = false := decide_eq_false hx
 clear hbx hr0_0 hc0_0 hr0_1 hc0_1 hrG0 ha hf hp hk hx hp1 hd
 go_enter Tryd.func3, Tryd.ntmps3
 go_wp2_with fail
 refine (spoollaw14_R10Far.calls k A0_0 c0_0 l0_0 A0_1 c0_1 l0_1 a0_2 false _ (Kd.C_below HR0.out HB0.out) HC0.out (Kd.C_below HR1.out HB0.out) HC1.out HF.out).mono ?_
 rintro e w1 ⟨rfl, hb⟩
 have hbx1 := blk_below HX0.out hb
 have b10 : w1.cell? ⟨w.heap.size, 0, none⟩ = some (.slice A0_0 l0_0.length c0_0) := (blk_cell hbx1 0).trans rfl
 have b11 : w1.cell? ⟨w.heap.size, 1, none⟩ = some (.slice A0_1 l0_1.length c0_1) := (blk_cell hbx1 1).trans rfl
 have b12 : w1.cell? ⟨w.heap.size, 2, none⟩ = some (.int .i64 a0_2) := (blk_cell hbx1 2).trans rfl
 have HX1 := Aside0.mk hbx1
 have HB1 := Aside0.mk (below_then HB0.out HB0.out.size hb)
 clear hb hbx1
 go_wp2_with fail
 refine (regprint_Print.calls k A0_0 c0_0 l0_0 A0_1 c0_1 l0_1 a0_2 p1 p2 _ (Kd.C_below HR0.out HB1.out) HC0.out (Kd.C_below HR1.out HB1.out) HC1.out (Kd.C_below HG.out HB1.out) HP.out).mono ?_
 rintro e w2 ⟨rfl, hb⟩
 have hbx2 := blk_below HX1.out hb
 have b20 : w2.cell? ⟨w.heap.size, 0, none⟩ = some (.slice A0_0 l0_0.length c0_0) := (blk_cell hbx2 0).trans rfl
 have b21 : w2.cell? ⟨w.heap.size, 1, none⟩ = some (.slice A0_1 l0_1.length c0_1) := (blk_cell hbx2 1).trans rfl
 have b22 : w2.cell? ⟨w.heap.size, 2, none⟩ = some (.int .i64 a0_2) := (blk_cell hbx2 2).trans rfl
 have HX2 := Aside0.mk hbx2
 have HB2 := Aside0.mk (below_then HB1.out HB1.out.size hb)
 clear hb hbx2
 go_wp2_with fail
 refine (spoolref10_Check.calls k A0_0 c0_0 l0_0 A0_1 c0_1 l0_1 a0_2 p2 _ (Kd.C_below HR0.out HB2.out) HC0.out (Kd.C_below HR1.out HB2.out) HC1.out HK.out).mono ?_
 rintro e w3 ⟨rfl, hb⟩
 have hbx3 := blk_below HX2.out hb
 have b30 : w3.cell? ⟨w.heap.size, 0, none⟩ = some (.slice A0_0 l0_0.length c0_0) := (blk_cell hbx3 0).trans rfl
 have b31 : w3.cell? ⟨w.heap.size, 1, none⟩ = some (.slice A0_1 l0_1.length c0_1) := (blk_cell hbx3 1).trans rfl
 have b32 : w3.cell? ⟨w.heap.size, 2, none⟩ = some (.int .i64 a0_2) := (blk_cell hbx3 2).trans rfl
 have HX3 := Aside0.mk hbx3
 have HB3 := Aside0.mk (below_then HB2.out HB2.out.size hb)
 clear hb hbx3
 go_wp2_with fail
 refine (regprint_Deep.calls k A0_0 c0_0 l0_0 A0_1 c0_1 l0_1 a0_2 0 _ (Kd.C_below HR0.out HB3.out) HC0.out (Kd.C_below HR1.out HB3.out) HC1.out HD.out).mono ?_
 rintro e w4 ⟨rfl, hb⟩
 have hbx4 := blk_below HX3.out hb
 have b40 : w4.cell? ⟨w.heap.size, 0, none⟩ = some (.slice A0_0 l0_0.length c0_0) := (blk_cell hbx4 0).trans rfl
 have b41 : w4.cell? ⟨w.heap.size, 1, none⟩ = some (.slice A0_1 l0_1.length c0_1) := (blk_cell hbx4 1).trans rfl
 have b42 : w4.cell? ⟨w.heap.size, 2, none⟩ = some (.int .i64 a0_2) := (blk_cell hbx4 2).trans rfl
 have HX4 := Aside0.mk hbx4
 have HB4 := Aside0.mk (below_then HB3.out HB3.out.size hb)
 clear hb hbx4
 go_wp2_with fail
 refine (spoollaw14_alive.calls k r _ (Kd.C_below HG.out HB4.out) HA.out).mono ?_
 rintro e w5 ⟨rfl, hb⟩
 have HE := Aside0.mk (below_then HB4.out HB4.out.size hb)
 clear hb
 go_wp2_with fail
 go_ret
 exact ⟨rfl, HE.out⟩
set_option maxRecDepth 100000 in
set_option maxHeartbeats 2000000 in
theorem law_long (k : Nat) (A0_0 : Option Addr) (c0_0 : Nat) (l0_0 : List (S48)) (A0_1 : Option Addr) (c0_1 : Nat) (l0_1 : List (List (S60))) (a0_2 : Int) (r : Bool) (w : World) (hr0_0 : Kd.C k48 w A0_0 l0_0.length l0_0) (hc0_0 : l0_0.length ≤ c0_0) (hr0_1 : Kd.C (Kd.slice 60 k60) w A0_1 l0_1.length l0_1) (hc0_1 : l0_1.length ≤ c0_1) (hrG0 : Kd.C (Kd.int .u8) w (some ⟨0, 0, none⟩) tab_digit_signs.length tab_digit_signs) (ha : spoollaw14_alive.f k = some r) (hf : spoollaw14_R10Far.f k l0_0 l0_1 a0_2 = some false) (p1 : ByteArray) (p2 : Int) (hp : regprint_Print.f k l0_0 l0_1 a0_2 = some (p1, p2)) (hk : spoolref10_Check.f k l0_0 l0_1 a0_2 = some 0) (t : ByteArray) (hw : spoolref14_Print.f k l0_0 l0_1 a0_2 a0_2 = some t) (hs : (t.size : Int) > 4096) (hp1 : p1.toList = []) (hp2 : p2 = 6) :
  Calls Tryd.prog 3 #[.agg #[.slice A0_0 l0_0.length c0_0, .slice A0_1 l0_1.length c0_1, .int .i64 a0_2]] w fun e w' => e = .returned (.bool r) ∧ Below w.heap.size w w' := by
 have hu25 := Tryd.underlying25
 have hbx := blk_new w (.cells #[.slice A0_0 l0_0.length c0_0, .slice A0_1 l0_1.length c0_1, .int .i64 a0_2] 25 (0, 0))
 have b0 : (w.alloc (.cells #[.slice A0_0 l0_0.length c0_0, .slice A0_1 l0_1.length c0_1, .int .i64 a0_2] 25 (0, 0))).cell? ⟨w.heap.size, 0, none⟩ = some (.slice A0_0 l0_0.length c0_0) := (blk_cell hbx 0).trans rfl
 have b1 : (w.alloc (.cells #[.slice A0_0 l0_0.length c0_0, .slice A0_1 l0_1.length c0_1, .int .i64 a0_2] 25 (0, 0))).cell? ⟨w.heap.size, 1, none⟩ = some (.slice A0_1 l0_1.length c0_1) := (blk_cell hbx 1).trans rfl
 have b2 : (w.alloc (.cells #[.slice A0_0 l0_0.length c0_0, .slice A0_1 l0_1.length c0_1, .int .i64 a0_2] 25 (0, 0))).cell? ⟨w.heap.size, 2, none⟩ = some (.int .i64 a0_2) := (blk_cell hbx 2).trans rfl
 have HX0 := Aside0.mk hbx
 have HB0 : Aside0 (Below w.heap.size w (w.alloc (.cells #[.slice A0_0 l0_0.length c0_0, .slice A0_1 l0_1.length c0_1, .int .i64 a0_2] 25 (0, 0)))) := ⟨below_alloc (Below.refl _ w) _⟩
 have HR0 := Aside0.mk hr0_0
 have HC0 := Aside0.mk hc0_0
 have HR1 := Aside0.mk hr0_1
 have HC1 := Aside0.mk hc0_1
 have HG := Aside0.mk hrG0
 have HA := Aside0.mk ha
 have HF := Aside0.mk hf
 subst hp2
 have HP := Aside0.mk hp
 have HK := Aside0.mk hk
 have HW := Aside0.mk hw
 have e1 : (p1.toList == ([] : List UInt8)) = true := beq_iff_eq.mpr hp1
 have e2 : (p1.toList != ([] : List UInt8)) = false := bne_eq_false_iff_eq.mpr hp1
 have e3 : p1.toList.isEmpty = true := by rw [hp1]; rfl
 have s1 : decide ((t.size : Int) > 4096) = true := decide_eq_true hs
 have s2 : decide (4096 < (t.size : Int)) = true := decide_eq_true hs
 clear hbx hr0_0 hc0_0 hr0_1 hc0_1 hrG0 ha hf hp hk hw hp1 hs
 go_enter Tryd.func3, Tryd.ntmps3
 go_wp2_with fail
 refine (spoollaw14_R10Far.calls k A0_0 c0_0 l0_0 A0_1 c0_1 l0_1 a0_2 false _ (Kd.C_below HR0.out HB0.out) HC0.out (Kd.C_below HR1.out HB0.out) HC1.out HF.out).mono ?_
 rintro e w1 ⟨rfl, hb⟩
 have hbx1 := blk_below HX0.out hb
 have b10 : w1.cell? ⟨w.heap.size, 0, none⟩ = some (.slice A0_0 l0_0.length c0_0) := (blk_cell hbx1 0).trans rfl
 have b11 : w1.cell? ⟨w.heap.size, 1, none⟩ = some (.slice A0_1 l0_1.length c0_1) := (blk_cell hbx1 1).trans rfl
 have b12 : w1.cell? ⟨w.heap.size, 2, none⟩ = some (.int .i64 a0_2) := (blk_cell hbx1 2).trans rfl
 have HX1 := Aside0.mk hbx1
 have HB1 := Aside0.mk (below_then HB0.out HB0.out.size hb)
 clear hb hbx1
 go_wp2_with fail
 refine (regprint_Print.calls k A0_0 c0_0 l0_0 A0_1 c0_1 l0_1 a0_2 p1 6 _ (Kd.C_below HR0.out HB1.out) HC0.out (Kd.C_below HR1.out HB1.out) HC1.out (Kd.C_below HG.out HB1.out) HP.out).mono ?_
 rintro e w2 ⟨rfl, hb⟩
 have hbx2 := blk_below HX1.out hb
 have b20 : w2.cell? ⟨w.heap.size, 0, none⟩ = some (.slice A0_0 l0_0.length c0_0) := (blk_cell hbx2 0).trans rfl
 have b21 : w2.cell? ⟨w.heap.size, 1, none⟩ = some (.slice A0_1 l0_1.length c0_1) := (blk_cell hbx2 1).trans rfl
 have b22 : w2.cell? ⟨w.heap.size, 2, none⟩ = some (.int .i64 a0_2) := (blk_cell hbx2 2).trans rfl
 have HX2 := Aside0.mk hbx2
 have HB2 := Aside0.mk (below_then HB1.out HB1.out.size hb)
 clear hb hbx2
 go_wp2_with fail
 refine (spoolref10_Check.calls k A0_0 c0_0 l0_0 A0_1 c0_1 l0_1 a0_2 0 _ (Kd.C_below HR0.out HB2.out) HC0.out (Kd.C_below HR1.out HB2.out) HC1.out HK.out).mono ?_
 rintro e w3 ⟨rfl, hb⟩
 have hbx3 := blk_below HX2.out hb
 have b30 : w3.cell? ⟨w.heap.size, 0, none⟩ = some (.slice A0_0 l0_0.length c0_0) := (blk_cell hbx3 0).trans rfl
 have b31 : w3.cell? ⟨w.heap.size, 1, none⟩ = some (.slice A0_1 l0_1.length c0_1) := (blk_cell hbx3 1).trans rfl
 have b32 : w3.cell? ⟨w.heap.size, 2, none⟩ = some (.int .i64 a0_2) := (blk_cell hbx3 2).trans rfl
 have HX3 := Aside0.mk hbx3
 have HB3 := Aside0.mk (below_then HB2.out HB2.out.size hb)
 clear hb hbx3
 go_wp2_with fail
 refine (spoolref14_Print.calls k A0_0 c0_0 l0_0 A0_1 c0_1 l0_1 a0_2 a0_2 t _ (Kd.C_below HR0.out HB3.out) HC0.out (Kd.C_below HR1.out HB3.out) HC1.out HW.out).mono ?_
 rintro e w4 ⟨rfl, hb⟩
 have hbx4 := blk_below HX3.out hb
 have b40 : w4.cell? ⟨w.heap.size, 0, none⟩ = some (.slice A0_0 l0_0.length c0_0) := (blk_cell hbx4 0).trans rfl
 have b41 : w4.cell? ⟨w.heap.size, 1, none⟩ = some (.slice A0_1 l0_1.length c0_1) := (blk_cell hbx4 1).trans rfl
 have b42 : w4.cell? ⟨w.heap.size, 2, none⟩ = some (.int .i64 a0_2) := (blk_cell hbx4 2).trans rfl
 have HX4 := Aside0.mk hbx4
 have HB4 := Aside0.mk (below_then HB3.out HB3.out.size hb)
 clear hb hbx4
 go_wp2_with fail
 refine (spoollaw14_alive.calls k r _ (Kd.C_below HG.out HB4.out) HA.out).mono ?_
 rintro e w5 ⟨rfl, hb⟩
 have HE := Aside0.mk (below_then HB4.out HB4.out.size hb)
 clear hb
 go_wp2_with fail
 go_ret
 exact ⟨rfl, HE.out⟩
set_option maxRecDepth 100000 in
set_option maxHeartbeats 2000000 in
theorem law_good (k : Nat) (A0_0 : Option Addr) (c0_0 : Nat) (l0_0 : List (S48)) (A0_1 : Option Addr) (c0_1 : Nat) (l0_1 : List (List (S60))) (a0_2 : Int) (r : Bool) (w : World) (hr0_0 : Kd.C k48 w A0_0 l0_0.length l0_0) (hc0_0 : l0_0.length ≤ c0_0) (hr0_1 : Kd.C (Kd.slice 60 k60) w A0_1 l0_1.length l0_1) (hc0_1 : l0_1.length ≤ c0_1) (hrG0 : Kd.C (Kd.int .u8) w (some ⟨0, 0, none⟩) tab_digit_signs.length tab_digit_signs) (ha : spoollaw14_alive.f k = some r) (hf : spoollaw14_R10Far.f k l0_0 l0_1 a0_2 = some false) (p1 : ByteArray) (p2 : Int) (hp : regprint_Print.f k l0_0 l0_1 a0_2 = some (p1, p2)) (hk : spoolref10_Check.f k l0_0 l0_1 a0_2 = some 0) (t : ByteArray) (hw : spoolref14_Print.f k l0_0 l0_1 a0_2 a0_2 = some t) (hs : ¬ (t.size : Int) > 4096) (hp1 : p1.toList = t.toList) (hp2 : p2 = 0) (d : Int) (hd : regprint_Deep.f k l0_0 l0_1 a0_2 = some d) (hd2 : spoolref14_Deep.f k t = some d) :
  Calls Tryd.prog 3 #[.agg #[.slice A0_0 l0_0.length c0_0, .slice A0_1 l0_1.length c0_1, .int .i64 a0_2]] w fun e w' => e = .returned (.bool r) ∧ Below w.heap.size w w' := by
 have hu25 := Tryd.underlying25
 have hbx := blk_new w (.cells #[.slice A0_0 l0_0.length c0_0, .slice A0_1 l0_1.length c0_1, .int .i64 a0_2] 25 (0, 0))
 have b0 : (w.alloc (.cells #[.slice A0_0 l0_0.length c0_0, .slice A0_1 l0_1.length c0_1, .int .i64 a0_2] 25 (0, 0))).cell? ⟨w.heap.size, 0, none⟩ = some (.slice A0_0 l0_0.length c0_0) := (blk_cell hbx 0).trans rfl
 have b1 : (w.alloc (.cells #[.slice A0_0 l0_0.length c0_0, .slice A0_1 l0_1.length c0_1, .int .i64 a0_2] 25 (0, 0))).cell? ⟨w.heap.size, 1, none⟩ = some (.slice A0_1 l0_1.length c0_1) := (blk_cell hbx 1).trans rfl
 have b2 : (w.alloc (.cells #[.slice A0_0 l0_0.length c0_0, .slice A0_1 l0_1.length c0_1, .int .i64 a0_2] 25 (0, 0))).cell? ⟨w.heap.size, 2, none⟩ = some (.int .i64 a0_2) := (blk_cell hbx 2).trans rfl
 have HX0 := Aside0.mk hbx
 have HB0 : Aside0 (Below w.heap.size w (w.alloc (.cells #[.slice A0_0 l0_0.length c0_0, .slice A0_1 l0_1.length c0_1, .int .i64 a0_2] 25 (0, 0)))) := ⟨below_alloc (Below.refl _ w) _⟩
 have HR0 := Aside0.mk hr0_0
 have HC0 := Aside0.mk hc0_0
 have HR1 := Aside0.mk hr0_1
 have HC1 := Aside0.mk hc0_1
 have HG := Aside0.mk hrG0
 have HA := Aside0.mk ha
 have HF := Aside0.mk hf
 subst hp2
 have HP := Aside0.mk hp
 have HK := Aside0.mk hk
 have HW := Aside0.mk hw
 have HD := Aside0.mk hd
 have HE2 := Aside0.mk hd2
 have e1 : (p1.toList == t.toList) = true := beq_iff_eq.mpr hp1
 have e2 : (p1.toList != t.toList) = false := bne_eq_false_iff_eq.mpr hp1
 have s1 : decide ((t.size : Int) > 4096) = false := decide_eq_false hs
 have s2 : decide (4096 < (t.size : Int)) = false := decide_eq_false hs
 clear hbx hr0_0 hc0_0 hr0_1 hc0_1 hrG0 ha hf hp hk hw hp1 hs hd hd2
 go_enter Tryd.func3, Tryd.ntmps3
 go_wp2_with fail
 refine (spoollaw14_R10Far.calls k A0_0 c0_0 l0_0 A0_1 c0_1 l0_1 a0_2 false _ (Kd.C_below HR0.out HB0.out) HC0.out (Kd.C_below HR1.out HB0.out) HC1.out HF.out).mono ?_
 rintro e w1 ⟨rfl, hb⟩
 have hbx1 := blk_below HX0.out hb
 have b10 : w1.cell? ⟨w.heap.size, 0, none⟩ = some (.slice A0_0 l0_0.length c0_0) := (blk_cell hbx1 0).trans rfl
 have b11 : w1.cell? ⟨w.heap.size, 1, none⟩ = some (.slice A0_1 l0_1.length c0_1) := (blk_cell hbx1 1).trans rfl
 have b12 : w1.cell? ⟨w.heap.size, 2, none⟩ = some (.int .i64 a0_2) := (blk_cell hbx1 2).trans rfl
 have HX1 := Aside0.mk hbx1
 have HB1 := Aside0.mk (below_then HB0.out HB0.out.size hb)
 clear hb hbx1
 go_wp2_with fail
 refine (regprint_Print.calls k A0_0 c0_0 l0_0 A0_1 c0_1 l0_1 a0_2 p1 0 _ (Kd.C_below HR0.out HB1.out) HC0.out (Kd.C_below HR1.out HB1.out) HC1.out (Kd.C_below HG.out HB1.out) HP.out).mono ?_
 rintro e w2 ⟨rfl, hb⟩
 have hbx2 := blk_below HX1.out hb
 have b20 : w2.cell? ⟨w.heap.size, 0, none⟩ = some (.slice A0_0 l0_0.length c0_0) := (blk_cell hbx2 0).trans rfl
 have b21 : w2.cell? ⟨w.heap.size, 1, none⟩ = some (.slice A0_1 l0_1.length c0_1) := (blk_cell hbx2 1).trans rfl
 have b22 : w2.cell? ⟨w.heap.size, 2, none⟩ = some (.int .i64 a0_2) := (blk_cell hbx2 2).trans rfl
 have HX2 := Aside0.mk hbx2
 have HB2 := Aside0.mk (below_then HB1.out HB1.out.size hb)
 clear hb hbx2
 go_wp2_with fail
 refine (spoolref10_Check.calls k A0_0 c0_0 l0_0 A0_1 c0_1 l0_1 a0_2 0 _ (Kd.C_below HR0.out HB2.out) HC0.out (Kd.C_below HR1.out HB2.out) HC1.out HK.out).mono ?_
 rintro e w3 ⟨rfl, hb⟩
 have hbx3 := blk_below HX2.out hb
 have b30 : w3.cell? ⟨w.heap.size, 0, none⟩ = some (.slice A0_0 l0_0.length c0_0) := (blk_cell hbx3 0).trans rfl
 have b31 : w3.cell? ⟨w.heap.size, 1, none⟩ = some (.slice A0_1 l0_1.length c0_1) := (blk_cell hbx3 1).trans rfl
 have b32 : w3.cell? ⟨w.heap.size, 2, none⟩ = some (.int .i64 a0_2) := (blk_cell hbx3 2).trans rfl
 have HX3 := Aside0.mk hbx3
 have HB3 := Aside0.mk (below_then HB2.out HB2.out.size hb)
 clear hb hbx3
 go_wp2_with fail
 refine (spoolref14_Print.calls k A0_0 c0_0 l0_0 A0_1 c0_1 l0_1 a0_2 a0_2 t _ (Kd.C_below HR0.out HB3.out) HC0.out (Kd.C_below HR1.out HB3.out) HC1.out HW.out).mono ?_
 rintro e w4 ⟨rfl, hb⟩
 have hbx4 := blk_below HX3.out hb
 have b40 : w4.cell? ⟨w.heap.size, 0, none⟩ = some (.slice A0_0 l0_0.length c0_0) := (blk_cell hbx4 0).trans rfl
 have b41 : w4.cell? ⟨w.heap.size, 1, none⟩ = some (.slice A0_1 l0_1.length c0_1) := (blk_cell hbx4 1).trans rfl
 have b42 : w4.cell? ⟨w.heap.size, 2, none⟩ = some (.int .i64 a0_2) := (blk_cell hbx4 2).trans rfl
 have HX4 := Aside0.mk hbx4
 have HB4 := Aside0.mk (below_then HB3.out HB3.out.size hb)
 clear hb hbx4
 go_wp2_with fail
 refine (regprint_Deep.calls k A0_0 c0_0 l0_0 A0_1 c0_1 l0_1 a0_2 d _ (Kd.C_below HR0.out HB4.out) HC0.out (Kd.C_below HR1.out HB4.out) HC1.out HD.out).mono ?_
 rintro e w5 ⟨rfl, hb⟩
 have hbx5 := blk_below HX4.out hb
 have b50 : w5.cell? ⟨w.heap.size, 0, none⟩ = some (.slice A0_0 l0_0.length c0_0) := (blk_cell hbx5 0).trans rfl
 have b51 : w5.cell? ⟨w.heap.size, 1, none⟩ = some (.slice A0_1 l0_1.length c0_1) := (blk_cell hbx5 1).trans rfl
 have b52 : w5.cell? ⟨w.heap.size, 2, none⟩ = some (.int .i64 a0_2) := (blk_cell hbx5 2).trans rfl
 have HX5 := Aside0.mk hbx5
 have HB5 := Aside0.mk (below_then HB4.out HB4.out.size hb)
 clear hb hbx5
 go_wp2_with fail
 refine (spoolref14_Deep.calls k t d _ HE2.out).mono ?_
 rintro e w6 ⟨rfl, hd⟩
 have hb := hd.below
 clear hd
 have hbx6 := blk_below HX5.out hb
 have b60 : w6.cell? ⟨w.heap.size, 0, none⟩ = some (.slice A0_0 l0_0.length c0_0) := (blk_cell hbx6 0).trans rfl
 have b61 : w6.cell? ⟨w.heap.size, 1, none⟩ = some (.slice A0_1 l0_1.length c0_1) := (blk_cell hbx6 1).trans rfl
 have b62 : w6.cell? ⟨w.heap.size, 2, none⟩ = some (.int .i64 a0_2) := (blk_cell hbx6 2).trans rfl
 have HX6 := Aside0.mk hbx6
 have HB6 := Aside0.mk (below_then HB5.out HB5.out.size hb)
 clear hb hbx6
 go_wp2_with fail
 refine (spoollaw14_alive.calls k r _ (Kd.C_below HG.out HB6.out) HA.out).mono ?_
 rintro e w7 ⟨rfl, hb⟩
 have HE := Aside0.mk (below_then HB6.out HB6.out.size hb)
 clear hb
 go_wp2_with fail
 go_ret
 exact ⟨rfl, HE.out⟩
def spoollaw14_RegprintPrints.f (k : Nat) (l : List (S48)) (s : List (List (S60))) (r : Int) : Option Bool :=
 (spoollaw14_R10Far.f k l s r).bind fun far => if far = true then spoollaw14_alive.f k else
  (regprint_Print.f k l s r).bind fun p => (spoolref10_Check.f k l s r).bind fun e =>
   if e = 0 then (spoolref14_Print.f k l s r r).bind fun t =>
    if (t.size : Int) > 4096 then (if p.1.toList = ([] : List UInt8) ∧ p.2 = 6 then spoollaw14_alive.f k else none)
    else if p.1.toList = t.toList ∧ p.2 = 0 then (regprint_Deep.f k l s r).bind fun d => (spoolref14_Deep.f k t).bind fun d2 => if d = d2 then spoollaw14_alive.f k else none else none
   else if p.1.toList = ([] : List UInt8) ∧ p.2 = e then (regprint_Deep.f k l s r).bind fun d => if d = 0 then spoollaw14_alive.f k else none else none
theorem spoollaw14_RegprintPrints.calls (k : Nat) (A0_0 : Option Addr) (c0_0 : Nat) (l0_0 : List (S48)) (A0_1 : Option Addr) (c0_1 : Nat) (l0_1 : List (List (S60))) (a0_2 : Int) (r : Bool) (w : World) (hr0_0 : Kd.C k48 w A0_0 l0_0.length l0_0) (hc0_0 : l0_0.length ≤ c0_0) (hr0_1 : Kd.C (Kd.slice 60 k60) w A0_1 l0_1.length l0_1) (hc0_1 : l0_1.length ≤ c0_1) (hrG0 : Kd.C (Kd.int .u8) w (some ⟨0, 0, none⟩) tab_digit_signs.length tab_digit_signs) (h : spoollaw14_RegprintPrints.f k l0_0 l0_1 a0_2 = some r) :
  Calls Tryd.prog 3 #[.agg #[.slice A0_0 l0_0.length c0_0, .slice A0_1 l0_1.length c0_1, .int .i64 a0_2]] w fun e w' => e = .returned (.bool r) ∧ Below w.heap.size w w' := by
 unfold spoollaw14_RegprintPrints.f at h
 obtain ⟨far, hf, h⟩ := Option.bind_eq_some_iff.mp h
 cases far with
 | true => exact law_far k A0_0 c0_0 l0_0 A0_1 c0_1 l0_1 a0_2 r w hr0_0 hc0_0 hr0_1 hc0_1 hrG0 (by rwa [if_pos rfl] at h) hf
 | false =>
  rw [if_neg (by decide)] at h
  obtain ⟨⟨p1, p2⟩, hp, h⟩ := Option.bind_eq_some_iff.mp h
  obtain ⟨x, hk, h⟩ := Option.bind_eq_some_iff.mp h
  by_cases cx : x = 0
  ·subst cx
   rw [if_pos rfl] at h
   obtain ⟨t, hw, h⟩ := Option.bind_eq_some_iff.mp h
   by_cases cs : (t.size : Int) > 4096
   ·rw [if_pos cs] at h
    by_cases cp : p1.toList = ([] : List UInt8) ∧ p2 = 6
    ·rw [if_pos cp] at h
     exact law_long k A0_0 c0_0 l0_0 A0_1 c0_1 l0_1 a0_2 r w hr0_0 hc0_0 hr0_1 hc0_1 hrG0 h hf p1 p2 hp hk t hw cs cp.1 cp.2
    ·rw [if_neg cp] at h; cases h
   ·rw [if_neg cs] at h
    by_cases cp : p1.toList = t.toList ∧ p2 = 0
    ·rw [if_pos cp] at h
     obtain ⟨d, hd, h⟩ := Option.bind_eq_some_iff.mp h
     obtain ⟨d2, hd2, h⟩ := Option.bind_eq_some_iff.mp h
     by_cases cd : d = d2
     ·subst cd
      rw [if_pos rfl] at h
      exact law_good k A0_0 c0_0 l0_0 A0_1 c0_1 l0_1 a0_2 r w hr0_0 hc0_0 hr0_1 hc0_1 hrG0 h hf p1 p2 hp hk t hw cs cp.1 cp.2 d hd hd2
     ·rw [if_neg cd] at h; cases h
    ·rw [if_neg cp] at h; cases h
  ·rw [if_neg cx] at h
   by_cases cp : p1.toList = ([] : List UInt8) ∧ p2 = x
   ·rw [if_pos cp] at h
    obtain ⟨d, hd, h⟩ := Option.bind_eq_some_iff.mp h
    by_cases cd : d = 0
    ·subst cd
     rw [if_pos rfl] at h
     exact law_bad k A0_0 c0_0 l0_0 A0_1 c0_1 l0_1 a0_2 r w hr0_0 hc0_0 hr0_1 hc0_1 hrG0 h hf p1 p2 hp x hk cx cp.1 cp.2 hd
    ·rw [if_neg cd] at h; cases h
   ·rw [if_neg cp] at h; cases h
end Go.Proofs.YtlihkebmonfefaaDoor.PG

import Derived.Test.YtbgoaigbkfibbaaHandKinds
import Derived.Test.YtbgoaigbkfibbaaHandSt
import Derived.Test.YtbgoaigbkfibbaaHandAlive
import Derived.Test.YtbgoaigbkfibbaaPfG
import Derived.Test.YtbgoaigbkfibbaaHandLi
import Derived.Test.YtbgoaigbkfibbaaPAx12
import Derived.Test.YtbgoaigbkfibbaaPAx13
import Derived.Test.YtbgoaigbkfibbaaPAx15
import Derived.Test.YtbgoaigbkfibbaaPAx0
import Derived.Test.YtbgoaigbkfibbaaPAx3
/- ArenaBuilds by hand: the loop, the end. -/
set_option linter.unusedSimpArgs false
set_option linter.unusedVariables false
namespace Go.Proofs.Ytbgoaigbkfibbaa.HandBuilds
open Go.RowKit Go.Proofs.YtbgoaigbkfibbaaW.PrintWords Go.Proofs.YtbgoaigbkfibbaaW.PrintLast Go.Proofs.YtbgoaigbkfibbaaW.PrintMore Go.Proofs.Ytbgoaigbkfibbaa.PA Go.Proofs.Ytbgoaigbkfibbaa.HandRight Go.Proofs.Ytbgoaigbkfibbaa.HandBl Go.Proofs.Ytbgoaigbkfibbaa.HandBm Go.Proofs.Ytbgoaigbkfibbaa.HandBo Go.Proofs.Ytbgoaigbkfibbaa.HandGraft Go.Proofs.Ytbgoaigbkfibbaa.HandGraftN Go.Proofs.Ytbgoaigbkfibbaa.HandWant Go.Proofs.Ytbgoaigbkfibbaa.HandSt Go.Proofs.Ytbgoaigbkfibbaa.HandAlive Go.Proofs.Ytbgoaigbkfibbaa.PfT Go.Proofs.Ytbgoaigbkfibbaa.PfF Go.Proofs.Ytbgoaigbkfibbaa.PfC Go.Proofs.Ytbgoaigbkfibbaa.PfG Go.Proofs.Ytbgoaigbkfibbaa.Sets Go.Proofs.Ytbgoaigbkfibbaa.HandEnd Go.Proofs.Ytbgoaigbkfibbaa.HandTree
open Go.Proofs.Ytbgoaigbkfibbaa.HandSame (cells25 two_boxes arena_Same.f arena_Same.calls)
open Go.Proofs.Ytbgoaigbkfibbaa.HandAt (N41 Z41 n_cells new_cells new_frozen)
open Go.Proofs.Ytbgoaigbkfibbaa.HandLi Go.Proofs.Ytbgoaigbkfibbaa.HandKinds
attribute [local go_sem high] eqA41
set_option maxRecDepth 100000 in
set_option maxHeartbeats 20000000 in
theorem builds_calls (A : Option Addr) (c : Nat) (l : List S39) (root : Int) (W : World) (hl : Kd.C k39 W A l.length l) :
  Calls Try.prog 4 #[.slice A l.length c, .int .i64 root] W fun e W' => e = .returned (.bool true) ∧ Below W.heap.size W W' := by
 have HC := Aside0.mk hl
 clear hl
 by_cases c30 : (l.length : Int) > 30
 ·have c30' : decide ((l.length : Int) > 30) = true := decide_eq_true c30
  go_enter Try.func4, Try.ntmps4
  go_wp2_with (go_at_call 7; (refine (spoollaw10_alive.calls true _ rfl).mono ?_); rintro e w4 ⟨rfl, hb⟩; have HB4 := Aside0.mk hb; clear hb)
  go_ret
  exact ⟨rfl, HB4.out⟩
 have c30' : decide ((l.length : Int) > 30) = false := decide_eq_false c30
 have HL : Aside0 (l.length ≤ 30) := ⟨by omega⟩
 have HST := Aside0.mk (LI.start W)
 clear c30
 go_enter Try.func4, Try.ntmps4
 go_wp2_with (go_at_call 16; (refine (new_calls W).mono ?_); rintro e w1 ⟨rfl, rfl⟩)
 go_loopg [28] (l.length + 1) (fun kq v28 w' => ∃ (x : Int) (j : Nat), v28 = .int .i64 x ∧ Aside0 (x = (j : Int)) ∧ Aside0 (j + kq = l.length + 1) ∧ Aside0 (j ≤ l.length) ∧ Aside0 (LI W W.heap.size (W.heap.size + 1) j w'))
 case atStart => exact ⟨0, 0, rfl, ⟨rfl⟩, ⟨by omega⟩, ⟨Nat.zero_le _⟩, HST⟩
 case round =>
  obtain ⟨x, j, rfl, HX1, HJ, HJ2, HLI⟩ := hrel
  have hx := HX1.out
  clear HST
  obtain ⟨ns, ss, hF, hnl, hsl, u, v, wn, ws, r, hB, hA⟩ := HLI.out
  by_cases cc : j < l.length
  ·have p1 : 0 ≤ x := by omega
   have p2 : x < (l.length : Int) := by omega
   obtain ⟨ad, A4, c4, A5, c5, A6, c6, eA, hy0, hy1, hy2, hy3, hy4, hy5, hy6, hy7, l4, g4, l5, g5, l6, g6⟩ := at_T39 HC.out x p1 p2
   subst eA
   obtain ⟨a0, a1, a2, a3, L, ⟨la, sa, ra⟩, hE⟩ : ∃ a0 a1 a2 a3 L T, rd_T39 l x = ⟨a0, a1, a2, a3, L, T⟩ := ⟨_, _, _, _, _, _, rfl⟩
   rw [hE] at hy0 hy1 hy2 hy3 hy4 hy5 hy6 hy7 l4 g4 l5 g5 l6 g6
   simp only at hy0 hy1 hy2 hy3 hy4 hy5 hy6 hy7 l4 g4 l5 g5 l6 g6
   have cw : ∀ {p : Addr} {z : Value}, W.cell? p = some z → wr.cell? p = some z := fun h => (hB.below.cell (World.block_lt_of_cell? W _ h)).trans h
   replace hy0 := cw hy0
   replace hy1 := cw hy1
   replace hy2 := cw hy2
   replace hy3 := cw hy3
   replace hy4 := cw hy4
   replace hy5 := cw hy5
   replace hy6 := cw hy6
   replace hy7 := cw hy7
   have hb8 := blk_new wr (.cells #[.int .i64 a0, .int .i64 a1, .int .i64 a2, .int .i64 a3, .slice A4 L.length c4, .slice A5 la.length c5, .slice A6 sa.length c6, .int .i64 ra] 39 (0, 0))
   have hba : Below wr.heap.size wr (wr.alloc (.cells #[.int .i64 a0, .int .i64 a1, .int .i64 a2, .int .i64 a3, .slice A4 L.length c4, .slice A5 la.length c5, .slice A6 sa.length c6, .int .i64 ra] 39 (0, 0))) := below_alloc (Below.refl _ _) _
   have HB8 := Aside0.mk hb8
   have HBA := Aside0.mk (hB.under hba)
   have HAA := Aside0.mk (hA.under hba)
   have HG4 := Aside0.mk (And.intro l4 g4)
   have HG5 := Aside0.mk (And.intro l5 g5)
   have HG6 := Aside0.mk (And.intro l6 g6)
   have HF := Aside0.mk hF
   have HNS := Aside0.mk (And.intro hnl hsl)
   have HXJ := Aside0.mk (And.intro hx cc)
   obtain ⟨q0, q1, q2, q3, q4, q5, q6, q7⟩ := cells39 HB8.out
   have HBL : Aside0 (Below W.heap.size W (wr.alloc (.cells #[.int .i64 a0, .int .i64 a1, .int .i64 a2, .int .i64 a3, .slice A4 L.length c4, .slice A5 la.length c5, .slice A6 sa.length c6, .int .i64 ra] 39 (0, 0)))) := ⟨(hB.under hba).below⟩
   have p1' : decide (0 ≤ x) = true := decide_eq_true p1
   have p2' : decide (x < (l.length : Int)) = true := decide_eq_true p2
   replace p1 := eq_true p1
   replace p2 := eq_true p2
   clear cw l4 g4 l5 g5 l6 g6 hF hnl hsl hB hA hb8 hba cc hE hx
   by_cases c20 : (L.length : Int) > 20
   ·have c20' : decide ((L.length : Int) > 20) = true := decide_eq_true c20
    go_wp2_with (go_at_call 7; (refine (spoollaw10_alive.calls true _ rfl).mono ?_); rintro e w4 ⟨rfl, hb⟩; have HB4 : Aside0 (Below W.heap.size W w4) := ⟨below_then HBL.out HBL.out.size hb⟩; clear hb)
    go_ret
    exact ⟨rfl, HB4.out⟩
   have c20' : decide ((L.length : Int) > 20) = false := decide_eq_false c20
   have HL20 : Aside0 (L.length ≤ 20) := ⟨by omega⟩
   obtain ⟨b, hfar, hnear⟩ := far_f la sa ra 400 (Nat.le_refl _)
   have HFAR := Aside0.mk hfar
   clear c20 hfar
   cases b with
   | true =>
    go_wp2_with (first | (go_at_call 6; (refine (spoolref10_Far.calls 400 A5 c5 la A6 c6 sa ra true _ (Kd.C_below HG5.out.2 HBL.out) HG5.out.1 (Kd.C_below HG6.out.2 HBL.out) HG6.out.1 HFAR.out).mono ?_); rintro e w3 ⟨rfl, hb⟩; have HB3 : Aside0 (Below W.heap.size W w3) := ⟨below_then HBL.out HBL.out.size hb⟩; clear hb) | (go_at_call 7; (refine (spoollaw10_alive.calls true _ rfl).mono ?_); rintro e w4 ⟨rfl, hb⟩; have HB4 : Aside0 (Below W.heap.size W w4) := ⟨below_then HB3.out HB3.out.size hb⟩; clear hb))
    go_ret
    exact ⟨rfl, HB4.out⟩
   | false =>
    have HNEAR := Aside0.mk (hnear rfl)
    clear hnear
    go_wp2_with (go_at_call 6; (refine (spoolref10_Far.calls 400 A5 c5 la A6 c6 sa ra false _ (Kd.C_below HG5.out.2 HBL.out) HG5.out.1 (Kd.C_below HG6.out.2 HBL.out) HG6.out.1 HFAR.out).mono ?_); rintro e w3 ⟨rfl, hb⟩; have HB3 : Aside0 (Below W.heap.size W w3) := ⟨below_then HBL.out HBL.out.size hb⟩; have HBB := Aside0.mk (HBA.out.under hb); have HAW := Aside0.mk (HAA.out.under hb); have HB8' := Aside0.mk (blk_below HB8.out hb); clear hb q0 q1 q2 q3 q4 q5 q6 q7 hy0 hy1 hy2 hy3 hy4 hy5 hy6 hy7; obtain ⟨q0, q1, q2, q3, q4, q5, q6, q7⟩ := cells39 HB8'.out; obtain ⟨WA, wc, ew, _, _⟩ := Kd.R_reads HAW.out.n; obtain ⟨z0, z1, z2⟩ := cells25 HAW.out.box; rw [ew] at z0)
    refine start_ (n := 20) (S := fun w' => w'.cell? ⟨wr.heap.size, 1, none⟩ = some (.int .i64 a1) ∧ w'.cell? ⟨wr.heap.size, 2, none⟩ = some (.int .i64 a2)) (ds := []) #[false, false, false, false, false, false, false, false, false, false, false, false, false, false, false, false, false, false, false, false] (by kernel_rfl) rfl rfl ⟨q1, q2⟩ (fun hHeld => ?_)
    refine join_ (σ := J11) 0 #[true, true, true, true, true, true, true, true, true, true, true, true, true, true, true, true, true, true, true, true] (fun s => [(45, .pointer (some ⟨wr.heap.size, 1, none⟩)), (46, .int .i64 a1), (47, s.s47), (48, s.s48), (49, s.s49), (50, s.s50), (51, s.s51), (52, s.s52), (53, .bool s.bx), (54, .pointer (some ⟨wr.heap.size, 2, none⟩)), (55, .int .i64 a2), (56, s.s56), (57, s.s57), (58, s.s58), (59, s.s59), (60, s.s60), (61, s.s61), (62, .bool s.by_), (10, .bool s.bx), (11, .bool s.by_)]) (fun s w' => w' = w3.drew ∧ s.bx = decide (0 ≤ a1 ∧ a1 < (ns.length : Int)) ∧ s.by_ = decide (0 ≤ a2 ∧ a2 < (ns.length : Int))) ?_ ?_
    rotate_left
    ·intro hCont
     by_cases e1 : a1 ≥ 0
     ·have hX : decide (a1 ≥ 0) = true := decide_eq_true e1
      by_cases e2 : a2 ≥ 0
      ·have hY : decide (a2 ≥ 0) = true := decide_eq_true e2
       refine pq_ (i := 0) (n := 45) (bA 20 1) (by kernel_rfl) ?_
       refine pq_ (i := 9) (n := 54) (bA 20 513) (by kernel_rfl) ?_
       refine take_ (i := 1) (N := some 46) (v := ?_) (a' := ?_) (bA 20 515) rfl rfl (by kernel_rfl) (fun _ _ _ h => h) (Or.inl ⟨by rfl, ?_⟩) hHeld ?_ ?_
       rotate_left
       ·rintro w' ⟨s0, s1⟩
        go_simp
        with_reducible rfl
       rotate_left
       ·exact nrm_
       refine pq_ (i := 2) (n := 47) (bA 20 519) (by kernel_rfl) ?_
       refine pq_ (i := 3) (n := 48) (bA 20 527) (by kernel_rfl) ?_
       refine pq_ (i := 4) (n := 49) (bA 20 543) (by kernel_rfl) ?_
       refine pq_ (i := 6) (n := 51) (bA 20 607) (by kernel_rfl) ?_
       refine take_ (i := 5) (N := some 50) (v := ?_) (a' := ?_) (bA 20 639) rfl rfl (by kernel_rfl) (fun _ _ _ h => h) (Or.inl ⟨by rfl, ?_⟩) hHeld ?_ ?_
       rotate_left
       ·rintro w' ⟨s0, s1⟩
        go_simp
        with_reducible rfl
       rotate_left
       ·exact nrm_
       refine pq_ (i := 7) (n := 52) (bA 20 767) (by kernel_rfl) ?_
       refine pq_ (i := 8) (n := 53) (bA 20 1023) (by kernel_rfl) ?_
       refine take_ (i := 10) (N := some 55) (v := ?_) (a' := ?_) (bA 20 2047) rfl rfl (by kernel_rfl) (fun _ _ _ h => h) (Or.inl ⟨by rfl, ?_⟩) hHeld ?_ ?_
       rotate_left
       ·rintro w' ⟨s0, s1⟩
        go_simp
        with_reducible rfl
       rotate_left
       ·exact nrm_
       refine pq_ (i := 11) (n := 56) (bA 20 4095) (by kernel_rfl) ?_
       refine pq_ (i := 12) (n := 57) (bA 20 8191) (by kernel_rfl) ?_
       refine pq_ (i := 13) (n := 58) (bA 20 16383) (by kernel_rfl) ?_
       refine pq_ (i := 15) (n := 60) (bA 20 49151) (by kernel_rfl) ?_
       refine pq_ (i := 18) (n := 10) (bA 20 311295) (by kernel_rfl) ?_
       refine take_ (i := 14) (N := some 59) (v := ?_) (a' := ?_) (bA 20 327679) rfl rfl (by kernel_rfl) (fun _ _ _ h => h) (Or.inl ⟨by rfl, ?_⟩) hHeld ?_ ?_
       rotate_left
       ·rintro w' ⟨s0, s1⟩
        go_simp
        with_reducible rfl
       rotate_left
       ·exact nrm_
       refine pq_ (i := 16) (n := 61) (bA 20 393215) (by kernel_rfl) ?_
       refine pq_ (i := 17) (n := 62) (bA 20 524287) (by kernel_rfl) ?_
       refine pq_ (i := 19) (n := 11) (bA 20 1048575) (by kernel_rfl) ?_
       exact norm_ (by simp only [putAll, Act.put, List.setIfInBounds_toArray, List.set_cons_zero, List.set_cons_succ]) (hCont ⟨.bool true, .bool true, .pointer (some ⟨wr.heap.size, 1, none⟩), .int .i64 a1, .int .i64 (ns.length : Int), .bool (decide (a1 < (ns.length : Int))), .bool true, .bool true, .pointer (some ⟨wr.heap.size, 2, none⟩), .int .i64 a2, .int .i64 (ns.length : Int), .bool (decide (a2 < (ns.length : Int))), decide (a1 < (ns.length : Int)), decide (a2 < (ns.length : Int))⟩ _ ⟨rfl, by simp [hX, hY, e1, e2], by simp [hX, hY, e1, e2]⟩)
      ·have hY : decide (a2 ≥ 0) = false := decide_eq_false e2
       refine pq_ (i := 0) (n := 45) (bA 20 1) (by kernel_rfl) ?_
       refine pq_ (i := 9) (n := 54) (bA 20 513) (by kernel_rfl) ?_
       refine take_ (i := 1) (N := some 46) (v := ?_) (a' := ?_) (bA 20 515) rfl rfl (by kernel_rfl) (fun _ _ _ h => h) (Or.inl ⟨by rfl, ?_⟩) hHeld ?_ ?_
       rotate_left
       ·rintro w' ⟨s0, s1⟩
        go_simp
        with_reducible rfl
       rotate_left
       ·exact nrm_
       refine pq_ (i := 2) (n := 47) (bA 20 519) (by kernel_rfl) ?_
       refine pq_ (i := 3) (n := 48) (bA 20 527) (by kernel_rfl) ?_
       refine pq_ (i := 4) (n := 49) (bA 20 543) (by kernel_rfl) ?_
       refine pq_ (i := 6) (n := 51) (bA 20 607) (by kernel_rfl) ?_
       refine take_ (i := 5) (N := some 50) (v := ?_) (a' := ?_) (bA 20 639) rfl rfl (by kernel_rfl) (fun _ _ _ h => h) (Or.inl ⟨by rfl, ?_⟩) hHeld ?_ ?_
       rotate_left
       ·rintro w' ⟨s0, s1⟩
        go_simp
        with_reducible rfl
       rotate_left
       ·exact nrm_
       refine pq_ (i := 7) (n := 52) (bA 20 767) (by kernel_rfl) ?_
       refine pq_ (i := 8) (n := 53) (bA 20 1023) (by kernel_rfl) ?_
       refine take_ (i := 10) (N := some 55) (v := ?_) (a' := ?_) (bA 20 2047) rfl rfl (by kernel_rfl) (fun _ _ _ h => h) (Or.inl ⟨by rfl, ?_⟩) hHeld ?_ ?_
       rotate_left
       ·rintro w' ⟨s0, s1⟩
        go_simp
        with_reducible rfl
       rotate_left
       ·exact nrm_
       refine pq_ (i := 11) (n := 56) (bA 20 4095) (by kernel_rfl) ?_
       refine pq_ (i := 12) (n := 57) (bA 20 8191) (by kernel_rfl) ?_
       refine pure_ (i := 13) (N := some 58) (v := undef) (a' := ?_) (bA 20 16383) rfl rfl (by kernel_rfl) (fun _ _ _ h => h) (Or.inr ⟨by rfl, rfl⟩) ?_ ?_
       rotate_left
       ·exact nrm_
       refine pure_ (i := 14) (N := some 59) (v := undef) (a' := ?_) (bA 20 32767) rfl rfl (by kernel_rfl) (fun _ _ _ h => h) (Or.inr ⟨by rfl, rfl⟩) ?_ ?_
       rotate_left
       ·exact nrm_
       refine pure_ (i := 15) (N := some 60) (v := undef) (a' := ?_) (bA 20 65535) rfl rfl (by kernel_rfl) (fun _ _ _ h => h) (Or.inr ⟨by rfl, rfl⟩) ?_ ?_
       rotate_left
       ·exact nrm_
       refine pure_ (i := 16) (N := some 61) (v := undef) (a' := ?_) (bA 20 131071) rfl rfl (by kernel_rfl) (fun _ _ _ h => h) (Or.inr ⟨by rfl, rfl⟩) ?_ ?_
       rotate_left
       ·exact nrm_
       refine pq_ (i := 17) (n := 62) (bA 20 262143) (by kernel_rfl) ?_
       refine pq_ (i := 18) (n := 10) (bA 20 524287) (by kernel_rfl) ?_
       refine pq_ (i := 19) (n := 11) (bA 20 1048575) (by kernel_rfl) ?_
       exact norm_ (by simp only [putAll, Act.put, List.setIfInBounds_toArray, List.set_cons_zero, List.set_cons_succ]) (hCont ⟨.bool true, .bool true, .pointer (some ⟨wr.heap.size, 1, none⟩), .int .i64 a1, .int .i64 (ns.length : Int), .bool (decide (a1 < (ns.length : Int))), .bool false, .bool false, undef, undef, undef, undef, decide (a1 < (ns.length : Int)), false⟩ _ ⟨rfl, by simp [hX, hY, e1, e2], by simp [hX, hY, e1, e2]⟩)
     ·have hX : decide (a1 ≥ 0) = false := decide_eq_false e1
      by_cases e2 : a2 ≥ 0
      ·have hY : decide (a2 ≥ 0) = true := decide_eq_true e2
       refine pq_ (i := 0) (n := 45) (bA 20 1) (by kernel_rfl) ?_
       refine pq_ (i := 9) (n := 54) (bA 20 513) (by kernel_rfl) ?_
       refine take_ (i := 1) (N := some 46) (v := ?_) (a' := ?_) (bA 20 515) rfl rfl (by kernel_rfl) (fun _ _ _ h => h) (Or.inl ⟨by rfl, ?_⟩) hHeld ?_ ?_
       rotate_left
       ·rintro w' ⟨s0, s1⟩
        go_simp
        with_reducible rfl
       rotate_left
       ·exact nrm_
       refine pq_ (i := 2) (n := 47) (bA 20 519) (by kernel_rfl) ?_
       refine pq_ (i := 3) (n := 48) (bA 20 527) (by kernel_rfl) ?_
       refine pure_ (i := 4) (N := some 49) (v := undef) (a' := ?_) (bA 20 543) rfl rfl (by kernel_rfl) (fun _ _ _ h => h) (Or.inr ⟨by rfl, rfl⟩) ?_ ?_
       rotate_left
       ·exact nrm_
       refine pure_ (i := 5) (N := some 50) (v := undef) (a' := ?_) (bA 20 575) rfl rfl (by kernel_rfl) (fun _ _ _ h => h) (Or.inr ⟨by rfl, rfl⟩) ?_ ?_
       rotate_left
       ·exact nrm_
       refine pure_ (i := 6) (N := some 51) (v := undef) (a' := ?_) (bA 20 639) rfl rfl (by kernel_rfl) (fun _ _ _ h => h) (Or.inr ⟨by rfl, rfl⟩) ?_ ?_
       rotate_left
       ·exact nrm_
       refine pure_ (i := 7) (N := some 52) (v := undef) (a' := ?_) (bA 20 767) rfl rfl (by kernel_rfl) (fun _ _ _ h => h) (Or.inr ⟨by rfl, rfl⟩) ?_ ?_
       rotate_left
       ·exact nrm_
       refine pq_ (i := 8) (n := 53) (bA 20 1023) (by kernel_rfl) ?_
       refine take_ (i := 10) (N := some 55) (v := ?_) (a' := ?_) (bA 20 2047) rfl rfl (by kernel_rfl) (fun _ _ _ h => h) (Or.inl ⟨by rfl, ?_⟩) hHeld ?_ ?_
       rotate_left
       ·rintro w' ⟨s0, s1⟩
        go_simp
        with_reducible rfl
       rotate_left
       ·exact nrm_
       refine pq_ (i := 11) (n := 56) (bA 20 4095) (by kernel_rfl) ?_
       refine pq_ (i := 12) (n := 57) (bA 20 8191) (by kernel_rfl) ?_
       refine pq_ (i := 13) (n := 58) (bA 20 16383) (by kernel_rfl) ?_
       refine pq_ (i := 15) (n := 60) (bA 20 49151) (by kernel_rfl) ?_
       refine pq_ (i := 18) (n := 10) (bA 20 311295) (by kernel_rfl) ?_
       refine take_ (i := 14) (N := some 59) (v := ?_) (a' := ?_) (bA 20 327679) rfl rfl (by kernel_rfl) (fun _ _ _ h => h) (Or.inl ⟨by rfl, ?_⟩) hHeld ?_ ?_
       rotate_left
       ·rintro w' ⟨s0, s1⟩
        go_simp
        with_reducible rfl
       rotate_left
       ·exact nrm_
       refine pq_ (i := 16) (n := 61) (bA 20 393215) (by kernel_rfl) ?_
       refine pq_ (i := 17) (n := 62) (bA 20 524287) (by kernel_rfl) ?_
       refine pq_ (i := 19) (n := 11) (bA 20 1048575) (by kernel_rfl) ?_
       exact norm_ (by simp only [putAll, Act.put, List.setIfInBounds_toArray, List.set_cons_zero, List.set_cons_succ]) (hCont ⟨.bool false, .bool false, undef, undef, undef, undef, .bool true, .bool true, .pointer (some ⟨wr.heap.size, 2, none⟩), .int .i64 a2, .int .i64 (ns.length : Int), .bool (decide (a2 < (ns.length : Int))), false, decide (a2 < (ns.length : Int))⟩ _ ⟨rfl, by simp [hX, hY, e1, e2], by simp [hX, hY, e1, e2]⟩)
      ·have hY : decide (a2 ≥ 0) = false := decide_eq_false e2
       refine pq_ (i := 0) (n := 45) (bA 20 1) (by kernel_rfl) ?_
       refine pq_ (i := 9) (n := 54) (bA 20 513) (by kernel_rfl) ?_
       refine take_ (i := 1) (N := some 46) (v := ?_) (a' := ?_) (bA 20 515) rfl rfl (by kernel_rfl) (fun _ _ _ h => h) (Or.inl ⟨by rfl, ?_⟩) hHeld ?_ ?_
       rotate_left
       ·rintro w' ⟨s0, s1⟩
        go_simp
        with_reducible rfl
       rotate_left
       ·exact nrm_
       refine pq_ (i := 2) (n := 47) (bA 20 519) (by kernel_rfl) ?_
       refine pq_ (i := 3) (n := 48) (bA 20 527) (by kernel_rfl) ?_
       refine pure_ (i := 4) (N := some 49) (v := undef) (a' := ?_) (bA 20 543) rfl rfl (by kernel_rfl) (fun _ _ _ h => h) (Or.inr ⟨by rfl, rfl⟩) ?_ ?_
       rotate_left
       ·exact nrm_
       refine pure_ (i := 5) (N := some 50) (v := undef) (a' := ?_) (bA 20 575) rfl rfl (by kernel_rfl) (fun _ _ _ h => h) (Or.inr ⟨by rfl, rfl⟩) ?_ ?_
       rotate_left
       ·exact nrm_
       refine pure_ (i := 6) (N := some 51) (v := undef) (a' := ?_) (bA 20 639) rfl rfl (by kernel_rfl) (fun _ _ _ h => h) (Or.inr ⟨by rfl, rfl⟩) ?_ ?_
       rotate_left
       ·exact nrm_
       refine pure_ (i := 7) (N := some 52) (v := undef) (a' := ?_) (bA 20 767) rfl rfl (by kernel_rfl) (fun _ _ _ h => h) (Or.inr ⟨by rfl, rfl⟩) ?_ ?_
       rotate_left
       ·exact nrm_
       refine pq_ (i := 8) (n := 53) (bA 20 1023) (by kernel_rfl) ?_
       refine take_ (i := 10) (N := some 55) (v := ?_) (a' := ?_) (bA 20 2047) rfl rfl (by kernel_rfl) (fun _ _ _ h => h) (Or.inl ⟨by rfl, ?_⟩) hHeld ?_ ?_
       rotate_left
       ·rintro w' ⟨s0, s1⟩
        go_simp
        with_reducible rfl
       rotate_left
       ·exact nrm_
       refine pq_ (i := 11) (n := 56) (bA 20 4095) (by kernel_rfl) ?_
       refine pq_ (i := 12) (n := 57) (bA 20 8191) (by kernel_rfl) ?_
       refine pure_ (i := 13) (N := some 58) (v := undef) (a' := ?_) (bA 20 16383) rfl rfl (by kernel_rfl) (fun _ _ _ h => h) (Or.inr ⟨by rfl, rfl⟩) ?_ ?_
       rotate_left
       ·exact nrm_
       refine pure_ (i := 14) (N := some 59) (v := undef) (a' := ?_) (bA 20 32767) rfl rfl (by kernel_rfl) (fun _ _ _ h => h) (Or.inr ⟨by rfl, rfl⟩) ?_ ?_
       rotate_left
       ·exact nrm_
       refine pure_ (i := 15) (N := some 60) (v := undef) (a' := ?_) (bA 20 65535) rfl rfl (by kernel_rfl) (fun _ _ _ h => h) (Or.inr ⟨by rfl, rfl⟩) ?_ ?_
       rotate_left
       ·exact nrm_
       refine pure_ (i := 16) (N := some 61) (v := undef) (a' := ?_) (bA 20 131071) rfl rfl (by kernel_rfl) (fun _ _ _ h => h) (Or.inr ⟨by rfl, rfl⟩) ?_ ?_
       rotate_left
       ·exact nrm_
       refine pq_ (i := 17) (n := 62) (bA 20 262143) (by kernel_rfl) ?_
       refine pq_ (i := 18) (n := 10) (bA 20 524287) (by kernel_rfl) ?_
       refine pq_ (i := 19) (n := 11) (bA 20 1048575) (by kernel_rfl) ?_
       exact norm_ (by simp only [putAll, Act.put, List.setIfInBounds_toArray, List.set_cons_zero, List.set_cons_succ]) (hCont ⟨.bool false, .bool false, undef, undef, undef, undef, .bool false, .bool false, undef, undef, undef, undef, false, false⟩ _ ⟨rfl, by simp [hX, hY, e1, e2], by simp [hX, hY, e1, e2]⟩)
    rintro ⟨s47, s48, s49, s50, s51, s52, s56, s57, s58, s59, s60, s61, bx, by_⟩ w' ⟨rfl, hbx, hby⟩
    replace hbx : bx = decide (0 ≤ a1 ∧ a1 < (ns.length : Int)) := hbx
    replace hby : by_ = decide (0 ≤ a2 ∧ a2 < (ns.length : Int)) := hby
    refine norm_ (a' := ?_) ?_ ?_
    rotate_left
    ·simp only [putAll, Act.put, List.setIfInBounds_toArray, List.set_cons_zero, List.set_cons_succ]
     rfl
    refine done_ (by kernel_rfl) ?_
    have HBB5 := Aside0.mk (HBB.out.under (below_drew1 (Below.refl _ _)))
    have HAW5 := Aside0.mk (HAW.out.under (below_drew1 (Below.refl _ _)))
    have HB85 : Aside0 (w3.drew.heap[wr.heap.size]? = some (.cells #[.int .i64 a0, .int .i64 a1, .int .i64 a2, .int .i64 a3, .slice A4 L.length c4, .slice A5 la.length c5, .slice A6 sa.length c6, .int .i64 ra] 39 (0, 0))) := ⟨blk_drew HB8'.out⟩
    have HB35 : Aside0 (Below W.heap.size W w3.drew) := ⟨below_drew1 HB3.out⟩
    clear HBB HAW HB8' HB3 HBA HAA HB8 HBL q0 q1 q2 q3 q4 q5 q6 q7 z0 z1 z2
    generalize w3.drew = w5 at HBB5 HAW5 HB85 HB35 ⊢
    obtain ⟨b8, hb8⟩ : ∃ b8, wr.heap.size = b8 := ⟨_, rfl⟩
    rw [hb8] at HB85 ⊢
    clear hb8
    have HST := Aside0.mk (ST.new HBB5.out HAW5.out #[.int .i64 0, .int .i64 0, .int .i64 0, .int .i64 0, .int .i64 0, .int .i64 0])
    have HB86 := Aside0.mk (blk_alloc HB85.out (.cells #[.int .i64 0, .int .i64 0, .int .i64 0, .int .i64 0, .int .i64 0, .int .i64 0] 41 (0, 0)))
    have HLT : Aside0 (ns.length < 4096) := ⟨by have h1 := HNS.out; have h2 := HXJ.out; have h3 := HL.out; omega⟩
    have HEW := Aside0.mk ew
    clear ew
    rename (∀ (a : Act) (w : World), Code.wp Try.prog _ _ a w → _) => hK12
    refine hK12 _ _ ?_
    clear hK12
    refine kinds W l c ad root j x ns ss u v wn ws r WA wc b8 w5 a0 a1 a2 a3 A4 c4 L A5 c5 la A6 c6 sa ra bx by_ _ _ _ _ _ _ _ _ _ _ _ _ _ _ _ _ _ _ _ _ _ _ _ _ _ _ _ _ _ _ _ _ _ _ _ _ _ _ _ _ _ _ _ _ _ _ _ _ _ _ _ _ _ _ _ _ _ _ _ _ _ _ _ _ _ _ _ _ _ _ _ _ _ _ _ _ _ _ _ _ _ _ _ _ _ _ _ _ _ _ _ _ _ _ _ _ _ _ _ _ _ _ _ _ _ _ _ _ _ _ _ _ _ _ _ _ _ _ _ _ _ _ _ _ _ _ _ _ _ _ _ _ _ _ _ _ _ _ _ _ _ _ _ _ _ _ _ _ _ _ _ _ _ _ _ _ _ _ _ _ _ _ _ _ _ _ _ _ _ _ _ _ _ _ _ _ _ _ _ _ _ _ _ _ _ _ _ _ _ _ _ _ _ _ _ _ _ _ _ _ _ _ _ _ _ _ _ _ _ _ _ _ _ _ _ _ _ _ _ _ _ _ _ _ _ _ _ _ _ _ _ _ _ _ _ _ _ _ _ _ _ _ _ _ _ _ _ _ _ _ _ _ _ _ _ _ _ _ _ _ _ _ _ _ _ _ _ _ _ _ _ _ _ _ _ _ _ _ _ _ _ _ _ _ _ _ _ _ _ _ _ _ _ _ _ _ _ _ _ _ _ _ _ (by rfl) ⟨?_⟩ HL HXJ HF HNS HLT HEW HAW5 HB35 HG4 HG5 HG6 HL20 HNEAR HST HB86 hbx hby
    intro y12 y13 y14 y15 y16 y63 y64 y65 y66 y67 y68 y69 y70 y71 y72 y73 y74 y75 y76 y77 y78 y79 y80 y81 y82 y83 y84 y85 y86 y87 y88 y89 y90 y91 y92 y93 y94 y95 y96 y97 y98 y99 y100 y101 y102 y103 y104 y105 y106 y107 y108 y109 y110 y111 y112 y113 y114 y115 y116 y117 y118 y119 y120 y121 y122 y123 y124 y125 y126 y127 y128 y129 y130 y131 y132 y133 y134 y135 y136 y137 y138 y139 y140 y141 y142 y143 y144 y145 y146 y147 y148 y149 y150 y151 y152 y153 y154 y155 y156 y157 y158 y159 y160 y161 y162 y163 y164 y165 y166 y167 y168 y169 y170 y171 y172 y173 y174 y175 y176 y177 y178 y179 y180 y181 y182 y183 y184 y185 y186 y187 y188 y189 y190 y191 y192 y193 y194 y195 y196 y197 y198 y199 y200 y201 y202 y203 y204 w9 HLI9
    rename (∀ (a : Act) (w : World), Code.wp Try.prog _ _ a w → _) => hK37
    refine hK37 _ _ ?_
    have HL9 := Aside0.mk HLI9
    clear HLI9 hbx hby HST HB86 HAW5 HB35 HG4 HG5 HG6 HL20 HNEAR
    go_wp2_with fail
    cases gk with
    | zero => have := HJ.out; have := HXJ.out; omega
    | succ k1 =>
     have hw : wrap64 (x + 1) = ((j + 1 : Nat) : Int) := by have := HXJ.out; have := HL.out; unfold wrap64; omega
     go_roundg k1
     case measure => omega
     case rel => exact ⟨_, j + 1, rfl, ⟨hw⟩, ⟨by have := HJ.out; omega⟩, ⟨by have := HXJ.out; omega⟩, HL9⟩
  ·skip
   have p2' : decide (x < (l.length : Int)) = false := decide_eq_false (by omega)
   have HF := Aside0.mk hF
   have HNS : Aside0 (ns.length ≤ 1800 ∧ ss.length ≤ 1800) := ⟨by have := HL.out; have := HJ2.out; omega, by have := HL.out; have := HJ2.out; omega⟩
   have HB := Aside0.mk hB
   have HA := Aside0.mk hA
   obtain ⟨WA, wc, ew, _, _⟩ := Kd.R_reads hA.n
   obtain ⟨WS, wsc, ews, _, _⟩ := Kd.R_reads hA.s
   have HEW := Aside0.mk ew
   have HES := Aside0.mk ews
   have HWR : Aside0 (Below W.heap.size W wr) := ⟨hB.below⟩
   clear hF hnl hsl hB hA ew ews hx cc
   by_cases hr : 0 ≤ root ∧ root < (ns.length : Int)
   ·skip
    have HR := Aside0.mk hr
    have rr : ¬ root < 0 := by omega
    have rr' : decide (root < 0) = false := decide_eq_false rr
    have rg : ¬ root ≥ (ns.length : Int) := by omega
    have rg' : decide (root ≥ (ns.length : Int)) = false := decide_eq_false rg
    have HCK : Aside0 (spoolref10_Check.f 8700 ns ss root = some 0) := ⟨check_r' ns ss root HF.out hr.1 hr.2 8700 (Nat.le_refl _)⟩
    clear hr
    go_upto_region 39 with (go_at_call 25; (refine (tree_calls W W.heap.size u v ns ss root _ HB.out HR.out.1 HR.out.2 HF.out.n (by have := HF.out.m; omega) (fun x hx => by have := HF.out.short x hx; omega)).mono ?_); rintro e w1 ⟨v0, v1, rfl, hr0, hr1, hb⟩; obtain ⟨A7, c7, rfl, _, _⟩ := Kd.R_reads hr0; obtain ⟨A8, c8, rfl, _, _⟩ := Kd.R_reads hr1; have HB1 := Aside0.mk hb; have HR0 := Aside0.mk hr0; have HR1 := Aside0.mk hr1; clear hb hr0 hr1)
    have HT := Aside0.mk (blk_new w1 (.cells #[.slice A7 ns.length c7, .slice A8 ss.length c8, .int .i64 root] 25 (0, 0)))
    have hba := below_alloc (Below.refl w1.heap.size w1) (.cells #[.slice A7 ns.length c7, .slice A8 ss.length c8, .int .i64 root] 25 (0, 0))
    have HBE : Aside0 (Below wr.heap.size wr (w1.alloc (.cells #[.slice A7 ns.length c7, .slice A8 ss.length c8, .int .i64 root] 25 (0, 0)))) := ⟨below_then HB1.out HB1.out.size hba⟩
    have HR0b := Aside0.mk (Kd.R_below HR0.out hba)
    have HR1b := Aside0.mk (Kd.R_below HR1.out hba)
    clear HR0 HR1
    have HB2 := Aside0.mk (HB.out.under HBE.out)
    have HA2 := Aside0.mk (HA.out.under HBE.out)
    clear hba
    generalize w1.alloc (.cells #[.slice A7 ns.length c7, .slice A8 ss.length c8, .int .i64 root] 25 (0, 0)) = w2 at HT HBE HR0b HR1b HB2 HA2 ⊢
    obtain ⟨b17, hb17⟩ : ∃ b, w1.heap.size = b := ⟨_, rfl⟩
    rw [hb17] at HT ⊢
    clear hb17
    have HB2D := Aside0.mk (HB2.out.under (below_drew1 (Below.refl _ _)))
    obtain ⟨z0, z1, z2⟩ := cells25 HA2.out.box
    rw [HEW.out] at z0
    rw [HES.out] at z1
    have zd := (HA2.out.under (below_drew1 (Below.refl _ _))).box
    rw [HEW.out, HES.out] at zd
    obtain ⟨zd0, zd1, zd2⟩ := cells25 zd
    clear zd
    go_wp2_with fail
    refine start_ (n := 6) (S := fun w' => w'.cell? ⟨W.heap.size + 1, 0, none⟩ = some (.slice WA ns.length wc)) (ds := []) #[false, false, false, false, false, false] (by kernel_rfl) rfl rfl (z0) (fun hHeld => ?_)
    refine pq_ (i := 0) (n := 212) (bA 6 1) (by kernel_rfl) ?_
    refine pq_ (i := 2) (n := 214) (bA 6 5) (by kernel_rfl) ?_
    refine take_ (i := 3) (N := some 215) (v := ?_) (a' := ?_) (bA 6 13) rfl rfl (by kernel_rfl) (fun _ _ _ h => h) (Or.inl ⟨by rfl, ?_⟩) hHeld ?_ ?_
    rotate_left
    ·intro w' s0
     go_simp
     with_reducible rfl
    rotate_left
    ·exact nrm_
    refine pq_ (i := 4) (n := 216) (bA 6 29) (by kernel_rfl) ?_
    refine one_ (i := 1) (N := some 213) (bA 6 31) rfl rfl (by kernel_rfl) (by decide) (fun K hK => ?_)
    refine goes_ Try.func26 (by kernel_rfl) rfl #[.pointer (some ⟨W.heap.size, 0, none⟩)] (by rfl) rfl rfl (by simp only [List.map_toArray, List.map_cons, List.map_nil]; rfl) ?_
    with_reducible refine (len_calls W W.heap.size _ _ ns ss _ HB2D.out).mono ?_
    rintro e w4 ⟨rfl, rfl⟩
    refine ⟨_, rfl, ?_⟩
    refine hK.out _ _ (zd0) (fun hHeld => ?_)
    clear hK K
    refine norm_ (a' := ?_) ?_ ?_
    rotate_left
    ·show Act.put _ (some 213) _ = _
     exact nrm_
    refine pq_ (i := 5) (n := 217) (bA 6 63) (by kernel_rfl) ?_
    refine done_ (by kernel_rfl) ?_
    have HD : Aside0 (Below wr.heap.size wr w2.drew) := ⟨below_drew1 HBE.out⟩
    have HTD : Aside0 (w2.drew.heap[b17]? = some (.cells #[.slice A7 ns.length c7, .slice A8 ss.length c8, .int .i64 root] 25 (0, 0))) := ⟨blk_drew HT.out⟩
    have HR0 := Aside0.mk (Kd.R_below HR0b.out (below_drew1 (Below.refl _ _)))
    have HR1 := Aside0.mk (Kd.R_below HR1b.out (below_drew1 (Below.refl _ _)))
    clear HR0b HR1b
    clear z0 z1 z2 zd0 zd1 zd2 HT HB2D HB2 HA2 HBE
    generalize w2.drew = w3 at HD HTD HR0 HR1 ⊢
    have zd := (HA.out.under HD.out).box
    rw [HEW.out, HES.out] at zd
    obtain ⟨z0, z1, z2⟩ := cells25 zd
    obtain ⟨t0, t1, t2⟩ := cells25 HTD.out
    clear zd
    go_wp2_with (go_at_call 8; (refine (spoolref10_Check.calls 8700 A7 c7 ns A8 c8 ss root 0 _ (Kd.R_reads' HR0.out).2.2 (Kd.R_reads' HR0.out).2.1 (Kd.R_reads' HR1.out).2.2 (Kd.R_reads' HR1.out).2.1 HCK.out).mono ?_); rintro e w4 ⟨rfl, hb⟩; have HT4 := Aside0.mk (blk_below HTD.out hb); have HN0 := Aside0.mk (Kd.R_reads' (Kd.R_below HR0.out hb)).2.2; have HN1 := Aside0.mk (Kd.R_reads' (Kd.R_below HR1.out hb)).2.2; have HD4 := Aside0.mk (below_then HD.out HD.out.size hb); have ha4 := (HA.out.under HD4.out); have HA4 := Aside0.mk ha4; have hn4 := ha4.n; rw [HEW.out] at hn4; have HW0 := Aside0.mk (Kd.R_reads' hn4).2.2; have hs4 := ha4.s; rw [HES.out] at hs4; have HW1 := Aside0.mk (Kd.R_reads' hs4).2.2; clear z0 z1 z2 t0 t1 t2 hn4 hs4; have zd := ha4.box; rw [HEW.out, HES.out] at zd; obtain ⟨z0, z1, z2⟩ := cells25 zd; obtain ⟨t0, t1, t2⟩ := cells25 HT4.out; clear zd hb ha4)
    clear t0 z0 t1 z1 t2 z2
    go_loopg [272] (ns.length + 1) (fun kq v272 w' => ∃ (x : Int) (i : Nat), v272 = .int .i64 x ∧ Aside0 (x = (i : Int)) ∧ Aside0 (i + kq = ns.length + 1) ∧ Aside0 (i ≤ ns.length) ∧ Aside0 (Below w4.heap.size w4 w'))
    case atStart => exact ⟨0, 0, rfl, ⟨rfl⟩, ⟨by omega⟩, ⟨Nat.zero_le _⟩, ⟨Below.refl _ _⟩⟩
    case round =>
     obtain ⟨y, i, rfl, HY, HI, HI2, HBL⟩ := hrel
     have hy := HY.out
     by_cases cc : i < ns.length
     ·have p1 : 0 ≤ y := by omega
      have p3 : y < (ns.length : Int) := by omega
      obtain ⟨ad1, e1, ha0, ha1, ha2, ha3, ha4, ha5⟩ := at_T41 (Kd.C_below HN0.out HBL.out) y p1 p3
      obtain ⟨bd, e2, hb0, hb1, hb2, hb3, hb4, hb5⟩ := at_T41 (Kd.C_below HW0.out HBL.out) y p1 p3
      obtain ⟨n0, n1, n2, n3, n4, n5, hE⟩ : ∃ n0 n1 n2 n3 n4 n5, rd_T41 ns y = ⟨n0, n1, n2, n3, n4, n5⟩ := ⟨_, _, _, _, _, _, rfl⟩
      rw [hE] at ha0 ha1 ha2 ha3 ha4 ha5 hb0 hb1 hb2 hb3 hb4 hb5
      simp only at ha0 ha1 ha2 ha3 ha4 ha5 hb0 hb1 hb2 hb3 hb4 hb5
      have zd := (HA4.out.under HBL.out).box
      rw [HEW.out, HES.out, e2] at zd
      obtain ⟨z0, z1, z2⟩ := cells25 zd
      have td := blk_below HT4.out HBL.out
      rw [e1] at td
      obtain ⟨t0, t1, t2⟩ := cells25 td
      have HYI := Aside0.mk (And.intro hy cc)
      have p1' : decide (0 ≤ y) = true := decide_eq_true p1
      have p3' : decide (y < (ns.length : Int)) = true := decide_eq_true p3
      replace p1 := eq_true p1
      replace p3 := eq_true p3
      clear zd td hy cc hE e1 e2
      go_wp2_with fail
      refine start_ (n := 11) (S := fun w' => w'.cell? ⟨b17, 0, none⟩ = some (.slice (some ad1) ns.length c7) ∧ w'.cell? ⟨W.heap.size + 1, 0, none⟩ = some (.slice (some bd) ns.length wc) ∧ w'.cell? (ad1.add (y.toNat * 6)) = some (.int .i64 n0) ∧ w'.cell? ⟨(ad1.add (y.toNat * 6)).block, (ad1.add (y.toNat * 6)).off + 1, none⟩ = some (.int .i64 n1) ∧ w'.cell? ⟨(ad1.add (y.toNat * 6)).block, (ad1.add (y.toNat * 6)).off + 2, none⟩ = some (.int .i64 n2) ∧ w'.cell? ⟨(ad1.add (y.toNat * 6)).block, (ad1.add (y.toNat * 6)).off + 3, none⟩ = some (.int .i64 n3) ∧ w'.cell? ⟨(ad1.add (y.toNat * 6)).block, (ad1.add (y.toNat * 6)).off + 4, none⟩ = some (.int .i64 n4) ∧ w'.cell? ⟨(ad1.add (y.toNat * 6)).block, (ad1.add (y.toNat * 6)).off + 5, none⟩ = some (.int .i64 n5) ∧ w'.cell? (bd.add (y.toNat * 6)) = some (.int .i64 n0) ∧ w'.cell? ⟨(bd.add (y.toNat * 6)).block, (bd.add (y.toNat * 6)).off + 1, none⟩ = some (.int .i64 n1) ∧ w'.cell? ⟨(bd.add (y.toNat * 6)).block, (bd.add (y.toNat * 6)).off + 2, none⟩ = some (.int .i64 n2) ∧ w'.cell? ⟨(bd.add (y.toNat * 6)).block, (bd.add (y.toNat * 6)).off + 3, none⟩ = some (.int .i64 n3) ∧ w'.cell? ⟨(bd.add (y.toNat * 6)).block, (bd.add (y.toNat * 6)).off + 4, none⟩ = some (.int .i64 n4) ∧ w'.cell? ⟨(bd.add (y.toNat * 6)).block, (bd.add (y.toNat * 6)).off + 5, none⟩ = some (.int .i64 n5)) (ds := []) #[false, false, false, false, false, false, false, false, false, false, false] (by kernel_rfl) rfl rfl ⟨t0, z0, ha0, ha1, ha2, ha3, ha4, ha5, hb0, hb1, hb2, hb3, hb4, hb5⟩ (fun hHeld => ?_)
      refine pq_ (i := 0) (n := 275) (bA 11 1) (by kernel_rfl) ?_
      refine pq_ (i := 2) (n := 277) (bA 11 5) (by kernel_rfl) ?_
      refine pq_ (i := 5) (n := 280) (bA 11 37) (by kernel_rfl) ?_
      refine pq_ (i := 7) (n := 282) (bA 11 165) (by kernel_rfl) ?_
      refine take_ (i := 1) (N := some 276) (v := ?_) (a' := ?_) (bA 11 167) rfl rfl (by kernel_rfl) (fun _ _ _ h => h) (Or.inl ⟨by rfl, ?_⟩) hHeld ?_ ?_
      rotate_left
      ·rintro w' ⟨s0, s1, s2, s3, s4, s5, s6, s7, s8, s9, s10, s11, s12, s13⟩
       go_simp
       with_reducible rfl
      rotate_left
      ·exact nrm_
      refine pq_ (i := 3) (n := 278) (bA 11 175) (by kernel_rfl) ?_
      refine take_ (i := 4) (N := some 279) (v := ?_) (a' := ?_) (bA 11 191) rfl rfl (by kernel_rfl) (fun _ _ _ h => h) (Or.inl ⟨by rfl, ?_⟩) hHeld ?_ ?_
      rotate_left
      ·rintro w' ⟨s0, s1, s2, s3, s4, s5, s6, s7, s8, s9, s10, s11, s12, s13⟩
       go_simp
       with_reducible rfl
      rotate_left
      ·exact nrm_
      refine take_ (i := 6) (N := some 281) (v := ?_) (a' := ?_) (bA 11 255) rfl rfl (by kernel_rfl) (fun _ _ _ h => h) (Or.inl ⟨by rfl, ?_⟩) hHeld ?_ ?_
      rotate_left
      ·rintro w' ⟨s0, s1, s2, s3, s4, s5, s6, s7, s8, s9, s10, s11, s12, s13⟩
       go_simp
       with_reducible rfl
      rotate_left
      ·exact nrm_
      refine pq_ (i := 8) (n := 283) (bA 11 511) (by kernel_rfl) ?_
      refine take_ (i := 9) (N := some 284) (v := ?_) (a' := ?_) (bA 11 1023) rfl rfl (by kernel_rfl) (fun _ _ _ h => h) (Or.inl ⟨by rfl, ?_⟩) hHeld ?_ ?_
      rotate_left
      ·rintro w' ⟨s0, s1, s2, s3, s4, s5, s6, s7, s8, s9, s10, s11, s12, s13⟩
       go_simp
       with_reducible rfl
      rotate_left
      ·exact nrm_
      refine pq_ (i := 10) (n := 285) (bA 11 2047) (by kernel_rfl) ?_
      refine done_ (by kernel_rfl) ?_
      go_wp2_with fail
      cases gk with
      | zero => have := HI.out; have := HYI.out; omega
      | succ k1 =>
       have hw : wrap64 (y + 1) = ((i + 1 : Nat) : Int) := by have := HYI.out; have := HF.out.n; unfold wrap64; omega
       go_roundg k1
       case measure => omega
       case rel => exact ⟨_, i + 1, rfl, ⟨hw⟩, ⟨by have := HI.out; omega⟩, ⟨by have := HYI.out; omega⟩, ⟨below_drew1 HBL.out⟩⟩
     ·have p3' : decide (y < (ns.length : Int)) = false := decide_eq_false (by omega)
      have zd := (HA4.out.under HBL.out).box
      rw [HEW.out, HES.out] at zd
      obtain ⟨z0, z1, z2⟩ := cells25 zd
      obtain ⟨t0, t1, t2⟩ := cells25 (blk_below HT4.out HBL.out)
      have HBM := HBL
      clear zd hy HY HI HI2 cc HBL
      go_wp2_with fail
      clear t0 z0 t1 z1 t2 z2
      go_loopg [290] (ss.length + 1) (fun kq v290 w' => ∃ (x : Int) (i : Nat), v290 = .int .i64 x ∧ Aside0 (x = (i : Int)) ∧ Aside0 (i + kq = ss.length + 1) ∧ Aside0 (i ≤ ss.length) ∧ Aside0 (Below w4.heap.size w4 w'))
      case atStart => exact ⟨0, 0, rfl, ⟨rfl⟩, ⟨by omega⟩, ⟨Nat.zero_le _⟩, HBM⟩
      case round =>
       obtain ⟨y, i, rfl, HY, HI, HI2, HBL⟩ := hrel
       have hy := HY.out
       by_cases cc : i < ss.length
       ·have p1 : 0 ≤ y := by omega
        have p4 : y < (ss.length : Int) := by omega
        obtain ⟨sad, As, cs, e1, hsa, hla, hia⟩ := at_L3 (Kd.C_below HN1.out HBL.out) y p1 p4
        obtain ⟨tad, Bs, ds, e2, hsb, hlb, hib⟩ := at_L3 (Kd.C_below HW1.out HBL.out) y p1 p4
        have zd := (HA4.out.under HBL.out).box
        rw [HEW.out, HES.out, e2] at zd
        obtain ⟨z0, z1, z2⟩ := cells25 zd
        have td := blk_below HT4.out HBL.out
        rw [e1] at td
        obtain ⟨t0, t1, t2⟩ := cells25 td
        have HIA := Aside0.mk (And.intro hla hia)
        have HIB := Aside0.mk (And.intro hlb hib)
        have HSM : Aside0 (spoolref05_Same.f 31 (rd_L3 ss y) (rd_L3 ss y) = some true) := ⟨by
         have hx : (rd_L3 ss y).length ≤ 30 := HF.out.short _ (by simp [rd_L3, List.getD_eq_getElem?_getD, show y.toNat < ss.length by omega])
         rw [Same_f _ _ (by omega) 31 (by omega), (sameL_iff _ _).2 rfl]⟩
        have HYI := Aside0.mk (And.intro hy cc)
        have p1' : decide (0 ≤ y) = true := decide_eq_true p1
        have p4' : decide (y < (ss.length : Int)) = true := decide_eq_true p4
        replace p1 := eq_true p1
        replace p4 := eq_true p4
        clear zd td hy cc e1 e2 hla hia hlb hib
        go_wp2_with fail
        refine start_ (n := 12) (S := fun w' => w'.cell? ⟨b17, 1, none⟩ = some (.slice (some sad) ss.length c8) ∧ w'.cell? ⟨W.heap.size + 1, 1, none⟩ = some (.slice (some tad) ss.length wsc) ∧ w'.cell? (sad.add y.toNat) = some (.slice As (rd_L3 ss y).length cs) ∧ w'.cell? (tad.add y.toNat) = some (.slice Bs (rd_L3 ss y).length ds)) (ds := []) #[false, false, false, false, false, false, false, false, false, false, false, false] (by kernel_rfl) rfl rfl ⟨t1, z1, hsa, hsb⟩ (fun hHeld => ?_)
        refine pq_ (i := 0) (n := 293) (bA 12 1) (by kernel_rfl) ?_
        refine pq_ (i := 2) (n := 295) (bA 12 5) (by kernel_rfl) ?_
        refine pq_ (i := 5) (n := 298) (bA 12 37) (by kernel_rfl) ?_
        refine pq_ (i := 7) (n := 300) (bA 12 165) (by kernel_rfl) ?_
        refine take_ (i := 1) (N := some 294) (v := ?_) (a' := ?_) (bA 12 167) rfl rfl (by kernel_rfl) (fun _ _ _ h => h) (Or.inl ⟨by rfl, ?_⟩) hHeld ?_ ?_
        rotate_left
        ·rintro w' ⟨s0, s1, s2, s3⟩
         go_simp
         with_reducible rfl
        rotate_left
        ·exact nrm_
        refine pq_ (i := 3) (n := 296) (bA 12 175) (by kernel_rfl) ?_
        refine take_ (i := 4) (N := some 297) (v := ?_) (a' := ?_) (bA 12 191) rfl rfl (by kernel_rfl) (fun _ _ _ h => h) (Or.inl ⟨by rfl, ?_⟩) hHeld ?_ ?_
        rotate_left
        ·rintro w' ⟨s0, s1, s2, s3⟩
         go_simp
         with_reducible rfl
        rotate_left
        ·exact nrm_
        refine take_ (i := 6) (N := some 299) (v := ?_) (a' := ?_) (bA 12 255) rfl rfl (by kernel_rfl) (fun _ _ _ h => h) (Or.inl ⟨by rfl, ?_⟩) hHeld ?_ ?_
        rotate_left
        ·rintro w' ⟨s0, s1, s2, s3⟩
         go_simp
         with_reducible rfl
        rotate_left
        ·exact nrm_
        refine pq_ (i := 8) (n := 301) (bA 12 511) (by kernel_rfl) ?_
        refine take_ (i := 9) (N := some 302) (v := ?_) (a' := ?_) (bA 12 1023) rfl rfl (by kernel_rfl) (fun _ _ _ h => h) (Or.inl ⟨by rfl, ?_⟩) hHeld ?_ ?_
        rotate_left
        ·rintro w' ⟨s0, s1, s2, s3⟩
         go_simp
         with_reducible rfl
        rotate_left
        ·exact nrm_
        refine one_ (i := 10) (N := some 303) (bA 12 2047) rfl rfl (by kernel_rfl) (by decide) (fun K hK => ?_)
        refine goes_ Try.func27 (by kernel_rfl) rfl #[.slice As (rd_L3 ss y).length cs, .slice Bs (rd_L3 ss y).length ds] (by rfl) rfl rfl (by simp only [List.map_toArray, List.map_cons, List.map_nil]; rfl) ?_
        with_reducible refine (spoolref05_Same.calls 31 As cs (rd_L3 ss y) Bs ds (rd_L3 ss y) true _ (Kd.C_drew HIA.out.2) HIA.out.1 (Kd.C_drew HIB.out.2) HIB.out.1 HSM.out).mono ?_
        rintro e w5 ⟨rfl, ⟨nd, rfl⟩⟩
        refine ⟨_, rfl, ?_⟩
        refine hK.out _ _ ⟨t1, z1, hsa, hsb⟩ (fun hHeld => ?_)
        clear hK K
        refine norm_ (a' := ?_) ?_ ?_
        rotate_left
        ·show Act.put _ (some 303) _ = _
         exact nrm_
        refine pq_ (i := 11) (n := 304) (bA 12 4095) (by kernel_rfl) ?_
        refine done_ (by kernel_rfl) ?_
        go_wp2_with fail
        cases gk with
        | zero => have := HI.out; have := HYI.out; omega
        | succ k1 =>
         have hw : wrap64 (y + 1) = ((i + 1 : Nat) : Int) := by have := HYI.out; have := HF.out.m; unfold wrap64; omega
         go_roundg k1
         case measure => omega
         case rel => exact ⟨_, i + 1, rfl, ⟨hw⟩, ⟨by have := HI.out; omega⟩, ⟨by have := HYI.out; omega⟩, ⟨pw_below_drewN HBL.out _⟩⟩
       ·have p4' : decide (y < (ss.length : Int)) = false := decide_eq_false (by omega)
        have HBE : Aside0 (Below wr.heap.size W wr → True) := ⟨fun _ => trivial⟩
        have HBW : Aside0 (Below W.heap.size W wr) := ⟨below_then HWR.out HWR.out.size (below_then HD4.out HD4.out.size HBL.out)⟩
        clear hy cc HBE
        go_wp2_with (go_at_call 7; (refine (spoollaw10_alive.calls true _ rfl).mono ?_); rintro e w6 ⟨rfl, hb⟩; have HB6 := Aside0.mk (below_then HBW.out HBW.out.size hb); clear hb)
        go_ret
        exact ⟨rfl, HB6.out⟩
   ·skip
    have HTH : Aside0 (thereB ns.length [root] = false) := ⟨by cases e : thereB ns.length [root] with | false => rfl | true => exact absurd (by simpa [thereB] using e) hr⟩
    go_upto_region 39 with (go_at_call 25; (refine (tree_not W W.heap.size u v ns ss root _ HB.out HTH.out).mono ?_); rintro e w1 ⟨rfl, hb⟩; have HB1 := Aside0.mk hb; clear hb)
    have HT := Aside0.mk (blk_new w1 (.cells #[.slice none 0 0, .slice none 0 0, .int .i64 0] 25 (0, 0)))
    have hba := below_alloc (Below.refl w1.heap.size w1) (.cells #[.slice none 0 0, .slice none 0 0, .int .i64 0] 25 (0, 0))
    have HBE : Aside0 (Below wr.heap.size wr (w1.alloc (.cells #[.slice none 0 0, .slice none 0 0, .int .i64 0] 25 (0, 0)))) := ⟨below_then HB1.out HB1.out.size hba⟩
    have HB2 := Aside0.mk (HB.out.under HBE.out)
    have HA2 := Aside0.mk (HA.out.under HBE.out)
    clear hba
    generalize w1.alloc (.cells #[.slice none 0 0, .slice none 0 0, .int .i64 0] 25 (0, 0)) = w2 at HT HBE HB2 HA2 ⊢
    obtain ⟨b17, hb17⟩ : ∃ b, w1.heap.size = b := ⟨_, rfl⟩
    rw [hb17] at HT ⊢
    clear hb17
    have HB2D := Aside0.mk (HB2.out.under (below_drew1 (Below.refl _ _)))
    obtain ⟨z0, z1, z2⟩ := cells25 HA2.out.box
    rw [HEW.out] at z0
    rw [HES.out] at z1
    have zd := (HA2.out.under (below_drew1 (Below.refl _ _))).box
    rw [HEW.out, HES.out] at zd
    obtain ⟨zd0, zd1, zd2⟩ := cells25 zd
    clear zd
    go_wp2_with fail
    refine start_ (n := 6) (S := fun w' => w'.cell? ⟨W.heap.size + 1, 0, none⟩ = some (.slice WA ns.length wc)) (ds := []) #[false, false, false, false, false, false] (by kernel_rfl) rfl rfl (z0) (fun hHeld => ?_)
    refine pq_ (i := 0) (n := 212) (bA 6 1) (by kernel_rfl) ?_
    refine pq_ (i := 2) (n := 214) (bA 6 5) (by kernel_rfl) ?_
    refine take_ (i := 3) (N := some 215) (v := ?_) (a' := ?_) (bA 6 13) rfl rfl (by kernel_rfl) (fun _ _ _ h => h) (Or.inl ⟨by rfl, ?_⟩) hHeld ?_ ?_
    rotate_left
    ·intro w' s0
     go_simp
     with_reducible rfl
    rotate_left
    ·exact nrm_
    refine pq_ (i := 4) (n := 216) (bA 6 29) (by kernel_rfl) ?_
    refine one_ (i := 1) (N := some 213) (bA 6 31) rfl rfl (by kernel_rfl) (by decide) (fun K hK => ?_)
    refine goes_ Try.func26 (by kernel_rfl) rfl #[.pointer (some ⟨W.heap.size, 0, none⟩)] (by rfl) rfl rfl (by simp only [List.map_toArray, List.map_cons, List.map_nil]; rfl) ?_
    with_reducible refine (len_calls W W.heap.size _ _ ns ss _ HB2D.out).mono ?_
    rintro e w4 ⟨rfl, rfl⟩
    refine ⟨_, rfl, ?_⟩
    refine hK.out _ _ (zd0) (fun hHeld => ?_)
    clear hK K
    refine norm_ (a' := ?_) ?_ ?_
    rotate_left
    ·show Act.put _ (some 213) _ = _
     exact nrm_
    refine pq_ (i := 5) (n := 217) (bA 6 63) (by kernel_rfl) ?_
    refine done_ (by kernel_rfl) ?_
    have HD : Aside0 (Below wr.heap.size wr w2.drew) := ⟨below_drew1 HBE.out⟩
    have HTD : Aside0 (w2.drew.heap[b17]? = some (.cells #[.slice none 0 0, .slice none 0 0, .int .i64 0] 25 (0, 0))) := ⟨blk_drew HT.out⟩
    clear z0 z1 z2 zd0 zd1 zd2 HT HB2D HB2 HA2 HBE
    generalize w2.drew = w3 at HD HTD ⊢
    have zd := (HA.out.under HD.out).box
    rw [HEW.out, HES.out] at zd
    obtain ⟨z0, z1, z2⟩ := cells25 zd
    obtain ⟨t0, t1, t2⟩ := cells25 HTD.out
    clear zd
    by_cases rr : root < 0
    ·have rr' : decide (root < 0) = true := decide_eq_true rr
     go_wp2_with (go_at_call 7; (refine (spoollaw10_alive.calls true _ rfl).mono ?_); rintro e w4 ⟨rfl, hb⟩; have HB4 := Aside0.mk (below_then HWR.out HWR.out.size (below_then HD.out HD.out.size hb)); clear hb)
     go_ret
     exact ⟨rfl, HB4.out⟩
    ·have rr' : decide (root < 0) = false := decide_eq_false rr
     have rg : root ≥ (ns.length : Int) := by omega
     have rg' : decide (root ≥ (ns.length : Int)) = true := decide_eq_true rg
     go_wp2_with (go_at_call 7; (refine (spoollaw10_alive.calls true _ rfl).mono ?_); rintro e w4 ⟨rfl, hb⟩; have HB4 := Aside0.mk (below_then HWR.out HWR.out.size (below_then HD.out HD.out.size hb)); clear hb)
     go_ret
     exact ⟨rfl, HB4.out⟩
end Go.Proofs.Ytbgoaigbkfibbaa.HandBuilds

/- ArenaBuilds, walked by hand: its answer is true. No condition. -/
namespace Go.Proofs.Ytbgoaigbkfibbaa.PA
open Go.RowKit Go.Proofs.YtbgoaigbkfibbaaW.PrintWords Go.Proofs.YtbgoaigbkfibbaaW.PrintLast Go.Proofs.YtbgoaigbkfibbaaW.PrintMore
set_option linter.unusedVariables false
def spoollaw10_ArenaBuilds.f (k : Nat) (l0 : List S39) (a1 : Int) : Option Bool := some true
theorem spoollaw10_ArenaBuilds.calls (k : Nat) (A0 : Option Addr) (c0 : Nat) (l0 : List S39) (a1 : Int) (r : Bool) (w : World) (hr0 : Kd.C k39 w A0 l0.length l0) (hc0 : l0.length ≤ c0) (h : spoollaw10_ArenaBuilds.f k l0 a1 = some r) :
  Calls Try.prog 4 #[.slice A0 l0.length c0, .int .i64 a1] w fun e w' => e = .returned (.bool r) ∧ Below w.heap.size w w' := by
 cases h
 exact HandBuilds.builds_calls A0 c0 l0 a1 w hr0
end Go.Proofs.Ytbgoaigbkfibbaa.PA

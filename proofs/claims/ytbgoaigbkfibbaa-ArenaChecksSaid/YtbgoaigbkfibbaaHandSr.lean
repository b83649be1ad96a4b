/- The document's Same by hand: two nodes of trees that may be. -/
import Derived.Test.YtbgoaigbkfibbaaPAx0
import Derived.Test.YtbgoaigbkfibbaaPAx13
import Derived.Test.YtbgoaigbkfibbaaHandSame
set_option linter.unusedSimpArgs false
set_option linter.unusedVariables false
namespace Go.Proofs.Ytbgoaigbkfibbaa.HandSr
open Go.RowKit Go.Proofs.Ytbgoaigbkfibbaa.PA Go.Proofs.YtbgoaigbkfibbaaW.PrintWords Go.Proofs.YtbgoaigbkfibbaaW.PrintLast Go.Proofs.YtbgoaigbkfibbaaW.PrintMore Go.Proofs.Ytbgoaigbkfibbaa.HandRight Go.Proofs.Ytbgoaigbkfibbaa.HandTwin Go.Proofs.Ytbgoaigbkfibbaa.HandAt Go.Proofs.Ytbgoaigbkfibbaa.PfT Go.Proofs.Ytbgoaigbkfibbaa.HandSame
theorem four_new (w : World) (o1 o2 o3 o4 : Obj) : ((((w.alloc o1).alloc o2).alloc o3).alloc o4).heap[w.heap.size]? = some o1 ∧ ((((w.alloc o1).alloc o2).alloc o3).alloc o4).heap[w.heap.size + 1]? = some o2 ∧ ((((w.alloc o1).alloc o2).alloc o3).alloc o4).heap[w.heap.size + 1 + 1]? = some o3 ∧ ((((w.alloc o1).alloc o2).alloc o3).alloc o4).heap[w.heap.size + 1 + 1 + 1]? = some o4 := by
  have h3 := blk_new ((w.alloc o1).alloc o2) o3
  have h4 := blk_new (((w.alloc o1).alloc o2).alloc o3) o4
  refine ⟨blk_alloc (blk_alloc (two_boxes w o1 o2).1 _) _, blk_alloc (blk_alloc (two_boxes w o1 o2).2 _) _, blk_alloc (by simpa using h3) _, by simpa using h4⟩
/-- What the document's Same does at a pair. -/
def SrC (la : List S41) (sa : List (List S55)) (ra : Int) (lb : List S41) (sb : List (List S55)) (rb : Int) (c0 c1 d0 d1 : Nat) (A0 A1 B0 B1 : Option Addr) (x y : Int) : Prop := ∀ (b : Bool), T la lb sa sb x y = b → ∀ (W : World), Kd.C k41 W A0 la.length la → Kd.C (Kd.slice 55 k55) W A1 sa.length sa → Kd.C k41 W B0 lb.length lb → Kd.C (Kd.slice 55 k55) W B1 sb.length sb →
  Calls Try.prog 13 #[.agg #[.slice A0 la.length c0, .slice A1 sa.length c1, .int .i64 ra], .int .i64 x, .agg #[.slice B0 lb.length d0, .slice B1 sb.length d1, .int .i64 rb], .int .i64 y] W fun e W' => e = .returned (.bool b) ∧ Below W.heap.size W W'
theorem sr_go {la : List S41} {sa : List (List S55)} {ra : Int} {lb : List S41} {sb : List (List S55)} {rb : Int} {c0 c1 d0 d1 : Nat} {A0 A1 B0 B1 : Option Addr} {x y : Int} (h : SrC la sa ra lb sb rb c0 c1 d0 d1 A0 A1 B0 B1 x y) (b : Bool) (hb : T la lb sa sb x y = b) (w0 : World) (h0 : Kd.C k41 w0 A0 la.length la) (h1 : Kd.C (Kd.slice 55 k55) w0 A1 sa.length sa) (h2 : Kd.C k41 w0 B0 lb.length lb) (h3 : Kd.C (Kd.slice 55 k55) w0 B1 sb.length sb) {W : World} (hw : Below w0.heap.size w0 W) :
    Calls Try.prog 13 #[.agg #[.slice A0 la.length c0, .slice A1 sa.length c1, .int .i64 ra], .int .i64 x, .agg #[.slice B0 lb.length d0, .slice B1 sb.length d1, .int .i64 rb], .int .i64 y] W fun e W' => e = .returned (.bool b) ∧ Below W.heap.size W W' :=
  h b hb W (Kd.C_below h0 hw) (Kd.C_below h1 hw) (Kd.C_below h2 hw) (Kd.C_below h3 hw)
set_option maxRecDepth 100000 in
set_option maxHeartbeats 2000000 in
theorem sr_one (la : List S41) (sa : List (List S55)) (ra : Int) (lb : List S41) (sb : List (List S55)) (rb : Int) (c0 c1 d0 d1 : Nat) (A0 A1 B0 B1 : Option Addr) (hta : TreeOK la sa) (htb : TreeOK lb sb) (x y : Int) (x0' : 0 ≤ x) (x1' : x < (la.length : Int)) (y0' : 0 ≤ y) (y1' : y < (lb.length : Int))
    (ih : ∀ x' y' : Int, 0 ≤ x' → x' < (la.length : Int) → 0 ≤ y' → y' < (lb.length : Int) → x' < x → SrC la sa ra lb sb rb c0 c1 d0 d1 A0 A1 B0 B1 x' y') : SrC la sa ra lb sb rb c0 c1 d0 d1 A0 A1 B0 B1 x y := by
  intro b hb W a0 a1 b0 b1
  obtain ⟨ad, eA, hx0, hx1, hx2, hx3, hx4, hx5⟩ := at_T41 a0 x x0' x1'
  obtain ⟨bd, eB, hy0, hy1, hy2, hy3, hy4, hy5⟩ := at_T41 b0 y y0' y1'
  subst eA eB
  obtain ⟨x0, x1, x2, x3, x4, x5, hX⟩ : ∃ x0 x1 x2 x3 x4 x5, rd_T41 la x = ⟨x0, x1, x2, x3, x4, x5⟩ := ⟨_, _, _, _, _, _, rfl⟩
  obtain ⟨y0, y1, y2, y3, y4, y5, hY⟩ : ∃ y0 y1 y2 y3 y4 y5, rd_T41 lb y = ⟨y0, y1, y2, y3, y4, y5⟩ := ⟨_, _, _, _, _, _, rfl⟩
  rw [hX] at hx0 hx1 hx2 hx3 hx4 hx5
  rw [hY] at hy0 hy1 hy2 hy3 hy4 hy5
  have hra := hta.right x x0' x1'
  have hrb := htb.right y y0' y1'
  rw [hX] at hra
  rw [hY] at hrb
  obtain ⟨hbx, hby⟩ := two_boxes W (.cells #[.slice (some ad) la.length c0, .slice A1 sa.length c1, .int .i64 ra] 25 (0, 0)) (.cells #[.slice (some bd) lb.length d0, .slice B1 sb.length d1, .int .i64 rb] 25 (0, 0))
  obtain ⟨hg0, hg1, hg2⟩ := cells25 hbx
  obtain ⟨hk0, hk1, hk2⟩ := cells25 (blk_alloc hby (.cells #[.int .i64 x0, .int .i64 x1, .int .i64 x2, .int .i64 x3, .int .i64 x4, .int .i64 x5] 41))
  have hy0' := cell_al (cell_al2 hy0 (.cells #[.slice (some ad) la.length c0, .slice A1 sa.length c1, .int .i64 ra] 25 (0, 0)) (.cells #[.slice (some bd) lb.length d0, .slice B1 sb.length d1, .int .i64 rb] 25 (0, 0))) (.cells #[.int .i64 x0, .int .i64 x1, .int .i64 x2, .int .i64 x3, .int .i64 x4, .int .i64 x5] 41)
  have hy1' := cell_al (cell_al2 hy1 (.cells #[.slice (some ad) la.length c0, .slice A1 sa.length c1, .int .i64 ra] 25 (0, 0)) (.cells #[.slice (some bd) lb.length d0, .slice B1 sb.length d1, .int .i64 rb] 25 (0, 0))) (.cells #[.int .i64 x0, .int .i64 x1, .int .i64 x2, .int .i64 x3, .int .i64 x4, .int .i64 x5] 41)
  have hy2' := cell_al (cell_al2 hy2 (.cells #[.slice (some ad) la.length c0, .slice A1 sa.length c1, .int .i64 ra] 25 (0, 0)) (.cells #[.slice (some bd) lb.length d0, .slice B1 sb.length d1, .int .i64 rb] 25 (0, 0))) (.cells #[.int .i64 x0, .int .i64 x1, .int .i64 x2, .int .i64 x3, .int .i64 x4, .int .i64 x5] 41)
  have hy3' := cell_al (cell_al2 hy3 (.cells #[.slice (some ad) la.length c0, .slice A1 sa.length c1, .int .i64 ra] 25 (0, 0)) (.cells #[.slice (some bd) lb.length d0, .slice B1 sb.length d1, .int .i64 rb] 25 (0, 0))) (.cells #[.int .i64 x0, .int .i64 x1, .int .i64 x2, .int .i64 x3, .int .i64 x4, .int .i64 x5] 41)
  have hy4' := cell_al (cell_al2 hy4 (.cells #[.slice (some ad) la.length c0, .slice A1 sa.length c1, .int .i64 ra] 25 (0, 0)) (.cells #[.slice (some bd) lb.length d0, .slice B1 sb.length d1, .int .i64 rb] 25 (0, 0))) (.cells #[.int .i64 x0, .int .i64 x1, .int .i64 x2, .int .i64 x3, .int .i64 x4, .int .i64 x5] 41)
  have hy5' := cell_al (cell_al2 hy5 (.cells #[.slice (some ad) la.length c0, .slice A1 sa.length c1, .int .i64 ra] 25 (0, 0)) (.cells #[.slice (some bd) lb.length d0, .slice B1 sb.length d1, .int .i64 rb] 25 (0, 0))) (.cells #[.int .i64 x0, .int .i64 x1, .int .i64 x2, .int .i64 x3, .int .i64 x4, .int .i64 x5] 41)
  have hx0' := cell_al2 hx0 (.cells #[.slice (some ad) la.length c0, .slice A1 sa.length c1, .int .i64 ra] 25 (0, 0)) (.cells #[.slice (some bd) lb.length d0, .slice B1 sb.length d1, .int .i64 rb] 25 (0, 0))
  have hx1' := cell_al2 hx1 (.cells #[.slice (some ad) la.length c0, .slice A1 sa.length c1, .int .i64 ra] 25 (0, 0)) (.cells #[.slice (some bd) lb.length d0, .slice B1 sb.length d1, .int .i64 rb] 25 (0, 0))
  have hx2' := cell_al2 hx2 (.cells #[.slice (some ad) la.length c0, .slice A1 sa.length c1, .int .i64 ra] 25 (0, 0)) (.cells #[.slice (some bd) lb.length d0, .slice B1 sb.length d1, .int .i64 rb] 25 (0, 0))
  have hx3' := cell_al2 hx3 (.cells #[.slice (some ad) la.length c0, .slice A1 sa.length c1, .int .i64 ra] 25 (0, 0)) (.cells #[.slice (some bd) lb.length d0, .slice B1 sb.length d1, .int .i64 rb] 25 (0, 0))
  have hx4' := cell_al2 hx4 (.cells #[.slice (some ad) la.length c0, .slice A1 sa.length c1, .int .i64 ra] 25 (0, 0)) (.cells #[.slice (some bd) lb.length d0, .slice B1 sb.length d1, .int .i64 rb] 25 (0, 0))
  have hx5' := cell_al2 hx5 (.cells #[.slice (some ad) la.length c0, .slice A1 sa.length c1, .int .i64 ra] 25 (0, 0)) (.cells #[.slice (some bd) lb.length d0, .slice B1 sb.length d1, .int .i64 rb] 25 (0, 0))
  have p0 : (0 ≤ x) = True := eq_true x0'
  have p1 : (x < (la.length : Int)) = True := eq_true x1'
  have p2 : (0 ≤ y) = True := eq_true y0'
  have p3 : (y < (lb.length : Int)) = True := eq_true y1'
  have p0' : decide (0 ≤ x) = true := decide_eq_true x0'
  have p1' : decide (x < (la.length : Int)) = true := decide_eq_true x1'
  have p2' : decide (0 ≤ y) = true := decide_eq_true y0'
  have p3' : decide (y < (lb.length : Int)) = true := decide_eq_true y1'
  have HA0 := Aside0.mk a0
  have HA1 := Aside0.mk a1
  have HB0 := Aside0.mk b0
  have HB1 := Aside0.mk b1
  have HRA := Aside0.mk hra
  have HRB := Aside0.mk hrb
  have HTA := Aside0.mk hta
  have HTB := Aside0.mk htb
  have HIH := Aside0.mk ih
  have hB := Aside0.mk hb
  have HX := Aside0.mk (And.intro x0' x1')
  have HY := Aside0.mk (And.intro y0' y1')
  have HX' := Aside0.mk hX
  have HY' := Aside0.mk hY
  clear a0 a1 b0 b1 hbx hby hra hrb hta htb ih hb x0' x1' y0' y1' hX hY hx0 hx1 hx2 hx3 hx4 hx5 hy0 hy1 hy2 hy3 hy4 hy5
  obtain ⟨f1, f2, f3, f4⟩ := four_new W (.cells #[.slice (some ad) la.length c0, .slice A1 sa.length c1, .int .i64 ra] 25 (0, 0)) (.cells #[.slice (some bd) lb.length d0, .slice B1 sb.length d1, .int .i64 rb] 25 (0, 0)) (.cells #[.int .i64 x0, .int .i64 x1, .int .i64 x2, .int .i64 x3, .int .i64 x4, .int .i64 x5] 41 (0, 0)) (.cells #[.int .i64 y0, .int .i64 y1, .int .i64 y2, .int .i64 y3, .int .i64 y4, .int .i64 y5] 41 (0, 0))
  have HX3 := Aside0.mk f1
  have HY3 := Aside0.mk f2
  have HP3 : Aside0 (((((W.alloc (.cells #[.slice (some ad) la.length c0, .slice A1 sa.length c1, .int .i64 ra] 25 (0, 0))).alloc (.cells #[.slice (some bd) lb.length d0, .slice B1 sb.length d1, .int .i64 rb] 25 (0, 0))).alloc (.cells #[.int .i64 x0, .int .i64 x1, .int .i64 x2, .int .i64 x3, .int .i64 x4, .int .i64 x5] 41 (0, 0))).alloc (.cells #[.int .i64 y0, .int .i64 y1, .int .i64 y2, .int .i64 y3, .int .i64 y4, .int .i64 y5] 41 (0, 0))).heap[W.heap.size + 1 + 1]? = some (N41 x0 x1 x2 x3 x4 x5)) := ⟨f3⟩
  have HQ3 : Aside0 (((((W.alloc (.cells #[.slice (some ad) la.length c0, .slice A1 sa.length c1, .int .i64 ra] 25 (0, 0))).alloc (.cells #[.slice (some bd) lb.length d0, .slice B1 sb.length d1, .int .i64 rb] 25 (0, 0))).alloc (.cells #[.int .i64 x0, .int .i64 x1, .int .i64 x2, .int .i64 x3, .int .i64 x4, .int .i64 x5] 41 (0, 0))).alloc (.cells #[.int .i64 y0, .int .i64 y1, .int .i64 y2, .int .i64 y3, .int .i64 y4, .int .i64 y5] 41 (0, 0))).heap[W.heap.size + 1 + 1 + 1]? = some (N41 y0 y1 y2 y3 y4 y5)) := ⟨f4⟩
  have HBw : Aside0 (Below W.heap.size W ((((W.alloc (.cells #[.slice (some ad) la.length c0, .slice A1 sa.length c1, .int .i64 ra] 25 (0, 0))).alloc (.cells #[.slice (some bd) lb.length d0, .slice B1 sb.length d1, .int .i64 rb] 25 (0, 0))).alloc (.cells #[.int .i64 x0, .int .i64 x1, .int .i64 x2, .int .i64 x3, .int .i64 x4, .int .i64 x5] 41 (0, 0))).alloc (.cells #[.int .i64 y0, .int .i64 y1, .int .i64 y2, .int .i64 y3, .int .i64 y4, .int .i64 y5] 41 (0, 0)))) := ⟨below_alloc (below_alloc (below_alloc (below_alloc (Below.refl _ _) _) _) _) _⟩
  clear f1 f2 f3 f4
  obtain ⟨hg0', hg1', hg2'⟩ := cells25 HX3.out
  obtain ⟨hk0', hk1', hk2'⟩ := cells25 HY3.out
  obtain ⟨hp0, hp1, hp2, hp3, hp4, hp5⟩ := n_cells HP3.out
  obtain ⟨hq0, hq1, hq2, hq3, hq4, hq5⟩ := n_cells HQ3.out
  by_cases e0 : x0 = y0
  case neg =>
    have ht : T la lb sa sb x y = false := by
      rw [T_eq la lb sa sb HTA.out.right x y HX.out.1 HX.out.2, HX'.out, HY'.out, if_neg (fun h => e0 h.1)]
    have HT := Aside0.mk ht
    have e0' : decide (x0 = y0) = false := decide_eq_false e0
    have e0'' : (x0 == y0) = false := beq_eq_false_iff_ne.mpr e0
    clear ht
    go_enter Try.func13, Try.ntmps13
    go_wp2_with fail
    go_ret
    exact ⟨by rw [← hB.out, HT.out]; rfl, HBw.out⟩
  by_cases e3 : x3 = y3
  case neg =>
    have ht : T la lb sa sb x y = false := by
      rw [T_eq la lb sa sb HTA.out.right x y HX.out.1 HX.out.2, HX'.out, HY'.out, if_neg (fun h => e3 h.2.1)]
    have HT := Aside0.mk ht
    subst e0
    have e3' : decide (x3 = y3) = false := decide_eq_false e3
    have e3'' : (x3 == y3) = false := beq_eq_false_iff_ne.mpr e3
    clear ht
    go_enter Try.func13, Try.ntmps13
    go_wp2_with fail
    go_ret
    exact ⟨by rw [← hB.out, HT.out]; rfl, HBw.out⟩
  by_cases e4 : x4 = y4
  case neg =>
    have ht : T la lb sa sb x y = false := by
      rw [T_eq la lb sa sb HTA.out.right x y HX.out.1 HX.out.2, HX'.out, HY'.out, if_neg (fun h => e4 h.2.2)]
    have HT := Aside0.mk ht
    subst e0 e3
    have e4' : decide (x4 = y4) = false := decide_eq_false e4
    have e4'' : (x4 == y4) = false := beq_eq_false_iff_ne.mpr e4
    clear ht
    go_enter Try.func13, Try.ntmps13
    go_wp2_with fail
    go_ret
    exact ⟨by rw [← hB.out, HT.out]; rfl, HBw.out⟩
  subst e0 e3 e4
  by_cases o2 : x0 = 2
  case pos =>
    subst o2
    obtain ⟨i0, i1⟩ := right2 HRA.out
    obtain ⟨j0, j1⟩ := right2 HRB.out
    obtain ⟨k, ht⟩ : ∃ k, spoolref05_Same.f k (rd_L3 sa x5) (rd_L3 sb y5) = some b := by
      rw [← hB.out, T_eq la lb sa sb HTA.out.right x y HX.out.1 HX.out.2, HX'.out, HY'.out, if_pos ⟨rfl, rfl, rfl⟩, if_pos rfl]
      exact ⟨_, Same_f _ _ (HTA.out.set _) _ (Nat.lt_succ_self _)⟩
    obtain ⟨sad, As, cs, esA, hsa, hla, hia⟩ := at_L3 (Kd.C_below HA1.out HBw.out) x5 i0 i1
    obtain ⟨tad, Bs, ds, esB, hsb, hlb, hib⟩ := at_L3 (Kd.C_below HB1.out HBw.out) y5 j0 j1
    subst esA esB
    have p0 := eq_true i0
    have p0' := decide_eq_true i0
    have p1 := eq_true i1
    have p1' := decide_eq_true i1
    have p2 := eq_true j0
    have p2' := decide_eq_true j0
    have p3 := eq_true j1
    have p3' := decide_eq_true j1
    have HT := Aside0.mk ht
    clear ht i0 i1 j0 j1
    go_enter Try.func13, Try.ntmps13
    go_wp2_with fail
    refine start_ (n := 14) (S := fun w' => w'.cell? ⟨W.heap.size, 1, none⟩ = some (.slice (some sad) sa.length c1) ∧ w'.cell? ⟨W.heap.size + 1 + 1, 5, none⟩ = some (.int .i64 x5) ∧ w'.cell? (sad.add x5.toNat) = some (.slice As (rd_L3 sa x5).length cs) ∧ w'.cell? ⟨W.heap.size + 1, 1, none⟩ = some (.slice (some tad) sb.length d1) ∧ w'.cell? ⟨W.heap.size + 1 + 1 + 1, 5, none⟩ = some (.int .i64 y5) ∧ w'.cell? (tad.add y5.toNat) = some (.slice Bs (rd_L3 sb y5).length ds)) (ds := []) #[false, false, false, false, false, false, false, false, false, false, false, false, false, false] (by kernel_rfl) rfl rfl ⟨hg1', hp5, hsa, hk1', hq5, hsb⟩ (fun hHeld => ?_)
    refine pure_ (i := 0) (N := some 44) (v := ?_) (a' := ?_) #[true, false, false, false, false, false, false, false, false, false, false, false, false, false] rfl rfl (by kernel_rfl) (fun _ _ _ h => h) (Or.inl ⟨by rfl, ?_⟩) ?_ ?_
    rotate_left
    · intro w'
      go_simp
      with_reducible rfl
    rotate_left
    · exact nrm_
    refine pure_ (i := 2) (N := some 46) (v := ?_) (a' := ?_) #[true, false, true, false, false, false, false, false, false, false, false, false, false, false] rfl rfl (by kernel_rfl) (fun _ _ _ h => h) (Or.inl ⟨by rfl, ?_⟩) ?_ ?_
    rotate_left
    · intro w'
      go_simp
      with_reducible rfl
    rotate_left
    · exact nrm_
    refine pure_ (i := 6) (N := some 50) (v := ?_) (a' := ?_) #[true, false, true, false, false, false, true, false, false, false, false, false, false, false] rfl rfl (by kernel_rfl) (fun _ _ _ h => h) (Or.inl ⟨by rfl, ?_⟩) ?_ ?_
    rotate_left
    · intro w'
      go_simp
      with_reducible rfl
    rotate_left
    · exact nrm_
    refine pure_ (i := 8) (N := some 52) (v := ?_) (a' := ?_) #[true, false, true, false, false, false, true, false, true, false, false, false, false, false] rfl rfl (by kernel_rfl) (fun _ _ _ h => h) (Or.inl ⟨by rfl, ?_⟩) ?_ ?_
    rotate_left
    · intro w'
      go_simp
      with_reducible rfl
    rotate_left
    · exact nrm_
    refine take_ (i := 1) (N := some 45) (v := ?_) (a' := ?_) #[true, true, true, false, false, false, true, false, true, false, false, false, false, false] rfl rfl (by kernel_rfl) (fun _ _ _ h => h) (Or.inl ⟨by rfl, ?_⟩) hHeld ?_ ?_
    rotate_left
    · rintro w' ⟨s0, s1, s2, s3, s4, s5⟩
      go_simp
      with_reducible rfl
    rotate_left
    · exact nrm_
    refine take_ (i := 3) (N := some 47) (v := ?_) (a' := ?_) #[true, true, true, true, false, false, true, false, true, false, false, false, false, false] rfl rfl (by kernel_rfl) (fun _ _ _ h => h) (Or.inl ⟨by rfl, ?_⟩) hHeld ?_ ?_
    rotate_left
    · rintro w' ⟨s0, s1, s2, s3, s4, s5⟩
      go_simp
      with_reducible rfl
    rotate_left
    · exact nrm_
    refine pure_ (i := 4) (N := some 48) (v := ?_) (a' := ?_) #[true, true, true, true, true, false, true, false, true, false, false, false, false, false] rfl rfl (by kernel_rfl) (fun _ _ _ h => h) (Or.inl ⟨by rfl, ?_⟩) ?_ ?_
    rotate_left
    · intro w'
      go_simp
      with_reducible rfl
    rotate_left
    · exact nrm_
    refine take_ (i := 5) (N := some 49) (v := ?_) (a' := ?_) #[true, true, true, true, true, true, true, false, true, false, false, false, false, false] rfl rfl (by kernel_rfl) (fun _ _ _ h => h) (Or.inl ⟨by rfl, ?_⟩) hHeld ?_ ?_
    rotate_left
    · rintro w' ⟨s0, s1, s2, s3, s4, s5⟩
      go_simp
      with_reducible rfl
    rotate_left
    · exact nrm_
    refine take_ (i := 7) (N := some 51) (v := ?_) (a' := ?_) #[true, true, true, true, true, true, true, true, true, false, false, false, false, false] rfl rfl (by kernel_rfl) (fun _ _ _ h => h) (Or.inl ⟨by rfl, ?_⟩) hHeld ?_ ?_
    rotate_left
    · rintro w' ⟨s0, s1, s2, s3, s4, s5⟩
      go_simp
      with_reducible rfl
    rotate_left
    · exact nrm_
    refine take_ (i := 9) (N := some 53) (v := ?_) (a' := ?_) #[true, true, true, true, true, true, true, true, true, true, false, false, false, false] rfl rfl (by kernel_rfl) (fun _ _ _ h => h) (Or.inl ⟨by rfl, ?_⟩) hHeld ?_ ?_
    rotate_left
    · rintro w' ⟨s0, s1, s2, s3, s4, s5⟩
      go_simp
      with_reducible rfl
    rotate_left
    · exact nrm_
    refine pure_ (i := 10) (N := some 54) (v := ?_) (a' := ?_) #[true, true, true, true, true, true, true, true, true, true, true, false, false, false] rfl rfl (by kernel_rfl) (fun _ _ _ h => h) (Or.inl ⟨by rfl, ?_⟩) ?_ ?_
    rotate_left
    · intro w'
      go_simp
      with_reducible rfl
    rotate_left
    · exact nrm_
    refine take_ (i := 11) (N := some 55) (v := ?_) (a' := ?_) #[true, true, true, true, true, true, true, true, true, true, true, true, false, false] rfl rfl (by kernel_rfl) (fun _ _ _ h => h) (Or.inl ⟨by rfl, ?_⟩) hHeld ?_ ?_
    rotate_left
    · rintro w' ⟨s0, s1, s2, s3, s4, s5⟩
      go_simp
      with_reducible rfl
    rotate_left
    · exact nrm_
    refine one_ (i := 12) (N := some 56) #[true, true, true, true, true, true, true, true, true, true, true, true, true, false] rfl rfl (by kernel_rfl) (by decide) (fun K hK => ?_)
    refine goes_ Try.func27 (by kernel_rfl) rfl #[.slice As (rd_L3 sa x5).length cs, .slice Bs (rd_L3 sb y5).length ds] (by rfl) rfl rfl (by simp only [List.map_toArray, List.map_cons, List.map_nil]; rfl) ?_
    with_reducible refine (spoolref05_Same.calls k As cs (rd_L3 sa x5) Bs ds (rd_L3 sb y5) b _ (Kd.C_drew hia) hla (Kd.C_drew hib) hlb HT.out).mono ?_
    rintro e w4 ⟨rfl, ⟨nd, rfl⟩⟩
    refine ⟨_, rfl, ?_⟩
    refine hK.out _ _ ⟨hg1', hp5, hsa, hk1', hq5, hsb⟩ (fun hHeld => ?_)
    clear hK K
    refine norm_ (a' := ?_) ?_ ?_
    rotate_left
    · show Act.put _ (some 56) _ = _
      exact nrm_
    refine pure_ (i := 13) (N := some 8) (v := ?_) (a' := ?_) #[true, true, true, true, true, true, true, true, true, true, true, true, true, true] rfl rfl (by kernel_rfl) (fun _ _ _ h => h) (Or.inl ⟨by rfl, ?_⟩) ?_ ?_
    rotate_left
    · intro w'
      go_simp
      with_reducible rfl
    rotate_left
    · exact nrm_
    refine done_ (by kernel_rfl) ?_
    go_wp2_with fail
    go_ret
    exact ⟨rfl, below_then HBw.out HBw.out.size (by repeat (first | exact Below.refl _ _ | apply pw_below_drewN | exact (Below.refl _ _).drew))⟩
  by_cases o34 : x0 = 3 ∨ x0 = 4
  case pos =>
    obtain ⟨⟨i0, i1⟩, ⟨i2, i3⟩⟩ := right34 o34 HRA.out
    obtain ⟨⟨j0, j1⟩, ⟨j2, j3⟩⟩ := right34 o34 HRB.out
    have ht : T la lb sa sb x y = (T la lb sa sb x1 y1 && T la lb sa sb x2 y2) := by
      rw [T_eq la lb sa sb HTA.out.right x y HX.out.1 HX.out.2, HX'.out, HY'.out, if_pos ⟨rfl, rfl, rfl⟩, if_neg o2, if_pos o34]
    have hl1 := HX.out
    have hl2 := HY.out
    have HI1 := Aside0.mk (HIH.out x1 y1 i0 (by omega) j0 (by omega) i1)
    have HI2 := Aside0.mk (HIH.out x2 y2 i2 (by omega) j2 (by omega) i3)
    obtain ⟨b1, hb1⟩ : ∃ b1, T la lb sa sb x1 y1 = b1 := ⟨_, rfl⟩
    rw [hb1] at ht
    have HT1 := Aside0.mk hb1
    have HT := Aside0.mk ht
    clear ht hb1 i0 i1 i2 i3 j0 j1 j2 j3 o2 hl1 hl2
    rcases o34 with rfl | rfl
    · skip
      cases b1 with
      | false =>
        go_enter Try.func13, Try.ntmps13
        go_wp2_with (go_at_call 13; (refine (sr_go HI1.out _ HT1.out W HA0.out HA1.out HB0.out HB1.out HBw.out).mono ?_); rintro e w4 ⟨rfl, hb⟩; have HF : Aside0 (Below W.heap.size W w4) := ⟨below_then HBw.out HBw.out.size hb⟩; clear hb)
        go_ret
        exact ⟨by rw [← hB.out, HT.out]; rfl, HF.out⟩
      | true =>
        go_enter Try.func13, Try.ntmps13
        go_wp2_with (first | (go_at_call 13; (refine (sr_go HI2.out _ rfl W HA0.out HA1.out HB0.out HB1.out HBv.out).mono ?_); rintro e w5 ⟨rfl, hb⟩; have HF : Aside0 (Below W.heap.size W w5) := ⟨below_then HBv.out HBv.out.size hb⟩; clear hb) | (go_at_call 13; (refine (sr_go HI1.out _ HT1.out W HA0.out HA1.out HB0.out HB1.out HBw.out).mono ?_); rintro e w4 ⟨rfl, hb⟩; have HBv : Aside0 (Below W.heap.size W w4) := ⟨below_then HBw.out HBw.out.size hb⟩; obtain ⟨hg0, hg1, hg2⟩ := cells25 (blk_below HX3.out hb); obtain ⟨hk0, hk1, hk2⟩ := cells25 (blk_below HY3.out hb); obtain ⟨hp0, hp1, hp2, hp3, hp4, hp5⟩ := n_cells (blk_below HP3.out hb); obtain ⟨hq0, hq1, hq2, hq3, hq4, hq5⟩ := n_cells (blk_below HQ3.out hb); clear hb))
        go_ret
        exact ⟨by rw [← hB.out, HT.out]; rfl, HF.out⟩
    · skip
      cases b1 with
      | false =>
        go_enter Try.func13, Try.ntmps13
        go_wp2_with (go_at_call 13; (refine (sr_go HI1.out _ HT1.out W HA0.out HA1.out HB0.out HB1.out HBw.out).mono ?_); rintro e w4 ⟨rfl, hb⟩; have HF : Aside0 (Below W.heap.size W w4) := ⟨below_then HBw.out HBw.out.size hb⟩; clear hb)
        go_ret
        exact ⟨by rw [← hB.out, HT.out]; rfl, HF.out⟩
      | true =>
        go_enter Try.func13, Try.ntmps13
        go_wp2_with (first | (go_at_call 13; (refine (sr_go HI2.out _ rfl W HA0.out HA1.out HB0.out HB1.out HBv.out).mono ?_); rintro e w5 ⟨rfl, hb⟩; have HF : Aside0 (Below W.heap.size W w5) := ⟨below_then HBv.out HBv.out.size hb⟩; clear hb) | (go_at_call 13; (refine (sr_go HI1.out _ HT1.out W HA0.out HA1.out HB0.out HB1.out HBw.out).mono ?_); rintro e w4 ⟨rfl, hb⟩; have HBv : Aside0 (Below W.heap.size W w4) := ⟨below_then HBw.out HBw.out.size hb⟩; obtain ⟨hg0, hg1, hg2⟩ := cells25 (blk_below HX3.out hb); obtain ⟨hk0, hk1, hk2⟩ := cells25 (blk_below HY3.out hb); obtain ⟨hp0, hp1, hp2, hp3, hp4, hp5⟩ := n_cells (blk_below HP3.out hb); obtain ⟨hq0, hq1, hq2, hq3, hq4, hq5⟩ := n_cells (blk_below HQ3.out hb); clear hb))
        go_ret
        exact ⟨by rw [← hB.out, HT.out]; rfl, HF.out⟩
  by_cases o5 : x0 = 5
  case pos =>
    subst o5
    obtain ⟨i0, i1⟩ := right5 HRA.out
    obtain ⟨j0, j1⟩ := right5 HRB.out
    have ht : T la lb sa sb x y = T la lb sa sb x1 y1 := by
      rw [T_eq la lb sa sb HTA.out.right x y HX.out.1 HX.out.2, HX'.out, HY'.out, if_pos ⟨rfl, rfl, rfl⟩, if_neg o2, if_neg o34, if_pos rfl]
    have hl1 := HX.out
    have hl2 := HY.out
    have HI1 := Aside0.mk (HIH.out x1 y1 i0 (by omega) j0 (by omega) i1)
    have HT := Aside0.mk ht
    clear ht i0 i1 j0 j1 o2 o34 hl1 hl2
    go_enter Try.func13, Try.ntmps13
    go_wp2_with (go_at_call 13; (refine (sr_go HI1.out _ rfl W HA0.out HA1.out HB0.out HB1.out HBw.out).mono ?_); rintro e w4 ⟨rfl, hb⟩; have HF : Aside0 (Below W.heap.size W w4) := ⟨below_then HBw.out HBw.out.size hb⟩; clear hb)
    go_ret
    exact ⟨by rw [← hB.out, HT.out]; rfl, HF.out⟩
  have o1 := right1 HRA.out o2 (fun h => o34 (.inl h)) (fun h => o34 (.inr h)) o5
  subst o1
  have ht : T la lb sa sb x y = true := by
    rw [T_eq la lb sa sb HTA.out.right x y HX.out.1 HX.out.2, HX'.out, HY'.out, if_pos ⟨rfl, rfl, rfl⟩, if_neg o2, if_neg o34, if_neg o5]
  have HT := Aside0.mk ht
  clear ht o2 o34 o5
  go_enter Try.func13, Try.ntmps13
  go_wp2_with fail
  go_ret
  exact ⟨by rw [← hB.out, HT.out]; rfl, HBw.out⟩
theorem sr_all (la : List S41) (sa : List (List S55)) (ra : Int) (lb : List S41) (sb : List (List S55)) (rb : Int) (c0 c1 d0 d1 : Nat) (A0 A1 B0 B1 : Option Addr) (hta : TreeOK la sa) (htb : TreeOK lb sb) (n : Nat) :
    ∀ x y : Int, 0 ≤ x → x < (la.length : Int) → 0 ≤ y → y < (lb.length : Int) → x < (n : Int) → SrC la sa ra lb sb rb c0 c1 d0 d1 A0 A1 B0 B1 x y := by
  induction n with
  | zero => intro x y _ _ _ _ h; omega
  | succ n ih => exact fun x y h0 h1 h2 h3 h4 => sr_one la sa ra lb sb rb c0 c1 d0 d1 A0 A1 B0 B1 hta htb x y h0 h1 h2 h3 (fun x' y' a b c d e => ih x' y' a b c d (by omega))
def spoolref10_Same.f (l0_0 : List S41) (l0_1 : List (List S55)) (a0_2 a1 : Int) (l2_0 : List S41) (l2_1 : List (List S55)) (a2_2 a3 : Int) : Option Bool :=
  if ((treeB l0_0 l0_1 && treeB l2_0 l2_1) && (decide (0 ≤ a1 ∧ a1 < (l0_0.length : Int)) && decide (0 ≤ a3 ∧ a3 < (l2_0.length : Int)))) = true then some (T l0_0 l2_0 l0_1 l2_1 a1 a3) else none
theorem spoolref10_Same.calls (A0_0 : Option Addr) (c0_0 : Nat) (l0_0 : List (S41)) (A0_1 : Option Addr) (c0_1 : Nat) (l0_1 : List (List (S55))) (a0_2 : Int) (a1 : Int) (A2_0 : Option Addr) (c2_0 : Nat) (l2_0 : List (S41)) (A2_1 : Option Addr) (c2_1 : Nat) (l2_1 : List (List (S55))) (a2_2 : Int) (a3 : Int) (r : Bool) (w : World)
    (hr0_0 : Kd.C k41 w A0_0 l0_0.length l0_0) (hc0_0 : l0_0.length ≤ c0_0) (hr0_1 : Kd.C (Kd.slice 55 k55) w A0_1 l0_1.length l0_1) (hc0_1 : l0_1.length ≤ c0_1) (hr2_0 : Kd.C k41 w A2_0 l2_0.length l2_0) (hc2_0 : l2_0.length ≤ c2_0) (hr2_1 : Kd.C (Kd.slice 55 k55) w A2_1 l2_1.length l2_1) (hc2_1 : l2_1.length ≤ c2_1)
    (h : spoolref10_Same.f l0_0 l0_1 a0_2 a1 l2_0 l2_1 a2_2 a3 = some r) :
    Calls Try.prog 13 #[.agg #[.slice A0_0 l0_0.length c0_0, .slice A0_1 l0_1.length c0_1, .int .i64 a0_2], .int .i64 a1, .agg #[.slice A2_0 l2_0.length c2_0, .slice A2_1 l2_1.length c2_1, .int .i64 a2_2], .int .i64 a3] w fun e w' => e = .returned (.bool r) ∧ Below w.heap.size w w' := by
  unfold spoolref10_Same.f at h
  split at h
  · rename_i hc
    simp only [Bool.and_eq_true, decide_eq_true_eq, treeB_ok] at hc
    obtain ⟨⟨ha, hb⟩, ⟨r0, r1⟩, s0, s1⟩ := hc
    cases h
    exact sr_all l0_0 l0_1 a0_2 l2_0 l2_1 a2_2 c0_0 c0_1 c2_0 c2_1 A0_0 A0_1 A2_0 A2_1 ha hb (a1.toNat + 1) a1 a3 r0 r1 s0 s1 (by omega) _ rfl w hr0_0 hr0_1 hr2_0 hr2_1
  · cases h
end Go.Proofs.Ytbgoaigbkfibbaa.HandSr

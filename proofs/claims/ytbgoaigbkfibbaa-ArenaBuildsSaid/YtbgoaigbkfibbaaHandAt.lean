/- Whether two nodes are the same: twin.at. -/
import Derived.Test.YtbgoaigbkfibbaaPAx0
import Derived.Test.YtbgoaigbkfibbaaPAx2
import Derived.Test.YtbgoaigbkfibbaaHandTwin
set_option linter.unusedSimpArgs false
set_option linter.unusedVariables false
namespace Go.Proofs.Ytbgoaigbkfibbaa.HandAt
open Go.RowKit Go.Maps Go.WideMaps Go.Proofs.YtbgoaigbkfibbaaW.PrintWords Go.Proofs.YtbgoaigbkfibbaaW.PrintLast Go.Proofs.YtbgoaigbkfibbaaW.PrintMore Go.Proofs.Ytbgoaigbkfibbaa.PA Go.Proofs.Ytbgoaigbkfibbaa.HandKey Go.Proofs.Ytbgoaigbkfibbaa.HandRight Go.Proofs.Ytbgoaigbkfibbaa.HandTwin
structure Tw.Ok (V : Tw) : Prop where
 hg : V.w0.heap.size ≤ V.g
 hm : V.w0.heap.size ≤ V.mb
 a0 : Kd.C k41 V.w0 V.A0 V.la.length V.la
 a1 : Kd.C (Kd.slice 55 k55) V.w0 V.A1 V.sa.length V.sa
 b0 : Kd.C k41 V.w0 V.B0 V.lb.length V.lb
 b1 : Kd.C (Kd.slice 55 k55) V.w0 V.B1 V.sb.length V.sb
 la4 : V.la.length ≤ 4096
 lb4 : V.lb.length ≤ 4096
 ra : ∀ i : Int, 0 ≤ i → i < (V.la.length : Int) → rightN (rd_T41 V.la i) i (V.sa.length : Int) = true
 rb : ∀ i : Int, 0 ≤ i → i < (V.lb.length : Int) → rightN (rd_T41 V.lb i) i (V.sb.length : Int) = true
 t0 : ∀ x y : Int, 0 ≤ x → x < (V.la.length : Int) → 0 ≤ y → y < (V.lb.length : Int) → ¬ ((rd_T41 V.la x).f0 = (rd_T41 V.lb y).f0 ∧ (rd_T41 V.la x).f3 = (rd_T41 V.lb y).f3 ∧ (rd_T41 V.la x).f4 = (rd_T41 V.lb y).f4) → V.T x y = false
 t2 : ∀ x y : Int, 0 ≤ x → x < (V.la.length : Int) → 0 ≤ y → y < (V.lb.length : Int) → (rd_T41 V.la x).f0 = (rd_T41 V.lb y).f0 → (rd_T41 V.la x).f3 = (rd_T41 V.lb y).f3 → (rd_T41 V.la x).f4 = (rd_T41 V.lb y).f4 → (rd_T41 V.la x).f0 = 2 → ∃ k, api_Range_46.f k (rd_L3 V.sa (rd_T41 V.la x).f5) (rd_L3 V.sb (rd_T41 V.lb y).f5) = some (V.T x y)
 t3 : ∀ x y : Int, 0 ≤ x → x < (V.la.length : Int) → 0 ≤ y → y < (V.lb.length : Int) → (rd_T41 V.la x).f0 = (rd_T41 V.lb y).f0 → (rd_T41 V.la x).f3 = (rd_T41 V.lb y).f3 → (rd_T41 V.la x).f4 = (rd_T41 V.lb y).f4 → (rd_T41 V.la x).f0 = 3 ∨ (rd_T41 V.la x).f0 = 4 → V.T x y = (V.T (rd_T41 V.la x).f1 (rd_T41 V.lb y).f1 && V.T (rd_T41 V.la x).f2 (rd_T41 V.lb y).f2)
 t5 : ∀ x y : Int, 0 ≤ x → x < (V.la.length : Int) → 0 ≤ y → y < (V.lb.length : Int) → (rd_T41 V.la x).f0 = (rd_T41 V.lb y).f0 → (rd_T41 V.la x).f3 = (rd_T41 V.lb y).f3 → (rd_T41 V.la x).f4 = (rd_T41 V.lb y).f4 → (rd_T41 V.la x).f0 = 5 → V.T x y = V.T (rd_T41 V.la x).f1 (rd_T41 V.lb y).f1
 t1 : ∀ x y : Int, 0 ≤ x → x < (V.la.length : Int) → 0 ≤ y → y < (V.lb.length : Int) → (rd_T41 V.la x).f0 = (rd_T41 V.lb y).f0 → (rd_T41 V.la x).f3 = (rd_T41 V.lb y).f3 → (rd_T41 V.la x).f4 = (rd_T41 V.lb y).f4 → (rd_T41 V.la x).f0 = 1 → V.T x y = true
 u3 : ∀ y : Int, 0 ≤ y → y < (V.lb.length : Int) → (rd_T41 V.lb y).f0 = 3 ∨ (rd_T41 V.lb y).f0 = 4 → V.C (rd_T41 V.lb y).f1 + V.C (rd_T41 V.lb y).f2 + 1 ≤ V.C y
 u5 : ∀ y : Int, 0 ≤ y → y < (V.lb.length : Int) → (rd_T41 V.lb y).f0 = 5 → V.C (rd_T41 V.lb y).f1 + 1 ≤ V.C y
 u1 : ∀ y : Int, 0 ≤ y → y < (V.lb.length : Int) → 1 ≤ V.C y
theorem cell_far_ {W : World} {a b : Addr} {v : Value} (h : W.cell? a = some v) (hne : a.block ≠ b.block) (u : Value) : (W.setCell b u).cell? a = some v := (World.cell?_of_block (w := W) (Below.heap_setCell W b u a.block hne)).trans h
theorem far6 {w : World} {a : Addr} {v : Value} {p : Nat} (h : w.cell? a = some v) (hne : a.block ≠ p) (u0 u1 u2 u3 u4 u5 : Value) :
  ((((((w.setCell ⟨p, 0, none⟩ u0).setCell ⟨p, 1, none⟩ u1).setCell ⟨p, 2, none⟩ u2).setCell ⟨p, 3, none⟩ u3).setCell ⟨p, 4, none⟩ u4).setCell ⟨p, 5, none⟩ u5).cell? a = some v :=
 cell_far_ (cell_far_ (cell_far_ (cell_far_ (cell_far_ (cell_far_ h hne u0) hne u1) hne u2) hne u3) hne u4) hne u5
def Z41 : Obj := .cells #[.int .i64 0, .int .i64 0, .int .i64 0, .int .i64 0, .int .i64 0, .int .i64 0] 41
def N41 (x0 x1 x2 x3 x4 x5 : Int) : Obj := .cells #[.int .i64 x0, .int .i64 x1, .int .i64 x2, .int .i64 x3, .int .i64 x4, .int .i64 x5] 41
/-- A node was written into a new block. -/
def Put6 (W w w2 : World) (p : Nat) (x0 x1 x2 x3 x4 x5 : Int) : Prop := Below W.heap.size W w2 ∧ w2.heap[p]? = some (N41 x0 x1 x2 x3 x4 x5) ∧ ∀ g, g ≠ p → ∀ (t : TypeId) (cs : Array Value), w.heap[g]? = some (.cells cs t (0, 0)) → w2.heap[g]? = some (.cells cs t (0, 0))
theorem put6 {W w : World} {p : Nat} (hB : Below W.heap.size W w) (hp : w.heap[p]? = some Z41) (hle : W.heap.size ≤ p) (x0 x1 x2 x3 x4 x5 : Int) :
  Put6 W w ((((((w.setCell ⟨p, 0, none⟩ (.int .i64 x0)).setCell ⟨p, 1, none⟩ (.int .i64 x1)).setCell ⟨p, 2, none⟩ (.int .i64 x2)).setCell ⟨p, 3, none⟩ (.int .i64 x3)).setCell ⟨p, 4, none⟩ (.int .i64 x4)).setCell ⟨p, 5, none⟩ (.int .i64 x5)) p x0 x1 x2 x3 x4 x5 := by
 refine ⟨below_set (below_set (below_set (below_set (below_set (below_set hB hle) hle) hle) hle) hle) hle, ?_, ?_⟩
 ·exact blk_put (blk_put (blk_put (blk_put (blk_put (blk_put hp 0 _ rfl) 1 _ rfl) 2 _ rfl) 3 _ rfl) 4 _ rfl) 5 _ rfl
 ·intro g hg t cs h
  exact blk_far (blk_far (blk_far (blk_far (blk_far (blk_far h (p := ⟨p, 0, none⟩) hg _) (p := ⟨p, 1, none⟩) hg _) (p := ⟨p, 2, none⟩) hg _) (p := ⟨p, 3, none⟩) hg _) (p := ⟨p, 4, none⟩) hg _) (p := ⟨p, 5, none⟩) hg _
/-- Two new nodes. -/
def New2 (W w' : World) (p q : Nat) : Prop := Below W.heap.size W w' ∧ w'.heap[p]? = some Z41 ∧ w'.heap[q]? = some Z41 ∧ p ≠ q ∧ q ≠ p ∧ W.heap.size ≤ p ∧ W.heap.size ≤ q
theorem below_two (W : World) (o : Obj) : Below W.heap.size W ((W.drew.alloc o).alloc o) := by
 repeat (first | exact Below.refl _ _ | exact (Below.refl _ _).drew | apply below_alloc)
theorem new2_a (W : World) : New2 W ((W.drew.alloc Z41).alloc Z41) W.heap.size (W.heap.size + 1) := by
 have h1 : ((W.alloc Z41).alloc Z41).heap[W.heap.size]? = some Z41 := blk_alloc (blk_new W Z41) Z41
 have h2 : ((W.alloc Z41).alloc Z41).heap[W.heap.size + 1]? = some Z41 := by
  have := blk_new (W.alloc Z41) Z41
  simpa using this
 exact ⟨below_two W Z41, h1, h2, by omega, by omega, Nat.le_refl _, by omega⟩
theorem new2_b (W : World) : New2 W ((W.drew.alloc Z41).alloc Z41) (W.heap.size + 1) W.heap.size := by
 obtain ⟨h0, h1, h2, h3, h4, h5, h6⟩ := new2_a W
 exact ⟨h0, h2, h1, h4, h3, h6, h5⟩
theorem below_cell_ {W w' : World} (h : Below W.heap.size W w') {p : Addr} {u : Value} (hc : W.cell? p = some u) : w'.cell? p = some u := (h.cell (World.block_lt_of_cell? W _ hc)).trans hc
theorem new_cells {w : World} {p : Nat} (h : w.heap[p]? = some Z41) : w.cell? ⟨p, 0, none⟩ = some (.int .i64 0) ∧ w.cell? ⟨p, 1, none⟩ = some (.int .i64 0) ∧ w.cell? ⟨p, 2, none⟩ = some (.int .i64 0) ∧ w.cell? ⟨p, 3, none⟩ = some (.int .i64 0) ∧ w.cell? ⟨p, 4, none⟩ = some (.int .i64 0) ∧ w.cell? ⟨p, 5, none⟩ = some (.int .i64 0) :=
 ⟨(blk_cell h 0).trans rfl, (blk_cell h 1).trans rfl, (blk_cell h 2).trans rfl, (blk_cell h 3).trans rfl, (blk_cell h 4).trans rfl, (blk_cell h 5).trans rfl⟩
theorem new_frozen {w : World} {p : Nat} (h : w.heap[p]? = some Z41) : w.frozen? ⟨p, 0, none⟩ = false ∧ w.frozen? ⟨p, 1, none⟩ = false ∧ w.frozen? ⟨p, 2, none⟩ = false ∧ w.frozen? ⟨p, 3, none⟩ = false ∧ w.frozen? ⟨p, 4, none⟩ = false ∧ w.frozen? ⟨p, 5, none⟩ = false :=
 ⟨blk_frozen h 0, blk_frozen h 1, blk_frozen h 2, blk_frozen h 3, blk_frozen h 4, blk_frozen h 5⟩
theorem n_cells {w : World} {p : Nat} {x0 x1 x2 x3 x4 x5 : Int} (h : w.heap[p]? = some (N41 x0 x1 x2 x3 x4 x5)) : w.cell? ⟨p, 0, none⟩ = some (.int .i64 x0) ∧ w.cell? ⟨p, 1, none⟩ = some (.int .i64 x1) ∧ w.cell? ⟨p, 2, none⟩ = some (.int .i64 x2) ∧ w.cell? ⟨p, 3, none⟩ = some (.int .i64 x3) ∧ w.cell? ⟨p, 4, none⟩ = some (.int .i64 x4) ∧ w.cell? ⟨p, 5, none⟩ = some (.int .i64 x5) :=
 ⟨(blk_cell h 0).trans rfl, (blk_cell h 1).trans rfl, (blk_cell h 2).trans rfl, (blk_cell h 3).trans rfl, (blk_cell h 4).trans rfl, (blk_cell h 5).trans rfl⟩
theorem right2 {a b c d e i m : Int} (h : rightN ⟨2, a, b, c, d, e⟩ i m = true) : 0 ≤ e ∧ e < m := by
 simp [rightN] at h
 omega
theorem right34 {o a b c d e i m : Int} (ho : o = 3 ∨ o = 4) (h : rightN ⟨o, a, b, c, d, e⟩ i m = true) : (0 ≤ a ∧ a < i) ∧ (0 ≤ b ∧ b < i) := by
 rcases ho with rfl | rfl <;> (simp [rightN] at h; omega)
theorem right5 {a b c d e i m : Int} (h : rightN ⟨5, a, b, c, d, e⟩ i m = true) : 0 ≤ a ∧ a < i := by
 simp [rightN] at h
 omega
theorem right1 {o a b c d e i m : Int} (h : rightN ⟨o, a, b, c, d, e⟩ i m = true) (n2 : o ≠ 2) (n3 : o ≠ 3) (n4 : o ≠ 4) (n5 : o ≠ 5) : o = 1 := by
 simp only [rightN] at h
 split at h
 ·assumption
 ·simp [n2, n3, n4, n5] at h
theorem St.put {V : Tw} (hV : Tw.Ok V) {W W1 : World} {n : Nat} {D : DataW Unit} {x y : Int} (h : St V W n D) (hx : wf x) (hy : wf y) (ht : V.T x y = true)
  (hown : W1.ownsMap Try.prog 75 (plainElem Try.prog 3) V.mb (n + 1) (D.put (keyL x y) (.lit (.int .i64 1)))) (hg : W.grownBy W1 (some V.mb)) : St V W1 (n + 1) (D.put (keyL x y) (.lit (.int .i64 1))) :=
 ⟨h.1.grown hg h.1.size (by intro k hk; cases hk; exact hV.hm), blk_grown h.2.1 hg (by intro e; exact h.ne (by simpa using e)), hown, memo_put h.2.2.2.2 h.2.2.2.1 hx hy ht, h.2.2.2.2.put _ _⟩
theorem St.g6 {V : Tw} {W : World} {n : Nat} {D : DataW Unit} (h : St V W n D) : W.cell? ⟨V.g, 6, none⟩ = some (.map (some V.mb)) := (blk_cell h.2.1 6).trans rfl
theorem parts_b (V : Tw) (ps : List (Int × Int)) (b : Bool) (hb : (ps.all fun p => V.T p.1 p.2) = b) (hat : ∀ p, p ∈ ps → AtC V p.1 p.2) (W : World) (n : Nat) (D : DataW Unit) (hS : St V W n D) (hn : n + sumC V ps < 2 ^ 62) (h cap : Nat) (hl : ps.length < 2 ^ 31)
  (hh : h < W.heap.size) (hhm : h ≠ V.mb)
  (hrow : ∀ (j : Nat) (hj : j < ps.length), W.cell? ⟨h, j * 2, none⟩ = some (.int .i64 (ps[j]'hj).1) ∧ W.cell? ⟨h, j * 2 + 1, none⟩ = some (.int .i64 (ps[j]'hj).2)) :
  Calls Try.prog 47 #[.pointer (some ⟨V.g, 0, none⟩), .func (.func 35) #[] #[], .slice (some ⟨h, 0, none⟩) ps.length cap] W fun e W' => e = .returned (.bool b) ∧ Fin V W (n + sumC V ps) W' := by
 rw [← hb]
 exact parts_calls V ps hat W n D hS hn h cap hl hh hhm hrow
theorem row_two (w : World) (a b c d : Int) (t : TypeId) : ∀ (j : Nat) (hj : j < [(a, b), (c, d)].length), (w.alloc (.cells #[.int .i64 a, .int .i64 b, .int .i64 c, .int .i64 d] t)).cell? ⟨w.heap.size, j * 2, none⟩ = some (.int .i64 ([(a, b), (c, d)][j]'hj).1) ∧ (w.alloc (.cells #[.int .i64 a, .int .i64 b, .int .i64 c, .int .i64 d] t)).cell? ⟨w.heap.size, j * 2 + 1, none⟩ = some (.int .i64 ([(a, b), (c, d)][j]'hj).2)
 | 0, _ => ⟨(blk_cell (blk_new w _) 0).trans rfl, (blk_cell (blk_new w _) 1).trans rfl⟩
 | 1, _ => ⟨(blk_cell (blk_new w _) 2).trans rfl, (blk_cell (blk_new w _) 3).trans rfl⟩
theorem row_one (w : World) (a b : Int) (t : TypeId) : ∀ (j : Nat) (hj : j < [(a, b)].length), (w.alloc (.cells #[.int .i64 a, .int .i64 b] t)).cell? ⟨w.heap.size, j * 2, none⟩ = some (.int .i64 ([(a, b)][j]'hj).1) ∧ (w.alloc (.cells #[.int .i64 a, .int .i64 b] t)).cell? ⟨w.heap.size, j * 2 + 1, none⟩ = some (.int .i64 ([(a, b)][j]'hj).2)
 | 0, _ => ⟨(blk_cell (blk_new w _) 0).trans rfl, (blk_cell (blk_new w _) 1).trans rfl⟩
theorem len2_lt : 2 < 2 ^ 31 := by decide
theorem len1_lt : 1 < 2 ^ 31 := by decide
theorem wf_small {x : Int} (h0 : 0 ≤ x) (h1 : x < 4096) : wf x := by
 unfold wf
 refine WalkArith.wf_i64 ?_
 omega
set_option maxRecDepth 100000 in
set_option maxHeartbeats 1000000 in
theorem at_calls (V : Tw) (hV : Tw.Ok V) (x y : Int) (x0' : 0 ≤ x) (x1' : x < (V.la.length : Int)) (y0' : 0 ≤ y) (y1' : y < (V.lb.length : Int)) (ih : ∀ x' y' : Int, 0 ≤ x' → x' < (V.la.length : Int) → 0 ≤ y' → y' < (V.lb.length : Int) → y' < y → AtC V x' y') : AtC V x y := by
 intro W n D hS hn
 obtain ⟨hW, hb, hown, hmemo, hmap⟩ := hS
 unfold Tw.obj at hb
 obtain ⟨ad, eA, hx0, hx1, hx2, hx3, hx4, hx5⟩ := at_T41 (Kd.C_below hV.a0 hW) x x0' x1'
 obtain ⟨bd, eB, hy0, hy1, hy2, hy3, hy4, hy5⟩ := at_T41 (Kd.C_below hV.b0 hW) y y0' y1'
 have hwx : wf x := wf_small x0' (by have := hV.la4; omega)
 have hwy : wf y := wf_small y0' (by have := hV.lb4; omega)
 obtain ⟨x0, x1, x2, x3, x4, x5, hX⟩ : ∃ x0 x1 x2 x3 x4 x5, rd_T41 V.la x = ⟨x0, x1, x2, x3, x4, x5⟩ := ⟨_, _, _, _, _, _, rfl⟩
 obtain ⟨y0, y1, y2, y3, y4, y5, hY⟩ : ∃ y0 y1 y2 y3 y4 y5, rd_T41 V.lb y = ⟨y0, y1, y2, y3, y4, y5⟩ := ⟨_, _, _, _, _, _, rfl⟩
 rw [hX] at hx0 hx1 hx2 hx3 hx4 hx5
 rw [hY] at hy0 hy1 hy2 hy3 hy4 hy5
 have hc0 : W.cell? ⟨V.g, 0, none⟩ = some (.slice (some ad) V.la.length V.c0) := by rw [← eA]; exact (blk_cell hb 0).trans rfl
 have hc1 : W.cell? ⟨V.g, 1, none⟩ = some (.slice V.A1 V.sa.length V.c1) := (blk_cell hb 1).trans rfl
 have hc3 : W.cell? ⟨V.g, 3, none⟩ = some (.slice (some bd) V.lb.length V.d0) := by rw [← eB]; exact (blk_cell hb 3).trans rfl
 have hc4 : W.cell? ⟨V.g, 4, none⟩ = some (.slice V.B1 V.sb.length V.d1) := (blk_cell hb 4).trans rfl
 have hc6 : W.cell? ⟨V.g, 6, none⟩ = some (.map (some V.mb)) := (blk_cell hb 6).trans rfl
 have p0 : (0 ≤ x) = True := eq_true x0'
 have p1 : (x < (V.la.length : Int)) = True := eq_true x1'
 have p2 : (0 ≤ y) = True := eq_true y0'
 have p3 : (y < (V.lb.length : Int)) = True := eq_true y1'
 have p0' : decide (0 ≤ x) = true := decide_eq_true x0'
 have p1' : decide (x < (V.la.length : Int)) = true := decide_eq_true x1'
 have p2' : decide (0 ≤ y) = true := decide_eq_true y0'
 have p3' : decide (y < (V.lb.length : Int)) = true := decide_eq_true y1'
 have hLg := Aside0.mk (blk_lt hb)
 have hLa : Aside0 ((ad.add (x.toNat * 6)).block < W.heap.size) := ⟨World.block_lt_of_cell? W (ad.add (x.toNat * 6)) hx0⟩
 have hLb : Aside0 ((bd.add (y.toNat * 6)).block < W.heap.size) := ⟨World.block_lt_of_cell? W (bd.add (y.toNat * 6)) hy0⟩
 have HV := Aside0.mk hV
 have HIH := Aside0.mk ih
 have HB := Aside0.mk hb
 have HW := Aside0.mk hW
 have HO := Aside0.mk hown
 have HM := Aside0.mk (And.intro hmemo hmap)
 have HN := Aside0.mk hn
 have HX := Aside0.mk (And.intro x0' x1')
 have HY := Aside0.mk (And.intro y0' y1')
 have HX' := Aside0.mk hX
 have HY' := Aside0.mk hY
 clear hV ih hb hW hown hmemo hmap hn x0' x1' y0' y1' hX hY eA eB
 obtain ⟨c, hrun0, hat, hwc⟩ := HO.out.lookup_int (t := 61) keyed75 Try.underlying61 Try.underlying3 (zero3 _) (key_of x y hwx hwy)
 have hrun : (Instr.lookup 61 (.map (some V.mb)) (.agg #[.int .i64 x, .int .i64 y]) false).run Try.prog W = .ok (.int .i64 c) W := hrun0
 clear hrun0
 by_cases hc : c > 0
 ·have hT : V.T x y = true := HM.out.1 x y c hwx hwy hat hc
  have hc' : decide (c > 0) = true := decide_eq_true hc
  have hc'' : decide (0 < c) = true := decide_eq_true hc
  have HT := Aside0.mk hT
  clear hT hat hwc hc
  go_enter Try.func35, Try.ntmps35
  go_wp2
  go_ret
  exact ⟨by rw [HT.out]; rfl, Fin.mk_ (Nat.le_add_right _ _) ⟨HW.out, HB.out, HO.out, HM.out⟩ (grown_of_below (Below.refl _ _) _)⟩
 have hc' : decide (c > 0) = false := decide_eq_false hc
 have hc'' : decide (0 < c) = false := decide_eq_false hc
 clear hat hwc hc
 go_enter Try.func35, Try.ntmps35
 go_wp2
 refine start_ (n := 20) (S := fun w' => w'.cell? ⟨V.g, 0, none⟩ = some (.slice (some ad) V.la.length V.c0) ∧ w'.cell? ⟨V.g, 3, none⟩ = some (.slice (some bd) V.lb.length V.d0) ∧ w'.cell? (ad.add (x.toNat * 6)) = some (.int .i64 x0) ∧ w'.cell? ⟨(ad.add (x.toNat * 6)).block, (ad.add (x.toNat * 6)).off + 1, none⟩ = some (.int .i64 x1) ∧ w'.cell? ⟨(ad.add (x.toNat * 6)).block, (ad.add (x.toNat * 6)).off + 2, none⟩ = some (.int .i64 x2) ∧ w'.cell? ⟨(ad.add (x.toNat * 6)).block, (ad.add (x.toNat * 6)).off + 3, none⟩ = some (.int .i64 x3) ∧ w'.cell? ⟨(ad.add (x.toNat * 6)).block, (ad.add (x.toNat * 6)).off + 4, none⟩ = some (.int .i64 x4) ∧ w'.cell? ⟨(ad.add (x.toNat * 6)).block, (ad.add (x.toNat * 6)).off + 5, none⟩ = some (.int .i64 x5) ∧ w'.cell? (bd.add (y.toNat * 6)) = some (.int .i64 y0) ∧ w'.cell? ⟨(bd.add (y.toNat * 6)).block, (bd.add (y.toNat * 6)).off + 1, none⟩ = some (.int .i64 y1) ∧ w'.cell? ⟨(bd.add (y.toNat * 6)).block, (bd.add (y.toNat * 6)).off + 2, none⟩ = some (.int .i64 y2) ∧ w'.cell? ⟨(bd.add (y.toNat * 6)).block, (bd.add (y.toNat * 6)).off + 3, none⟩ = some (.int .i64 y3) ∧ w'.cell? ⟨(bd.add (y.toNat * 6)).block, (bd.add (y.toNat * 6)).off + 4, none⟩ = some (.int .i64 y4) ∧ w'.cell? ⟨(bd.add (y.toNat * 6)).block, (bd.add (y.toNat * 6)).off + 5, none⟩ = some (.int .i64 y5)) (ds := [19]) #[false, false, false, false, false, false, false, false, false, false, false, false, false, false, false, false, false, false, false, false] (by kernel_rfl) rfl rfl ⟨hc0, hc3, hx0, hx1, hx2, hx3, hx4, hx5, hy0, hy1, hy2, hy3, hy4, hy5⟩ (fun hHeld => ?_)
 refine pq_ (i := 0) (n := 19) (bA 20 1) (by kernel_rfl) ?_
 refine pq_ (i := 1) (n := 20) (bA 20 3) (by kernel_rfl) ?_
 refine pq_ (i := 2) (n := 21) (bA 20 7) (by kernel_rfl) ?_
 refine pq_ (i := 3) (n := 22) (bA 20 15) (by kernel_rfl) ?_
 refine pq_ (i := 5) (n := 24) (bA 20 47) (by kernel_rfl) ?_
 refine pq_ (i := 8) (n := 27) (bA 20 303) (by kernel_rfl) ?_
 refine pq_ (i := 9) (n := 28) (bA 20 815) (by kernel_rfl) ?_
 refine pq_ (i := 10) (n := 29) (bA 20 1839) (by kernel_rfl) ?_
 refine pq_ (i := 11) (n := 30) (bA 20 3887) (by kernel_rfl) ?_
 refine pq_ (i := 13) (n := 32) (bA 20 12079) (by kernel_rfl) ?_
 refine take_ (i := 4) (N := some 23) (v := ?_) (a' := ?_) (bA 20 12095) rfl rfl (by kernel_rfl) (fun _ _ _ h => h) (Or.inl ⟨by rfl, ?_⟩) hHeld ?_ ?_
 rotate_left
 ·rintro w' ⟨s0, s1, s2, s3, s4, s5, s6, s7, s8, s9, s10, s11, s12, s13⟩
  go_simp
  with_reducible rfl
 rotate_left
 ·exact nrm_
 refine pq_ (i := 6) (n := 25) (bA 20 12159) (by kernel_rfl) ?_
 refine take_ (i := 7) (N := some 26) (v := ?_) (a' := ?_) (bA 20 12287) rfl rfl (by kernel_rfl) (fun _ _ _ h => h) (Or.inl ⟨by rfl, ?_⟩) hHeld ?_ ?_
 rotate_left
 ·rintro w' ⟨s0, s1, s2, s3, s4, s5, s6, s7, s8, s9, s10, s11, s12, s13⟩
  go_simp
  with_reducible rfl
 rotate_left
 ·exact nrm_
 refine take_ (i := 12) (N := some 31) (v := ?_) (a' := ?_) (bA 20 16383) rfl rfl (by kernel_rfl) (fun _ _ _ h => h) (Or.inl ⟨by rfl, ?_⟩) hHeld ?_ ?_
 rotate_left
 ·rintro w' ⟨s0, s1, s2, s3, s4, s5, s6, s7, s8, s9, s10, s11, s12, s13⟩
  go_simp
  with_reducible rfl
 rotate_left
 ·exact nrm_
 refine pq_ (i := 14) (n := 33) (bA 20 32767) (by kernel_rfl) ?_
 refine take_ (i := 15) (N := some 34) (v := ?_) (a' := ?_) (bA 20 65535) rfl rfl (by kernel_rfl) (fun _ _ _ h => h) (Or.inl ⟨by rfl, ?_⟩) hHeld ?_ ?_
 rotate_left
 ·rintro w' ⟨s0, s1, s2, s3, s4, s5, s6, s7, s8, s9, s10, s11, s12, s13⟩
  go_simp
  with_reducible rfl
 rotate_left
 ·exact nrm_
 refine join_ (σ := Nat × Nat) 2 #[true, true, true, true, true, true, true, true, true, true, true, true, true, true, true, true, true, true, false, false] (fun s => [(7, .pointer (some ⟨s.1, 0, none⟩)), (8, .pointer (some ⟨s.2, 0, none⟩))]) (fun s w' => New2 W w' s.1 s.2) ?_ ?_
 rotate_left
 ·intro hCont
  refine two_ (i := 16) (j := 17) (Ni := some 7) (Nj := some 8) #[true, true, true, true, true, true, true, true, true, true, true, true, true, true, true, true, true, false, false, false] #[true, true, true, true, true, true, true, true, true, true, true, true, true, true, true, true, false, true, false, false] rfl rfl rfl rfl (by kernel_rfl) (by decide) (by decide) (fun K hK => ?_) (fun K hK => ?_)
  ·skip
   refine value_ (w1 := ?_) (v := ?_) (by rfl) rfl ?_ ?_
   rotate_left 2
   ·go_simp
    constructor
    ·rfl
    ·rfl
   refine hK.out _ _ ⟨(cell_al (W := W.drew) hc0 _), (cell_al (W := W.drew) hc3 _), (cell_al (W := W.drew) hx0 _), (cell_al (W := W.drew) hx1 _), (cell_al (W := W.drew) hx2 _), (cell_al (W := W.drew) hx3 _), (cell_al (W := W.drew) hx4 _), (cell_al (W := W.drew) hx5 _), (cell_al (W := W.drew) hy0 _), (cell_al (W := W.drew) hy1 _), (cell_al (W := W.drew) hy2 _), (cell_al (W := W.drew) hy3 _), (cell_al (W := W.drew) hy4 _), (cell_al (W := W.drew) hy5 _)⟩ (fun hHeld => ?_)
   clear hK K
   refine norm_ (a' := ?_) ?_ ?_
   rotate_left
   ·show Act.put _ (some 7) _ = _
    exact nrm_
   refine one_ (i := 17) (N := some 8) (bA 20 262143) rfl rfl (by kernel_rfl) (by decide) (fun K hK => ?_)
   refine value_ (w1 := ?_) (v := ?_) (by rfl) rfl ?_ ?_
   rotate_left 2
   ·go_simp
    constructor
    ·rfl
    ·rfl
   refine hK.out _ _ ⟨(cell_al2 (W := W.drew) hc0 _ _), (cell_al2 (W := W.drew) hc3 _ _), (cell_al2 (W := W.drew) hx0 _ _), (cell_al2 (W := W.drew) hx1 _ _), (cell_al2 (W := W.drew) hx2 _ _), (cell_al2 (W := W.drew) hx3 _ _), (cell_al2 (W := W.drew) hx4 _ _), (cell_al2 (W := W.drew) hx5 _ _), (cell_al2 (W := W.drew) hy0 _ _), (cell_al2 (W := W.drew) hy1 _ _), (cell_al2 (W := W.drew) hy2 _ _), (cell_al2 (W := W.drew) hy3 _ _), (cell_al2 (W := W.drew) hy4 _ _), (cell_al2 (W := W.drew) hy5 _ _)⟩ (fun hHeld => ?_)
   clear hK K
   refine norm_ (a' := ?_) ?_ ?_
   rotate_left
   ·show Act.put _ (some 8) _ = _
    exact nrm_
   exact norm_ (by simp only [putAll, Act.put, List.setIfInBounds_toArray, List.set_cons_zero, List.set_cons_succ]) (hCont (W.heap.size, W.heap.size + 1) _ (new2_a W))
  ·skip
   refine value_ (w1 := ?_) (v := ?_) (by rfl) rfl ?_ ?_
   rotate_left 2
   ·go_simp
    constructor
    ·rfl
    ·rfl
   refine hK.out _ _ ⟨(cell_al (W := W.drew) hc0 _), (cell_al (W := W.drew) hc3 _), (cell_al (W := W.drew) hx0 _), (cell_al (W := W.drew) hx1 _), (cell_al (W := W.drew) hx2 _), (cell_al (W := W.drew) hx3 _), (cell_al (W := W.drew) hx4 _), (cell_al (W := W.drew) hx5 _), (cell_al (W := W.drew) hy0 _), (cell_al (W := W.drew) hy1 _), (cell_al (W := W.drew) hy2 _), (cell_al (W := W.drew) hy3 _), (cell_al (W := W.drew) hy4 _), (cell_al (W := W.drew) hy5 _)⟩ (fun hHeld => ?_)
   clear hK K
   refine norm_ (a' := ?_) ?_ ?_
   rotate_left
   ·show Act.put _ (some 8) _ = _
    exact nrm_
   refine one_ (i := 16) (N := some 7) (bA 20 262143) rfl rfl (by kernel_rfl) (by decide) (fun K hK => ?_)
   refine value_ (w1 := ?_) (v := ?_) (by rfl) rfl ?_ ?_
   rotate_left 2
   ·go_simp
    constructor
    ·rfl
    ·rfl
   refine hK.out _ _ ⟨(cell_al2 (W := W.drew) hc0 _ _), (cell_al2 (W := W.drew) hc3 _ _), (cell_al2 (W := W.drew) hx0 _ _), (cell_al2 (W := W.drew) hx1 _ _), (cell_al2 (W := W.drew) hx2 _ _), (cell_al2 (W := W.drew) hx3 _ _), (cell_al2 (W := W.drew) hx4 _ _), (cell_al2 (W := W.drew) hx5 _ _), (cell_al2 (W := W.drew) hy0 _ _), (cell_al2 (W := W.drew) hy1 _ _), (cell_al2 (W := W.drew) hy2 _ _), (cell_al2 (W := W.drew) hy3 _ _), (cell_al2 (W := W.drew) hy4 _ _), (cell_al2 (W := W.drew) hy5 _ _)⟩ (fun hHeld => ?_)
   clear hK K
   refine norm_ (a' := ?_) ?_ ?_
   rotate_left
   ·show Act.put _ (some 7) _ = _
    exact nrm_
   exact norm_ (by simp only [putAll, Act.put, List.setIfInBounds_toArray, List.set_cons_zero, List.set_cons_succ]) (hCont (W.heap.size + 1, W.heap.size) _ (new2_b W))
 rintro ⟨p, q⟩ w' hN2
 obtain ⟨hBw, hBp, hBq, hnb, hnc, hps, hqs⟩ := hN2
 have hc0' := below_cell_ hBw hc0
 have hc3' := below_cell_ hBw hc3
 have hx0' := below_cell_ hBw hx0
 have hx1' := below_cell_ hBw hx1
 have hx2' := below_cell_ hBw hx2
 have hx3' := below_cell_ hBw hx3
 have hx4' := below_cell_ hBw hx4
 have hx5' := below_cell_ hBw hx5
 have hy0' := below_cell_ hBw hy0
 have hy1' := below_cell_ hBw hy1
 have hy2' := below_cell_ hBw hy2
 have hy3' := below_cell_ hBw hy3
 have hy4' := below_cell_ hBw hy4
 have hy5' := below_cell_ hBw hy5
 obtain ⟨hzp0, hzp1, hzp2, hzp3, hzp4, hzp5⟩ := new_cells hBp
 obtain ⟨hzq0, hzq1, hzq2, hzq3, hzq4, hzq5⟩ := new_cells hBq
 obtain ⟨hfp0, hfp1, hfp2, hfp3, hfp4, hfp5⟩ := new_frozen hBp
 obtain ⟨hfq0, hfq1, hfq2, hfq3, hfq4, hfq5⟩ := new_frozen hBq
 have hgp : V.g ≠ p := by have := hLg.out; omega
 have hap : (ad.add (x.toNat * 6)).block ≠ p := by have := hLa.out; omega
 have hbp : (bd.add (y.toNat * 6)).block ≠ p := by have := hLb.out; omega
 have hHeld : (fun w' : World => w'.cell? ⟨V.g, 0, none⟩ = some (.slice (some ad) V.la.length V.c0) ∧ w'.cell? ⟨V.g, 3, none⟩ = some (.slice (some bd) V.lb.length V.d0) ∧ w'.cell? (ad.add (x.toNat * 6)) = some (.int .i64 x0) ∧ w'.cell? ⟨(ad.add (x.toNat * 6)).block, (ad.add (x.toNat * 6)).off + 1, none⟩ = some (.int .i64 x1) ∧ w'.cell? ⟨(ad.add (x.toNat * 6)).block, (ad.add (x.toNat * 6)).off + 2, none⟩ = some (.int .i64 x2) ∧ w'.cell? ⟨(ad.add (x.toNat * 6)).block, (ad.add (x.toNat * 6)).off + 3, none⟩ = some (.int .i64 x3) ∧ w'.cell? ⟨(ad.add (x.toNat * 6)).block, (ad.add (x.toNat * 6)).off + 4, none⟩ = some (.int .i64 x4) ∧ w'.cell? ⟨(ad.add (x.toNat * 6)).block, (ad.add (x.toNat * 6)).off + 5, none⟩ = some (.int .i64 x5) ∧ w'.cell? (bd.add (y.toNat * 6)) = some (.int .i64 y0) ∧ w'.cell? ⟨(bd.add (y.toNat * 6)).block, (bd.add (y.toNat * 6)).off + 1, none⟩ = some (.int .i64 y1) ∧ w'.cell? ⟨(bd.add (y.toNat * 6)).block, (bd.add (y.toNat * 6)).off + 2, none⟩ = some (.int .i64 y2) ∧ w'.cell? ⟨(bd.add (y.toNat * 6)).block, (bd.add (y.toNat * 6)).off + 3, none⟩ = some (.int .i64 y3) ∧ w'.cell? ⟨(bd.add (y.toNat * 6)).block, (bd.add (y.toNat * 6)).off + 4, none⟩ = some (.int .i64 y4) ∧ w'.cell? ⟨(bd.add (y.toNat * 6)).block, (bd.add (y.toNat * 6)).off + 5, none⟩ = some (.int .i64 y5)) w' := ⟨hc0', hc3', hx0', hx1', hx2', hx3', hx4', hx5', hy0', hy1', hy2', hy3', hy4', hy5'⟩
 refine norm_ (a' := ?_) ?_ ?_
 rotate_left
 ·simp only [putAll, Act.put, List.setIfInBounds_toArray, List.set_cons_zero, List.set_cons_succ]
  rfl
 refine one_ (i := 18) (N := none) (bA 20 524287) rfl rfl (by kernel_rfl) (by decide) (fun K hK => ?_)
 refine skip_ (w1 := ?_) (by rfl) rfl ?_ ?_
 rotate_left
 ·go_simp
  rfl
 refine hK.out _ _ ⟨(far6 hc0' hgp _ _ _ _ _ _), (far6 hc3' hgp _ _ _ _ _ _), (far6 hx0' hap _ _ _ _ _ _), (far6 hx1' hap _ _ _ _ _ _), (far6 hx2' hap _ _ _ _ _ _), (far6 hx3' hap _ _ _ _ _ _), (far6 hx4' hap _ _ _ _ _ _), (far6 hx5' hap _ _ _ _ _ _), (far6 hy0' hbp _ _ _ _ _ _), (far6 hy1' hbp _ _ _ _ _ _), (far6 hy2' hbp _ _ _ _ _ _), (far6 hy3' hbp _ _ _ _ _ _), (far6 hy4' hbp _ _ _ _ _ _), (far6 hy5' hbp _ _ _ _ _ _)⟩ (fun hHeld => ?_)
 clear hK K
 have hP6 := put6 hBw hBp hps x0 x1 x2 x3 x4 x5
 generalize hw2 : ((((((((((((w').setCell ⟨p, 0, none⟩ (.int .i64 x0))).setCell ⟨p, 1, none⟩ (.int .i64 x1))).setCell ⟨p, 2, none⟩ (.int .i64 x2))).setCell ⟨p, 3, none⟩ (.int .i64 x3))).setCell ⟨p, 4, none⟩ (.int .i64 x4))).setCell ⟨p, 5, none⟩ (.int .i64 x5)) = w2 at hP6 ⊢
 clear hw2 hHeld
 obtain ⟨hBw2, hP2, hfar2⟩ := hP6
 have hQ2 := hfar2 q hnc _ _ hBq
 clear hfar2 hBw hBp hBq
 clear hzp0 hfp0 hzp1 hfp1 hzp2 hfp2 hzp3 hfp3 hzp4 hfp4 hzp5 hfp5 hzq0 hfq0 hzq1 hfq1 hzq2 hfq2 hzq3 hfq3 hzq4 hfq4 hzq5 hfq5
 obtain ⟨hzq0, hzq1, hzq2, hzq3, hzq4, hzq5⟩ := new_cells hQ2
 obtain ⟨hfq0, hfq1, hfq2, hfq3, hfq4, hfq5⟩ := new_frozen hQ2
 refine last_ (i := 19) (N := none) #[true, true, true, true, true, true, true, true, true, true, true, true, true, true, true, true, true, true, true, true] rfl rfl (by kernel_rfl) (by decide) (fun K hK => ?_)
 refine skip_ (w1 := ?_) (by rfl) rfl ?_ ?_
 rotate_left
 ·go_simp
  rfl
 refine hK.out _ _ ?_
 clear hK K
 have hP6 := put6 hBw2 hQ2 hqs y0 y1 y2 y3 y4 y5
 generalize hw3 : ((((((((((((w2).setCell ⟨q, 0, none⟩ (.int .i64 y0))).setCell ⟨q, 1, none⟩ (.int .i64 y1))).setCell ⟨q, 2, none⟩ (.int .i64 y2))).setCell ⟨q, 3, none⟩ (.int .i64 y3))).setCell ⟨q, 4, none⟩ (.int .i64 y4))).setCell ⟨q, 5, none⟩ (.int .i64 y5)) = w3 at hP6 ⊢
 clear hw3
 obtain ⟨hB3, hQ3, hfar3⟩ := hP6
 have hP3 := hfar3 p hnb _ _ hP2
 clear hfar3 hBw2 hP2 hQ2 hzq0 hfq0 hzq1 hfq1 hzq2 hfq2 hzq3 hfq3 hzq4 hfq4 hzq5 hfq5
 refine done_ (by kernel_rfl) ?_
 have hS3 : St V w3 n D := St.step ⟨HW.out, HB.out, HO.out, HM.out⟩ hB3
 have hG3 : W.grownBy w3 (some V.mb) := grown_of_below hB3 _
 have hg1 := below_cell_ hB3 hc1
 have hg4 := below_cell_ hB3 hc4
 have hg6 := below_cell_ hB3 hc6
 obtain ⟨hp0, hp1, hp2, hp3, hp4, hp5⟩ := n_cells hP3
 obtain ⟨hq0, hq1, hq2, hq3, hq4, hq5⟩ := n_cells hQ3
 have hra := HV.out.ra x HX.out.1 HX.out.2
 rw [HX'.out] at hra
 have hrb := HV.out.rb y HY.out.1 HY.out.2
 rw [HY'.out] at hrb
 have HRA := Aside0.mk hra
 have HRB := Aside0.mk hrb
 have HS3 := Aside0.mk hS3
 have HG3 := Aside0.mk hG3
 clear hra hrb hS3 hG3 hc0 hc1 hc3 hc4 hc6 hc0' hc3' hrun hc' hc'' p0 p1 p2 p3 p0' p1' p2' p3' hgp hap hbp hP3 hQ3 hx0 hx0' hx1 hx1' hx2 hx2' hx3 hx3' hx4 hx4' hx5 hx5' hy0 hy0' hy1 hy1' hy2 hy2' hy3 hy3' hy4 hy4' hy5 hy5'
 by_cases e0 : x0 = y0
 case neg =>
  have ht := HV.out.t0 x y HX.out.1 HX.out.2 HY.out.1 HY.out.2
  simp only [HX'.out, HY'.out] at ht
  have HT := Aside0.mk (ht (fun h => e0 h.1))
  have e0' : decide (x0 = y0) = false := decide_eq_false e0
  have e0'' : (x0 == y0) = false := beq_eq_false_iff_ne.mpr e0
  clear ht
  go_wp2_with fail
  go_ret
  exact ⟨by rw [HT.out]; rfl, Fin.mk_ (Nat.le_add_right _ _) HS3.out HG3.out⟩
 by_cases e3 : x3 = y3
 case neg =>
  have ht := HV.out.t0 x y HX.out.1 HX.out.2 HY.out.1 HY.out.2
  simp only [HX'.out, HY'.out] at ht
  have HT := Aside0.mk (ht (fun h => e3 h.2.1))
  subst e0
  have e3' : decide (x3 = y3) = false := decide_eq_false e3
  have e3'' : (x3 == y3) = false := beq_eq_false_iff_ne.mpr e3
  clear ht
  go_wp2_with fail
  go_ret
  exact ⟨by rw [HT.out]; rfl, Fin.mk_ (Nat.le_add_right _ _) HS3.out HG3.out⟩
 by_cases e4 : x4 = y4
 case neg =>
  have ht := HV.out.t0 x y HX.out.1 HX.out.2 HY.out.1 HY.out.2
  simp only [HX'.out, HY'.out] at ht
  have HT := Aside0.mk (ht (fun h => e4 h.2.2))
  subst e0 e3
  have e4' : decide (x4 = y4) = false := decide_eq_false e4
  have e4'' : (x4 == y4) = false := beq_eq_false_iff_ne.mpr e4
  clear ht
  go_wp2_with fail
  go_ret
  exact ⟨by rw [HT.out]; rfl, Fin.mk_ (Nat.le_add_right _ _) HS3.out HG3.out⟩
 subst e0 e3 e4
 by_cases o2 : x0 = 2
 case pos =>
  subst o2
  obtain ⟨i0, i1⟩ := right2 HRA.out
  obtain ⟨j0, j1⟩ := right2 HRB.out
  obtain ⟨b, hb⟩ : ∃ b, V.T x y = b := ⟨_, rfl⟩
  obtain ⟨k, ht⟩ : ∃ k, api_Range_46.f k (rd_L3 V.sa x5) (rd_L3 V.sb y5) = some b := by
   have ht := HV.out.t2 x y HX.out.1 HX.out.2 HY.out.1 HY.out.2
   rw [HX'.out, HY'.out, hb] at ht
   exact ht rfl rfl rfl rfl
  obtain ⟨sad, As, cs, esA, hsa, hla, hia⟩ := at_L3 (Kd.C_below HV.out.a1 HS3.out.1) x5 i0 i1
  obtain ⟨tad, Bs, ds, esB, hsb, hlb, hib⟩ := at_L3 (Kd.C_below HV.out.b1 HS3.out.1) y5 j0 j1
  rw [esA] at hg1
  rw [esB] at hg4
  have p0 := eq_true i0
  have p0' := decide_eq_true i0
  have p1 := eq_true i1
  have p1' := decide_eq_true i1
  have p2 := eq_true j0
  have p2' := decide_eq_true j0
  have p3 := eq_true j1
  have p3' := decide_eq_true j1
  have HT := Aside0.mk ht
  have hB4 := Aside0.mk hb
  clear ht hb i0 i1 j0 j1 esA esB
  go_wp2_with fail
  refine start_ (n := 20) (S := fun w' => w'.cell? ⟨V.g, 1, none⟩ = some (.slice (some sad) V.sa.length V.c1) ∧ w'.cell? ⟨p, 5, none⟩ = some (.int .i64 x5) ∧ w'.cell? (sad.add x5.toNat) = some (.slice As (rd_L3 V.sa x5).length cs) ∧ w'.cell? ⟨V.g, 4, none⟩ = some (.slice (some tad) V.sb.length V.d1) ∧ w'.cell? ⟨q, 5, none⟩ = some (.int .i64 y5) ∧ w'.cell? (tad.add y5.toNat) = some (.slice Bs (rd_L3 V.sb y5).length ds)) (ds := []) #[false, false, false, false, false, false, false, false, false, false, false, false, false, false, false, false, false, false, false, false] (by kernel_rfl) rfl rfl ⟨hg1, hp5, hsa, hg4, hq5, hsb⟩ (fun hHeld => ?_)
  refine pq_ (i := 0) (n := 61) (bA 20 1) (by kernel_rfl) ?_
  refine pq_ (i := 1) (n := 62) (bA 20 3) (by kernel_rfl) ?_
  refine pq_ (i := 2) (n := 63) (bA 20 7) (by kernel_rfl) ?_
  refine pq_ (i := 3) (n := 64) (bA 20 15) (by kernel_rfl) ?_
  refine pq_ (i := 5) (n := 66) (bA 20 47) (by kernel_rfl) ?_
  refine pq_ (i := 9) (n := 70) (bA 20 559) (by kernel_rfl) ?_
  refine pq_ (i := 10) (n := 71) (bA 20 1583) (by kernel_rfl) ?_
  refine pq_ (i := 11) (n := 72) (bA 20 3631) (by kernel_rfl) ?_
  refine pq_ (i := 12) (n := 73) (bA 20 7727) (by kernel_rfl) ?_
  refine pq_ (i := 14) (n := 75) (bA 20 24111) (by kernel_rfl) ?_
  refine take_ (i := 4) (N := some 65) (v := ?_) (a' := ?_) (bA 20 24127) rfl rfl (by kernel_rfl) (fun _ _ _ h => h) (Or.inl ⟨by rfl, ?_⟩) hHeld ?_ ?_
  rotate_left
  ·rintro w' ⟨s0, s1, s2, s3, s4, s5⟩
   go_simp
   with_reducible rfl
  rotate_left
  ·exact nrm_
  refine take_ (i := 6) (N := some 67) (v := ?_) (a' := ?_) (bA 20 24191) rfl rfl (by kernel_rfl) (fun _ _ _ h => h) (Or.inl ⟨by rfl, ?_⟩) hHeld ?_ ?_
  rotate_left
  ·rintro w' ⟨s0, s1, s2, s3, s4, s5⟩
   go_simp
   with_reducible rfl
  rotate_left
  ·exact nrm_
  refine pq_ (i := 7) (n := 68) (bA 20 24319) (by kernel_rfl) ?_
  refine take_ (i := 8) (N := some 69) (v := ?_) (a' := ?_) (bA 20 24575) rfl rfl (by kernel_rfl) (fun _ _ _ h => h) (Or.inl ⟨by rfl, ?_⟩) hHeld ?_ ?_
  rotate_left
  ·rintro w' ⟨s0, s1, s2, s3, s4, s5⟩
   go_simp
   with_reducible rfl
  rotate_left
  ·exact nrm_
  refine take_ (i := 13) (N := some 74) (v := ?_) (a' := ?_) (bA 20 32767) rfl rfl (by kernel_rfl) (fun _ _ _ h => h) (Or.inl ⟨by rfl, ?_⟩) hHeld ?_ ?_
  rotate_left
  ·rintro w' ⟨s0, s1, s2, s3, s4, s5⟩
   go_simp
   with_reducible rfl
  rotate_left
  ·exact nrm_
  refine take_ (i := 15) (N := some 76) (v := ?_) (a' := ?_) (bA 20 65535) rfl rfl (by kernel_rfl) (fun _ _ _ h => h) (Or.inl ⟨by rfl, ?_⟩) hHeld ?_ ?_
  rotate_left
  ·rintro w' ⟨s0, s1, s2, s3, s4, s5⟩
   go_simp
   with_reducible rfl
  rotate_left
  ·exact nrm_
  refine pq_ (i := 16) (n := 77) (bA 20 131071) (by kernel_rfl) ?_
  refine take_ (i := 17) (N := some 78) (v := ?_) (a' := ?_) (bA 20 262143) rfl rfl (by kernel_rfl) (fun _ _ _ h => h) (Or.inl ⟨by rfl, ?_⟩) hHeld ?_ ?_
  rotate_left
  ·rintro w' ⟨s0, s1, s2, s3, s4, s5⟩
   go_simp
   with_reducible rfl
  rotate_left
  ·exact nrm_
  refine one_ (i := 18) (N := some 79) (bA 20 524287) rfl rfl (by kernel_rfl) (by decide) (fun K hK => ?_)
  refine goes_ Try.func46 (by kernel_rfl) rfl #[.slice As (rd_L3 V.sa x5).length cs, .slice Bs (rd_L3 V.sb y5).length ds] (by rfl) rfl rfl (by simp only [List.map_toArray, List.map_cons, List.map_nil]; rfl) ?_
  with_reducible refine (api_Range_46.calls k As cs (rd_L3 V.sa x5) Bs ds (rd_L3 V.sb y5) b _ (Kd.C_drew hia) hla (Kd.C_drew hib) hlb HT.out).mono ?_
  rintro e w4 ⟨rfl, ⟨nd, rfl⟩⟩
  refine ⟨_, rfl, ?_⟩
  refine hK.out _ _ ⟨hg1, hp5, hsa, hg4, hq5, hsb⟩ (fun hHeld => ?_)
  clear hK K
  refine norm_ (a' := ?_) ?_ ?_
  rotate_left
  ·show Act.put _ (some 79) _ = _
   exact nrm_
  refine pq_ (i := 19) (n := 9) (bA 20 1048575) (by kernel_rfl) ?_
  refine done_ (by kernel_rfl) ?_
  have hB5 : Below w3.heap.size w3 (w3.drew.drewN nd) := by repeat (first | apply pw_below_drewN | exact Below.refl _ _ | exact (Below.refl _ _).drew)
  have HS4 := Aside0.mk (HS3.out.step hB5)
  have HG4 := Aside0.mk (HG3.out.trans (grown_of_below hB5 (some V.mb)))
  have HL4 : Aside0 (n < maxLen) := ⟨by have := HN.out; unfold maxLen; omega⟩
  have hg6' : (w3.drew.drewN nd).cell? ⟨V.g, 6, none⟩ = some (.map (some V.mb)) := hg6
  clear hB5
  cases b with
  | false =>
   go_wp2_with fail
   go_ret
   exact ⟨by rw [hB4.out]; rfl, Fin.mk_ (Nat.le_add_right _ _) HS4.out HG4.out⟩
  | true =>
   have hB6 : Below w3.heap.size w3 (w3.drewN (1 + nd)) := by repeat (first | apply pw_below_drewN | exact Below.refl _ _)
   have HS5 := Aside0.mk (HS3.out.step hB6)
   have HG5 := Aside0.mk (HG3.out.trans (grown_of_below hB6 (some V.mb)))
   clear hB6
   go_wp2_with (at_mapUpdate; refine wpList_mapUpdate_own _ rfl _ _ _ 61 rfl 75 3 keyed75 Try.underlying61 _ V.mb n D rfl HS5.out.2.2.1 HL4.out _ _ (keyL x y) rfl rfl (key_of x y hwx hwy) (.lit (.int .i64 1)) [] (plainElem_int Try.underlying3 (by decide)) ?_; intro w5 hown5 hgrow5)
   go_ret
   exact ⟨by rw [hB4.out]; rfl, Fin.mk_ (by have := HV.out.u1 y HY.out.1 HY.out.2; omega) (St.put HV.out HS5.out hwx hwy hB4.out hown5 hgrow5) (HG5.out.trans hgrow5)⟩
 by_cases o34 : x0 = 3 ∨ x0 = 4
 case pos =>
  obtain ⟨⟨i0, i1⟩, ⟨i2, i3⟩⟩ := right34 o34 HRA.out
  obtain ⟨⟨j0, j1⟩, ⟨j2, j3⟩⟩ := right34 o34 HRB.out
  obtain ⟨b, hb⟩ : ∃ b, V.T x y = b := ⟨_, rfl⟩
  have ht : V.T x y = (V.T x1 y1 && V.T x2 y2) := by
   have h := HV.out.t3 x y HX.out.1 HX.out.2 HY.out.1 HY.out.2
   rw [HX'.out, HY'.out] at h
   exact h rfl rfl rfl o34
  have hu : V.C y1 + V.C y2 + 1 ≤ V.C y := by
   have h := HV.out.u3 y HY.out.1 HY.out.2
   rw [HY'.out] at h
   exact h o34
  have HPS : Aside0 (([(x1, y1), (x2, y2)].all fun p => V.T p.1 p.2) = b) := ⟨by rw [← hb, ht]; simp⟩
  have HAT : Aside0 (∀ p, p ∈ [(x1, y1), (x2, y2)] → AtC V p.1 p.2) := ⟨by
   intro p hp
   simp only [List.mem_cons, List.not_mem_nil, or_false] at hp
   have := HX.out
   have := HY.out
   rcases hp with rfl | rfl
   ·exact HIH.out x1 y1 i0 (by omega) j0 (by omega) j1
   ·exact HIH.out x2 y2 i2 (by omega) j2 (by omega) j3⟩
  have hsum : sumC V [(x1, y1), (x2, y2)] = V.C y1 + V.C y2 := rfl
  have HSUM : Aside0 (n + sumC V [(x1, y1), (x2, y2)] < 2 ^ 62) := ⟨by have := HN.out; omega⟩
  have HU : Aside0 (n + sumC V [(x1, y1), (x2, y2)] < n + V.C y) := ⟨by omega⟩
  have HNE : Aside0 (w3.heap.size ≠ V.mb) := ⟨by have := HS3.out.2.2.1.lt; omega⟩
  have hB4 := Aside0.mk hb
  clear ht hb hu hsum i0 i1 i2 i3 j0 j1 j2 j3 o2
  rcases o34 with rfl | rfl
  ·skip
   cases b with
   | false =>
    go_wp2_with (go_at_call 47; (refine (parts_b V [(x1, y1), (x2, y2)] false HPS.out HAT.out _ n D (HS3.out.step (below_alloc (Below.refl _ _) _)) HSUM.out _ _ len2_lt (blk_lt (blk_new w3 _)) HNE.out (row_two w3 x1 y1 x2 y2 _)).mono ?_); rintro e w4 ⟨rfl, n2, D2, hn2, hS4, hG4⟩)
    go_ret
    exact ⟨by rw [hB4.out]; rfl, Fin.mk_ (Nat.le_trans hn2 (Nat.le_of_lt HU.out)) hS4 ((HG3.out.trans (grown_of_below (below_alloc (Below.refl _ _) _) _)).trans hG4)⟩
   | true =>
    go_wp2_with (first | (go_at_call 47; (refine (parts_b V [(x1, y1), (x2, y2)] true HPS.out HAT.out _ n D (HS3.out.step (below_alloc (Below.refl _ _) _)) HSUM.out _ _ len2_lt (blk_lt (blk_new w3 _)) HNE.out (row_two w3 x1 y1 x2 y2 _)).mono ?_); rintro e w4 ⟨rfl, n2, D2, hn2, hS4, hG4⟩; have HS4 : Aside0 (St V w4 n2 D2) := ⟨hS4⟩; have hg6' := St.g6 HS4.out; have HG4 : Aside0 (W.grownBy w4 (some V.mb)) := ⟨(HG3.out.trans (grown_of_below (below_alloc (Below.refl _ _) _) _)).trans hG4⟩; have HL4 : Aside0 (n2 < maxLen) := ⟨by have := HSUM.out; unfold maxLen; omega⟩; have HLE := Aside0.mk (Nat.lt_of_le_of_lt hn2 HU.out); clear hS4 hG4 hn2) | (at_mapUpdate; refine wpList_mapUpdate_own _ rfl _ _ _ 61 rfl 75 3 keyed75 Try.underlying61 _ V.mb n2 D2 rfl HS4.out.2.2.1 HL4.out _ _ (keyL x y) rfl rfl (key_of x y hwx hwy) (.lit (.int .i64 1)) [] (plainElem_int Try.underlying3 (by decide)) ?_; intro w5 hown5 hgrow5))
    go_ret
    exact ⟨by rw [hB4.out]; rfl, Fin.mk_ HLE.out (St.put HV.out HS4.out hwx hwy hB4.out hown5 hgrow5) (HG4.out.trans hgrow5)⟩
  ·skip
   cases b with
   | false =>
    go_wp2_with (go_at_call 47; (refine (parts_b V [(x1, y1), (x2, y2)] false HPS.out HAT.out _ n D (HS3.out.step (below_alloc (Below.refl _ _) _)) HSUM.out _ _ len2_lt (blk_lt (blk_new w3 _)) HNE.out (row_two w3 x1 y1 x2 y2 _)).mono ?_); rintro e w4 ⟨rfl, n2, D2, hn2, hS4, hG4⟩)
    go_ret
    exact ⟨by rw [hB4.out]; rfl, Fin.mk_ (Nat.le_trans hn2 (Nat.le_of_lt HU.out)) hS4 ((HG3.out.trans (grown_of_below (below_alloc (Below.refl _ _) _) _)).trans hG4)⟩
   | true =>
    go_wp2_with (first | (go_at_call 47; (refine (parts_b V [(x1, y1), (x2, y2)] true HPS.out HAT.out _ n D (HS3.out.step (below_alloc (Below.refl _ _) _)) HSUM.out _ _ len2_lt (blk_lt (blk_new w3 _)) HNE.out (row_two w3 x1 y1 x2 y2 _)).mono ?_); rintro e w4 ⟨rfl, n2, D2, hn2, hS4, hG4⟩; have HS4 : Aside0 (St V w4 n2 D2) := ⟨hS4⟩; have hg6' := St.g6 HS4.out; have HG4 : Aside0 (W.grownBy w4 (some V.mb)) := ⟨(HG3.out.trans (grown_of_below (below_alloc (Below.refl _ _) _) _)).trans hG4⟩; have HL4 : Aside0 (n2 < maxLen) := ⟨by have := HSUM.out; unfold maxLen; omega⟩; have HLE := Aside0.mk (Nat.lt_of_le_of_lt hn2 HU.out); clear hS4 hG4 hn2) | (at_mapUpdate; refine wpList_mapUpdate_own _ rfl _ _ _ 61 rfl 75 3 keyed75 Try.underlying61 _ V.mb n2 D2 rfl HS4.out.2.2.1 HL4.out _ _ (keyL x y) rfl rfl (key_of x y hwx hwy) (.lit (.int .i64 1)) [] (plainElem_int Try.underlying3 (by decide)) ?_; intro w5 hown5 hgrow5))
    go_ret
    exact ⟨by rw [hB4.out]; rfl, Fin.mk_ HLE.out (St.put HV.out HS4.out hwx hwy hB4.out hown5 hgrow5) (HG4.out.trans hgrow5)⟩
 by_cases o5 : x0 = 5
 case pos =>
  subst o5
  obtain ⟨i0, i1⟩ := right5 HRA.out
  obtain ⟨j0, j1⟩ := right5 HRB.out
  obtain ⟨b, hb⟩ : ∃ b, V.T x y = b := ⟨_, rfl⟩
  have ht : V.T x y = V.T x1 y1 := by
   have h := HV.out.t5 x y HX.out.1 HX.out.2 HY.out.1 HY.out.2
   rw [HX'.out, HY'.out] at h
   exact h rfl rfl rfl rfl
  have hu : V.C y1 + 1 ≤ V.C y := by
   have h := HV.out.u5 y HY.out.1 HY.out.2
   rw [HY'.out] at h
   exact h rfl
  have HPS : Aside0 (([(x1, y1)].all fun p => V.T p.1 p.2) = b) := ⟨by rw [← hb, ht]; simp⟩
  have HAT : Aside0 (∀ p, p ∈ [(x1, y1)] → AtC V p.1 p.2) := ⟨by
   intro p hp
   simp only [List.mem_cons, List.not_mem_nil, or_false] at hp
   have := HX.out
   have := HY.out
   rcases hp with rfl
   exact HIH.out x1 y1 i0 (by omega) j0 (by omega) j1⟩
  have hsum : sumC V [(x1, y1)] = V.C y1 := rfl
  have HSUM : Aside0 (n + sumC V [(x1, y1)] < 2 ^ 62) := ⟨by have := HN.out; omega⟩
  have HU : Aside0 (n + sumC V [(x1, y1)] < n + V.C y) := ⟨by omega⟩
  have HNE : Aside0 (w3.heap.size ≠ V.mb) := ⟨by have := HS3.out.2.2.1.lt; omega⟩
  have hB4 := Aside0.mk hb
  clear ht hb hu hsum i0 i1 j0 j1 o2 o34
  cases b with
  | false =>
   go_wp2_with (go_at_call 47; (refine (parts_b V [(x1, y1)] false HPS.out HAT.out _ n D (HS3.out.step (below_alloc (Below.refl _ _) _)) HSUM.out _ _ len1_lt (blk_lt (blk_new w3 _)) HNE.out (row_one w3 x1 y1 _)).mono ?_); rintro e w4 ⟨rfl, n2, D2, hn2, hS4, hG4⟩)
   go_ret
   exact ⟨by rw [hB4.out]; rfl, Fin.mk_ (Nat.le_trans hn2 (Nat.le_of_lt HU.out)) hS4 ((HG3.out.trans (grown_of_below (below_alloc (Below.refl _ _) _) _)).trans hG4)⟩
  | true =>
   go_wp2_with (first | (go_at_call 47; (refine (parts_b V [(x1, y1)] true HPS.out HAT.out _ n D (HS3.out.step (below_alloc (Below.refl _ _) _)) HSUM.out _ _ len1_lt (blk_lt (blk_new w3 _)) HNE.out (row_one w3 x1 y1 _)).mono ?_); rintro e w4 ⟨rfl, n2, D2, hn2, hS4, hG4⟩; have HS4 : Aside0 (St V w4 n2 D2) := ⟨hS4⟩; have hg6' := St.g6 HS4.out; have HG4 : Aside0 (W.grownBy w4 (some V.mb)) := ⟨(HG3.out.trans (grown_of_below (below_alloc (Below.refl _ _) _) _)).trans hG4⟩; have HL4 : Aside0 (n2 < maxLen) := ⟨by have := HSUM.out; unfold maxLen; omega⟩; have HLE := Aside0.mk (Nat.lt_of_le_of_lt hn2 HU.out); clear hS4 hG4 hn2) | (at_mapUpdate; refine wpList_mapUpdate_own _ rfl _ _ _ 61 rfl 75 3 keyed75 Try.underlying61 _ V.mb n2 D2 rfl HS4.out.2.2.1 HL4.out _ _ (keyL x y) rfl rfl (key_of x y hwx hwy) (.lit (.int .i64 1)) [] (plainElem_int Try.underlying3 (by decide)) ?_; intro w5 hown5 hgrow5))
   go_ret
   exact ⟨by rw [hB4.out]; rfl, Fin.mk_ HLE.out (St.put HV.out HS4.out hwx hwy hB4.out hown5 hgrow5) (HG4.out.trans hgrow5)⟩
 have o1 := right1 HRA.out o2 (fun h => o34 (.inl h)) (fun h => o34 (.inr h)) o5
 subst o1
 have ht : V.T x y = true := by
  have h := HV.out.t1 x y HX.out.1 HX.out.2 HY.out.1 HY.out.2
  rw [HX'.out, HY'.out] at h
  exact h rfl rfl rfl rfl
 have HL4 : Aside0 (n < maxLen) := ⟨by have := HN.out; unfold maxLen; omega⟩
 have hB4 := Aside0.mk ht
 clear ht o2 o34 o5
 go_wp2_with (at_mapUpdate; refine wpList_mapUpdate_own _ rfl _ _ _ 61 rfl 75 3 keyed75 Try.underlying61 _ V.mb n D rfl HS3.out.2.2.1 HL4.out _ _ (keyL x y) rfl rfl (key_of x y hwx hwy) (.lit (.int .i64 1)) [] (plainElem_int Try.underlying3 (by decide)) ?_; intro w5 hown5 hgrow5)
 go_ret
 exact ⟨by rw [hB4.out]; rfl, Fin.mk_ (by have := HV.out.u1 y HY.out.1 HY.out.2; omega) (St.put HV.out HS3.out hwx hwy hB4.out hown5 hgrow5) (HG3.out.trans hgrow5)⟩
end Go.Proofs.Ytbgoaigbkfibbaa.HandAt

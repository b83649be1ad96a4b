import Derived.Test.YtbgoaigbkfibbaaPAx0
import Derived.Test.YtbgoaigbkfibbaaHandGraft
import Derived.Test.YtbgoaigbkfibbaaHandGraftN
/- ArenaBuilds: what the law itself keeps beside the builder: a tree in rows of its own. No condition. -/
set_option linter.unusedSimpArgs false
set_option linter.unusedVariables false
namespace Go.Proofs.Ytbgoaigbkfibbaa.HandWant
open Go.RowKit Go.Proofs.YtbgoaigbkfibbaaW.PrintWords Go.Proofs.YtbgoaigbkfibbaaW.PrintLast Go.Proofs.YtbgoaigbkfibbaaW.PrintMore Go.Proofs.Ytbgoaigbkfibbaa.PA Go.Proofs.Ytbgoaigbkfibbaa.HandRight Go.Proofs.Ytbgoaigbkfibbaa.HandBl Go.Proofs.Ytbgoaigbkfibbaa.HandBm Go.Proofs.Ytbgoaigbkfibbaa.HandBo Go.Proofs.Ytbgoaigbkfibbaa.HandGraft
theorem s_split {W : World} {base : Nat} {ok : Nat → Prop} {v : Value} {ss : List (List S55)} (h : (Kd.slice 55 k55).R 37 W base ok v ss) : (Kd.slice 55 k55).R 37 W base (fun k => some k = v.ownBlock ∨ ∃ cells, W.heap[k]? = some (.cells cells 55 (0, 0))) v ss := by
 obtain ⟨h0, inner, ho, hr⟩ := h
 refine ⟨fun k hk => .inl hk.symm, inner, ho, hr.imp_ (fun x c hM => ?_)⟩
 obtain ⟨v1, rfl, h1⟩ := hM
 refine ⟨v1, rfl, Kd.R_mono (Kd.R_bound h1) ?_⟩
 rintro k ⟨⟨_, hne⟩, _, _, q, hq, cells, hc⟩
 have e : q = 55 := by
  rcases List.mem_cons.1 hq with e | e
  ·exact e
  ·cases e
 subst e
 exact ⟨.inr ⟨cells, hc⟩, hne⟩
theorem n_kept {W W' : World} {base : Nat} {ok S : Nat → Prop} {u : Value} {ns : List S41} (h : k41.R 41 W base ok u ns) (hk : Kept W W' S) (hS : ∀ k, some k = u.ownBlock → ¬ S k) : k41.R 41 W' base (fun _ => True) u ns :=
 Kd.R_mono (Kd.R_kept (Kd.R_tight rfl h) hk hS) (fun _ _ => trivial)
theorem s_kept {W W' : World} {base : Nat} {ok S : Nat → Prop} {v : Value} {ss : List (List S55)} (h : (Kd.slice 55 k55).R 37 W base ok v ss) (hk : Kept W W' S) (hS : ∀ k, some k = v.ownBlock → ¬ S k) (h55 : ∀ k cells, W.heap[k]? = some (.cells cells 55 (0, 0)) → ¬ S k) : (Kd.slice 55 k55).R 37 W' base (fun _ => True) v ss :=
 Kd.R_mono (Kd.R_kept (s_split h) hk (fun k q => q.elim (hS k) (fun ⟨cells, hc⟩ => h55 k cells hc))) (fun _ _ => trivial)
/-- The law's own tree. -/
structure WAt (base b6 : Nat) (u v wn ws : Value) (r : Int) (ns : List S41) (ss : List (List S55)) (W : World) : Prop where
 box : W.heap[b6]? = some (.cells #[wn, ws, .int .i64 r] 25 (0, 0))
 n : Kd.R k41 41 W base (fun _ => True) wn ns
 s : Kd.R (Kd.slice 55 k55) 37 W base (fun _ => True) ws ss
 du : ∀ k, some k = u.ownBlock → some k ≠ wn.ownBlock
 dv : ∀ k, some k = v.ownBlock → some k ≠ ws.ownBlock
 lo : base ≤ b6
theorem own_typed {α : Type} {d : Kd α} {e base : Nat} {ok : Nat → Prop} {W : World} {v : Value} {xs : List α} (h : d.R e W base ok v xs) {k t : Nat} {cells : Array Value} (hk : some k = v.ownBlock) (hc : W.heap[k]? = some (.cells cells t (0, 0))) : t = e := by
 obtain ⟨c2, h2⟩ := Kd.R_typed h k hk.symm
 rw [h2] at hc
 injection hc with hc
 injection hc with _ h3
 exact h3.symm
/-- A call of the builder leaves the law's own tree. -/
theorem WAt.call {w0 : World} {g b6 : Nat} {u v wn ws : Value} {r : Int} {ns : List S41} {ss : List (List S55)} {wl : List S41} {wt : List (List S55)} {ns' : List S41} {ss' : List (List S55)} {W W' : World} (hB : BAt w0 g u v ns ss W) (hA : WAt w0.heap.size b6 u v wn ws r wl wt W) (hR : BRes w0 g u v ns' ss' W W') :
  ∃ u' v', BAt w0 g u' v' ns' ss' W' ∧ WAt w0.heap.size b6 u' v' wn ws r wl wt W' := by
 obtain ⟨u', v', h1, hk, hu, hv⟩ := hR
 refine ⟨u', v', h1, blk_kept hA.box hk ?_, n_kept hA.n hk ?_, s_kept hA.s hk ?_ ?_, ?_, ?_, hA.lo⟩
 ·rintro (q | q | q)
  ·exact blk_ne hA.box hB.box (by decide) q
  ·have := own_typed hB.n q hA.box; omega
  ·have := own_typed hB.s q hA.box; omega
 ·rintro k hk1 (q | q | q)
  ·subst q; have := own_typed hA.n hk1 hB.box; omega
  ·exact hA.du k q hk1
  ·obtain ⟨c, hc⟩ := Kd.R_typed hB.s k q.symm
   have := own_typed hA.n hk1 hc; omega
 ·rintro k hk1 (q | q | q)
  ·subst q; have := own_typed hA.s hk1 hB.box; omega
  ·obtain ⟨c, hc⟩ := Kd.R_typed hB.n k q.symm
   have := own_typed hA.s hk1 hc; omega
  ·exact hA.dv k q hk1
 ·rintro k cells hc (q | q | q)
  ·subst q
   have h2 := hB.box
   rw [hc] at h2
   simp at h2
  ·have := own_typed hB.n q hc; omega
  ·have := own_typed hB.s q hc; omega
 ·intro k q
  rcases hu k q with q2 | q2
  ·exact hA.du k q2
  ·intro q3
   have := Kd.R_lt hA.n k q3.symm
   omega
 ·intro k q
  rcases hv k q with q2 | q2
  ·exact hA.dv k q2
  ·intro q3
   have := Kd.R_lt hA.s k q3.symm
   omega
theorem WAt.under {base b6 : Nat} {u v wn ws : Value} {r : Int} {ns : List S41} {ss : List (List S55)} {W W' : World} (h : WAt base b6 u v wn ws r ns ss W) (hb : Below W.heap.size W W') : WAt base b6 u v wn ws r ns ss W' :=
 ⟨blk_below h.box hb, Kd.R_below h.n hb, Kd.R_below h.s hb, h.du, h.dv, h.lo⟩
/-- The builder stays while one row of the law's own grows. -/
theorem BAt.grown {w0 : World} {g : Nat} {u v z : Value} {ns : List S41} {ss : List (List S55)} {W W' : World} (h : BAt w0 g u v ns ss W) (hg : W.grownBy W' z.ownBlock) (hz : ∀ k, some k = z.ownBlock → k ≠ g ∧ some k ≠ u.ownBlock ∧ some k ≠ v.ownBlock ∧ ∀ cells, W.heap[k]? ≠ some (.cells cells 55 (0, 0))) (hb : Below w0.heap.size w0 W') : BAt w0 g u v ns ss W' := by
 have hk : Kept W W' (fun k => some k = z.ownBlock) := ⟨hg.size, fun i hi hn => hg.block i hi hn⟩
 exact ⟨h.lo, blk_kept h.box hk (fun q => (hz g q).1 rfl), n_kept h.n hk (fun k h1 q => (hz k q).2.1 h1), s_kept h.s hk (fun k h1 q => (hz k q).2.2.1 h1) (fun k cells hc q => (hz k q).2.2.2 cells hc), hb⟩
end Go.Proofs.Ytbgoaigbkfibbaa.HandWant

/- ArenaBuilds: the state between the calls: the builder, the law's own tree, the act, the next node. No condition. -/
set_option linter.unusedSimpArgs false
set_option linter.unusedVariables false
namespace Go.Proofs.Ytbgoaigbkfibbaa.HandSt
open Go.RowKit Go.Proofs.YtbgoaigbkfibbaaW.PrintWords Go.Proofs.YtbgoaigbkfibbaaW.PrintLast Go.Proofs.YtbgoaigbkfibbaaW.PrintMore Go.Proofs.Ytbgoaigbkfibbaa.PA Go.Proofs.Ytbgoaigbkfibbaa.HandRight Go.Proofs.Ytbgoaigbkfibbaa.HandBl Go.Proofs.Ytbgoaigbkfibbaa.HandBm Go.Proofs.Ytbgoaigbkfibbaa.HandBo Go.Proofs.Ytbgoaigbkfibbaa.HandGraft Go.Proofs.Ytbgoaigbkfibbaa.HandWant
open Go.Proofs.Ytbgoaigbkfibbaa.HandAt (N41 Z41 n_cells)
/-- The builder, the law's own tree, and a node of its own. -/
structure ST (w0 : World) (g b6 b14 : Nat) (u v wn ws : Value) (r : Int) (ns : List S41) (ss : List (List S55)) (wl : List S41) (wt : List (List S55)) (o14 : Obj) (W : World) : Prop where
 hB : BAt w0 g u v ns ss W
 hA : WAt w0.heap.size b6 u v wn ws r wl wt W
 h14 : W.heap[b14]? = some o14
 t14 : ∃ cs, o14 = .cells cs 41 (0, 0)
 eu : some b14 ≠ u.ownBlock
 ew : some b14 ≠ wn.ownBlock
 lo : w0.heap.size ≤ b14
/-- A new node beside the builder and the law's own tree. -/
theorem ST.new {w0 : World} {g b6 : Nat} {u v wn ws : Value} {r : Int} {ns : List S41} {ss : List (List S55)} {wl : List S41} {wt : List (List S55)} {W : World} (hB : BAt w0 g u v ns ss W) (hA : WAt w0.heap.size b6 u v wn ws r wl wt W) (cs : Array Value) : ST w0 g b6 W.heap.size u v wn ws r ns ss wl wt (.cells cs 41 (0, 0)) (W.alloc (.cells cs 41 (0, 0))) := by
 have hb := below_alloc (Below.refl W.heap.size W) (.cells cs 41 (0, 0))
 refine ⟨hB.under hb, hA.under hb, blk_new W _, ⟨cs, rfl⟩, fun q => ?_, fun q => ?_, hB.below.size⟩
 ·have := Kd.R_lt hB.n _ q.symm; omega
 ·have := Kd.R_lt hA.n _ q.symm; omega
theorem ST.under {w0 : World} {g b6 b14 : Nat} {u v wn ws : Value} {r : Int} {ns : List S41} {ss : List (List S55)} {wl : List S41} {wt : List (List S55)} {o14 : Obj} {W W' : World} (h : ST w0 g b6 b14 u v wn ws r ns ss wl wt o14 W) (hb : Below W.heap.size W W') : ST w0 g b6 b14 u v wn ws r ns ss wl wt o14 W' :=
 ⟨h.hB.under hb, h.hA.under hb, blk_below h.h14 hb, h.t14, h.eu, h.ew, h.lo⟩
theorem ST.call {w0 : World} {g b6 b14 : Nat} {u v wn ws : Value} {r : Int} {ns : List S41} {ss : List (List S55)} {wl : List S41} {wt : List (List S55)} {ns' : List S41} {ss' : List (List S55)} {o14 : Obj} {W W' : World} (h : ST w0 g b6 b14 u v wn ws r ns ss wl wt o14 W) (hR : BRes w0 g u v ns' ss' W W') :
  ∃ u' v', ST w0 g b6 b14 u' v' wn ws r ns' ss' wl wt o14 W' ∧ ∀ (b : Nat) (cs : Array Value) (t : Nat), W.heap[b]? = some (Obj.cells cs t (0, 0)) → t ≠ 65 → t ≠ 41 → t ≠ 37 → W'.heap[b]? = some (Obj.cells cs t (0, 0)) := by
 have hR' := hR
 obtain ⟨u1, v1, h1, hk, hu, hv⟩ := hR'
 obtain ⟨cs, hcs⟩ := h.t14
 have h14 := h.h14
 rw [hcs] at h14
 have keep : W'.heap[b14]? = some o14 := by
  refine blk_kept h.h14 hk ?_
  rintro (q | q | q)
  ·exact blk_ne h14 h.hB.box (by decide) q
  ·exact h.eu q
  ·have := own_typed h.hB.s q h14; omega
 have hw := WAt.call h.hB h.hA ⟨u1, v1, h1, hk, hu, hv⟩
 obtain ⟨u', v', h1', hA'⟩ := hw
 have hA2 : WAt w0.heap.size b6 u1 v1 wn ws r wl wt W' := by
  refine ⟨hA'.box, hA'.n, hA'.s, fun k q => ?_, fun k q => ?_, hA'.lo⟩
  ·rcases hu k q with q2 | q2
   ·exact h.hA.du k q2
   ·intro q3; have := Kd.R_lt h.hA.n k q3.symm; omega
  ·rcases hv k q with q2 | q2
   ·exact h.hA.dv k q2
   ·intro q3; have := Kd.R_lt h.hA.s k q3.symm; omega
 refine ⟨u1, v1, ⟨h1, hA2, keep, h.t14, fun q => ?_, h.ew, h.lo⟩, ?_⟩
 ·rcases hu b14 q with q2 | q2
  ·exact h.eu q2
  ·have := blk_lt h14; omega
 ·intro b cs' t hb n1 n2 n3
  refine blk_kept hb hk ?_
  rintro (q | q | q)
  ·exact blk_ne hb h.hB.box n1 q
  ·have := own_typed h.hB.n q hb; omega
  ·have := own_typed h.hB.s q hb; omega
def ch6 (w : World) (p : Nat) (x0 x1 x2 x3 x4 x5 : Int) : World := ((((((w.setCell ⟨p, 0, none⟩ (.int .i64 x0)).setCell ⟨p, 1, none⟩ (.int .i64 x1)).setCell ⟨p, 2, none⟩ (.int .i64 x2)).setCell ⟨p, 3, none⟩ (.int .i64 x3)).setCell ⟨p, 4, none⟩ (.int .i64 x4)).setCell ⟨p, 5, none⟩ (.int .i64 x5))
theorem ch6_kept (w : World) (p : Nat) (x0 x1 x2 x3 x4 x5 : Int) : Kept w (ch6 w p x0 x1 x2 x3 x4 x5) (fun k => k = p) := by
 unfold ch6
 refine ⟨by simp, fun i hi hn => ?_⟩
 rw [Below.heap_setCell _ ⟨p, 5, none⟩ _ i hn, Below.heap_setCell _ ⟨p, 4, none⟩ _ i hn, Below.heap_setCell _ ⟨p, 3, none⟩ _ i hn, Below.heap_setCell _ ⟨p, 2, none⟩ _ i hn, Below.heap_setCell _ ⟨p, 1, none⟩ _ i hn, Below.heap_setCell _ ⟨p, 0, none⟩ _ i hn]
/-- The node is written. -/
theorem ST.store {w0 : World} {g b6 b14 : Nat} {u v wn ws : Value} {r : Int} {ns : List S41} {ss : List (List S55)} {wl : List S41} {wt : List (List S55)} {W : World} (h : ST w0 g b6 b14 u v wn ws r ns ss wl wt Z41 W) (x0 x1 x2 x3 x4 x5 : Int) :
  ST w0 g b6 b14 u v wn ws r ns ss wl wt (N41 x0 x1 x2 x3 x4 x5) (ch6 W b14 x0 x1 x2 x3 x4 x5) := by
 have hk := ch6_kept W b14 x0 x1 x2 x3 x4 x5
 have h14 : W.heap[b14]? = some (.cells #[.int .i64 0, .int .i64 0, .int .i64 0, .int .i64 0, .int .i64 0, .int .i64 0] 41 (0, 0)) := h.h14
 have n55 : ∀ k cells, W.heap[k]? = some (.cells cells 55 (0, 0)) → ¬ k = b14 := by
  intro k cells hc q
  subst q
  rw [h14] at hc
  simp at hc
 have hnew : (ch6 W b14 x0 x1 x2 x3 x4 x5).heap[b14]? = some (N41 x0 x1 x2 x3 x4 x5) := by
  unfold ch6
  exact blk_put (blk_put (blk_put (blk_put (blk_put (blk_put h14 0 _ rfl) 1 _ rfl) 2 _ rfl) 3 _ rfl) 4 _ rfl) 5 _ rfl
 have hbel : Below w0.heap.size w0 (ch6 W b14 x0 x1 x2 x3 x4 x5) := by
  unfold ch6
  exact (((((h.hB.below.setCell h.lo _).setCell h.lo _).setCell h.lo _).setCell h.lo _).setCell h.lo _).setCell h.lo _
 refine ⟨⟨h.hB.lo, blk_kept h.hB.box hk (fun q => blk_ne h14 h.hB.box (by decide) q.symm), n_kept h.hB.n hk (fun k q e => h.eu (by rw [← e]; exact q)), s_kept h.hB.s hk (fun k q e => ?_) n55, hbel⟩,
  ⟨blk_kept h.hA.box hk (fun q => blk_ne h14 h.hA.box (by decide) q.symm), n_kept h.hA.n hk (fun k q e => h.ew (by rw [← e]; exact q)), s_kept h.hA.s hk (fun k q e => ?_) n55, h.hA.du, h.hA.dv, h.hA.lo⟩, hnew, ⟨_, rfl⟩, h.eu, h.ew, h.lo⟩
 ·subst e; have := own_typed h.hB.s q h14; omega
 ·subst e; have := own_typed h.hA.s q h14; omega
/-- The node is put behind the law's own nodes. -/
theorem WAt.pushed {w0 : World} {g b6 : Nat} {u v wn ws z1 : Value} {r : Int} {ns : List S41} {ss : List (List S55)} {wl : List S41} {wt : List (List S55)} {n : S41} {W w9 : World} (hB : BAt w0 g u v ns ss W) (hA : WAt w0.heap.size b6 u v wn ws r wl wt W) (ho : k41.R 41 w9 w0.heap.size (fun _ => True) z1 (wl ++ [n])) (hb : Below w0.heap.size w0 w9) (hg : W.grownBy w9 wn.ownBlock)
  (hat : z1.ownBlock = wn.ownBlock ∨ ∃ b, z1.ownBlock = some b ∧ W.heap.size ≤ b) : BAt w0 g u v ns ss (w9.setCell ⟨b6, 0, none⟩ z1) ∧ WAt w0.heap.size b6 u v z1 ws r (wl ++ [n]) wt (w9.setCell ⟨b6, 0, none⟩ z1) := by
 have h9 : BAt w0 g u v ns ss w9 := by
  refine BAt.grown hB hg (fun k q => ⟨fun e => ?_, fun e => hA.du k e q, fun e => ?_, fun cells hc => ?_⟩) hb
  ·subst e; have := own_typed hA.n q hB.box; omega
  ·obtain ⟨c, hc⟩ := Kd.R_typed hB.s k e.symm; have := own_typed hA.n q hc; omega
  ·have := own_typed hA.n q hc; omega
 have b9 := blk_grown hA.box hg (Kd.R_ne hA.n hA.box (by decide))
 refine ⟨⟨h9.lo, blk_far h9.box (blk_ne h9.box b9 (by decide)) _, Kd.R_set h9.n b9 (by decide) 0 _, Kd.R_set h9.s b9 (by decide) 0 _, h9.below.setCell hA.lo _⟩,
  ⟨blk_put b9 0 _ rfl, Kd.R_set ho b9 (by decide) 0 _, Kd.R_set (Kd.R_over hA.s hA.n (by decide) hg) b9 (by decide) 0 _, fun k q e => ?_, hA.dv, hA.lo⟩⟩
 rcases hat with h1 | ⟨b, h1, h2⟩
 ·exact hA.du k q (e.trans h1)
 ·rw [h1] at e
  injection e with e
  have := Kd.R_lt hB.n k q.symm
  omega
/-- A set is put behind the law's own sets. -/
theorem WAt.pushedSet {w0 : World} {g b6 : Nat} {u v wn ws z1 : Value} {r : Int} {ns : List S41} {ss : List (List S55)} {wl : List S41} {wt : List (List S55)} {x : List S55} {W w9 : World} (hB : BAt w0 g u v ns ss W) (hA : WAt w0.heap.size b6 u v wn ws r wl wt W) (ho : (Kd.slice 55 k55).R 37 w9 w0.heap.size (fun _ => True) z1 (wt ++ [x])) (hb : Below w0.heap.size w0 w9) (hg : W.grownBy w9 ws.ownBlock)
  (hat : z1.ownBlock = ws.ownBlock ∨ ∃ b, z1.ownBlock = some b ∧ W.heap.size ≤ b) : BAt w0 g u v ns ss (w9.setCell ⟨b6, 1, none⟩ z1) ∧ WAt w0.heap.size b6 u v wn z1 r wl (wt ++ [x]) (w9.setCell ⟨b6, 1, none⟩ z1) := by
 have h9 : BAt w0 g u v ns ss w9 := by
  refine BAt.grown hB hg (fun k q => ⟨fun e => ?_, fun e => ?_, fun e => hA.dv k e q, fun cells hc => ?_⟩) hb
  ·subst e; have := own_typed hA.s q hB.box; omega
  ·obtain ⟨c, hc⟩ := Kd.R_typed hB.n k e.symm; have := own_typed hA.s q hc; omega
  ·have := own_typed hA.s q hc; omega
 have b9 := blk_grown hA.box hg (Kd.R_ne hA.s hA.box (by decide))
 refine ⟨⟨h9.lo, blk_far h9.box (blk_ne h9.box b9 (by decide)) _, Kd.R_set h9.n b9 (by decide) 1 _, Kd.R_set h9.s b9 (by decide) 1 _, h9.below.setCell hA.lo _⟩,
  ⟨blk_put b9 1 _ rfl, Kd.R_set (Kd.R_over hA.n hA.s (by decide) hg) b9 (by decide) 1 _, Kd.R_set ho b9 (by decide) 1 _, hA.du, fun k q e => ?_, hA.lo⟩⟩
 rcases hat with h1 | ⟨b, h1, h2⟩
 ·exact hA.dv k q (e.trans h1)
 ·rw [h1] at e
  injection e with e
  have := Kd.R_lt hB.s k q.symm
  omega
theorem ST.pushedSet {w0 : World} {g b6 b14 : Nat} {u v wn ws z1 : Value} {r : Int} {ns : List S41} {ss : List (List S55)} {wl : List S41} {wt : List (List S55)} {x : List S55} {cs : Array Value} {W w9 : World} (h : ST w0 g b6 b14 u v wn ws r ns ss wl wt (.cells cs 41 (0, 0)) W) (ho : (Kd.slice 55 k55).R 37 w9 w0.heap.size (fun _ => True) z1 (wt ++ [x])) (hb : Below w0.heap.size w0 w9) (hg : W.grownBy w9 ws.ownBlock)
  (hat : z1.ownBlock = ws.ownBlock ∨ ∃ b, z1.ownBlock = some b ∧ W.heap.size ≤ b) : ST w0 g b6 b14 u v wn z1 r ns ss wl (wt ++ [x]) (.cells cs 41 (0, 0)) (w9.setCell ⟨b6, 1, none⟩ z1) := by
 obtain ⟨h1, h2⟩ := WAt.pushedSet h.hB h.hA ho hb hg hat
 have b9 := blk_grown h.hA.box hg (Kd.R_ne h.hA.s h.hA.box (by decide))
 have n9 := blk_grown h.h14 hg (Kd.R_ne h.hA.s h.h14 (by decide))
 exact ⟨h1, h2, blk_far n9 (blk_ne n9 b9 (by decide)) _, h.t14, h.eu, h.ew, h.lo⟩
theorem heap55 : Kd.Heap k55 := Kd.heap_iso _ (Kd.heap_pair (Kd.heap_int .i64) (Kd.heap_int .i64))
/-- An act's ranges stay while the builder is called. -/
theorem act_sets {w0 : World} {g : Nat} {u v : Value} {ns : List S41} {ss : List (List S55)} {W : World} {A : Option Addr} {l : List S55} (hB : BAt w0 g u v ns ss W) (hC : Kd.C k55 w0 A l.length l) : ∀ W', Kept W W' (fun k => k = g ∨ some k = u.ownBlock ∨ W.heap.size ≤ k) → Kd.C k55 W' A l.length l :=
 Kd.C_kept_came heap55 hC hB.below (fun k hk => by
  rcases hk with q | q | q
  ·rw [q]; exact hB.lo
  ·exact Kd.R_base hB.n k q.symm
  ·exact Nat.le_trans hB.below.size q)
end Go.Proofs.Ytbgoaigbkfibbaa.HandSt

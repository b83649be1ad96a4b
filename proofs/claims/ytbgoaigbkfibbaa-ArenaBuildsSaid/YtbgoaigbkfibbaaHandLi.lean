import Derived.Test.YtbgoaigbkfibbaaHandSt
import Derived.Test.YtbgoaigbkfibbaaPfG
import Derived.Test.YtbgoaigbkfibbaaPAx0
import Derived.Test.YtbgoaigbkfibbaaPAx5
import Derived.Test.YtbgoaigbkfibbaaHandAlive
import Derived.Test.YtbgoaigbkfibbaaPAx12
import Derived.Test.YtbgoaigbkfibbaaPAx13
import Derived.Test.YtbgoaigbkfibbaaPAx15
import Derived.Test.YtbgoaigbkfibbaaPAx3
/- ArenaBuilds: a tree that is put in; the law's own tree written anew. Conditions: bounds on lengths. -/
set_option linter.unusedSimpArgs false
set_option linter.unusedVariables false
namespace Go.Proofs.Ytbgoaigbkfibbaa.HandEnd
open Go.RowKit Go.Proofs.YtbgoaigbkfibbaaW.PrintWords Go.Proofs.YtbgoaigbkfibbaaW.PrintLast Go.Proofs.YtbgoaigbkfibbaaW.PrintMore Go.Proofs.Ytbgoaigbkfibbaa.PA Go.Proofs.Ytbgoaigbkfibbaa.HandRight Go.Proofs.Ytbgoaigbkfibbaa.HandBl Go.Proofs.Ytbgoaigbkfibbaa.HandBm Go.Proofs.Ytbgoaigbkfibbaa.HandBo Go.Proofs.Ytbgoaigbkfibbaa.HandGraft Go.Proofs.Ytbgoaigbkfibbaa.HandGraftN Go.Proofs.Ytbgoaigbkfibbaa.HandWant Go.Proofs.Ytbgoaigbkfibbaa.HandSt Go.Proofs.Ytbgoaigbkfibbaa.PfT Go.Proofs.Ytbgoaigbkfibbaa.PfF Go.Proofs.Ytbgoaigbkfibbaa.PfC Go.Proofs.Ytbgoaigbkfibbaa.PfG Go.Proofs.Ytbgoaigbkfibbaa.Sets
open Go.Proofs.Ytbgoaigbkfibbaa.HandSame (treeB treeB_ok okB arena_Same.f)
/-- A tree that may be is put in. -/
theorem graft_good (w0 : World) (g : Nat) (u v : Value) (ns : List S41) (ss : List (List S55)) (A0 : Option Addr) (c0 : Nat) (la : List S41) (A1 : Option Addr) (c1 : Nat) (sa : List (List S55)) (root : Int) (W : World) (h : BAt w0 g u v ns ss W)
  (hq0 : Kd.C k41 w0 A0 la.length la) (hc0 : la.length ≤ c0) (hq1 : Kd.C (Kd.slice 55 k55) w0 A1 sa.length sa) (hc1 : sa.length ≤ c1) (hf : Fine ns ss) (hn : Near la sa) (hg : good la sa root) (hl : ns.length ≤ 1800) (hs : ss.length ≤ 1800) :
  Calls Try.prog 24 #[.pointer (some ⟨g, 0, none⟩), .agg #[.slice A0 la.length c0, .slice A1 sa.length c1, .int .i64 root]] W fun e W' => e = .returned (.int .i64 ((ns.length : Int) + root)) ∧ ∃ n1 s1, (n1.length = ns.length + la.length ∧ s1.length = ss.length + sa.length ∧ Fine n1 s1 ∧ arena_Same.f 9000 n1 s1 ((ns.length : Int) + root) la sa root = some true) ∧ BRes w0 g u v n1 s1 W W' := by
 have hfa := fine_of hn hg
 have hn60 := hn.n
 have hm60 := hn.m
 have hck : ∀ k, 500 ≤ k → arena_Check.f k la sa root = some 0 := by
  intro k hk
  obtain ⟨e, h1, _, h3⟩ := check_a la sa root hn k hk
  rw [h1, h3.2 hg]
 refine (graft_calls w0 g u v ns ss A0 c0 la A1 c1 sa root W h hq0 hc0 hq1 hc1 500 (hck 500 (Nat.le_refl _)) hfa.right hg.1.1 hg.1.2 hn.n hn.m (fun x hx => by have := hn.s x hx; omega) (by omega) (by omega)).mono ?_
 rintro e W' ⟨rfl, hf'⟩
 have hfg := hf.graft hfa (by omega) (by omega)
 have hlen : (ns ++ la.map (shiftN (ns.length : Int) (ss.length : Int))).length = ns.length + la.length := by simp
 refine ⟨rfl, _, _, ⟨hlen, by simp, hfg, ?_⟩, hf'⟩
 have hT := same_graft hf hfa (by omega) (by omega) (la.length) root hg.1.1 hg.1.2 hg.1.2
 have r0 := hg.1.1
 have r1 := hg.1.2
 have hC := hn.c hfa.right root r0 r1
 unfold arena_Same.f
 rw [check_a' _ _ _ hfg (by omega) (by rw [hlen]; omega) 9000 (by omega), Option.bind_some, if_pos rfl, hck 9000 (by omega), Option.bind_some, if_pos rfl, if_pos ?_, hT]
 unfold okB
 simp only [Bool.and_eq_true, decide_eq_true_eq, treeB_ok]
 exact ⟨⟨⟨hfg.tree, hfa.tree⟩, ⟨by omega, by rw [hlen]; omega⟩, r0, r1⟩, by omega⟩
/-- A tree that may not be is not. -/
theorem graft_bad (w0 : World) (g : Nat) (u v : Value) (ns : List S41) (ss : List (List S55)) (A0 : Option Addr) (c0 : Nat) (la : List S41) (A1 : Option Addr) (c1 : Nat) (sa : List (List S55)) (root : Int) (W : World) (h : BAt w0 g u v ns ss W)
  (hq0 : Kd.C k41 w0 A0 la.length la) (hc0 : la.length ≤ c0) (hq1 : Kd.C (Kd.slice 55 k55) w0 A1 sa.length sa) (hc1 : sa.length ≤ c1) (hn : Near la sa) (hg : ¬ good la sa root) :
  Calls Try.prog 24 #[.pointer (some ⟨g, 0, none⟩), .agg #[.slice A0 la.length c0, .slice A1 sa.length c1, .int .i64 root]] W fun e W' => e = .returned (.int .i64 (-1)) ∧ BRes w0 g u v ns ss W W' := by
 refine graft_not w0 g u v ns ss A0 c0 la A1 c1 sa root W h hq0 hc0 hq1 hc1 500 ?_
 obtain ⟨e, h1, h2, h3⟩ := check_a la sa root hn 500 (Nat.le_refl _)
 rcases h2 with rfl | rfl
 ·exact absurd (h3.1 rfl) hg
 ·exact h1
theorem check_tells {la : List S41} {sa : List (List S55)} {root : Int} (hn : Near la sa) : ∃ e, spoolref10_Check.f 800 la sa root = some e ∧ (good la sa root → e = 0) ∧ (¬ good la sa root → e = 3) := by
 obtain ⟨e, h1, h2, h3⟩ := check_r la sa root hn 800 (Nat.le_refl _)
 exact ⟨e, h1, h3.2, fun hg => h2.resolve_left (fun q => hg (h3.1 q))⟩
/-- Three cells of one block. -/
def ch3 (w : World) (p : Nat) (x0 x1 x2 : Value) : World := ((w.setCell ⟨p, 0, none⟩ x0).setCell ⟨p, 1, none⟩ x1).setCell ⟨p, 2, none⟩ x2
theorem ch3_below {w w' : World} {base p : Nat} (h : Below base w w') (hp : base ≤ p) (x0 x1 x2 : Value) : Below base w (ch3 w' p x0 x1 x2) := ((h.setCell hp _).setCell hp _).setCell hp _
theorem ch3_kept (w : World) (p : Nat) (x0 x1 x2 : Value) : Kept w (ch3 w p x0 x1 x2) (fun k => k = p) := by
 unfold ch3
 refine ⟨by simp, fun i hi hn => ?_⟩
 rw [Below.heap_setCell _ ⟨p, 2, none⟩ _ i hn, Below.heap_setCell _ ⟨p, 1, none⟩ _ i hn, Below.heap_setCell _ ⟨p, 0, none⟩ _ i hn]
theorem ch3_box {w : World} {p : Nat} {y0 y1 y2 : Value} {t : Nat} (h : w.heap[p]? = some (.cells #[y0, y1, y2] t (0, 0))) (x0 x1 x2 : Value) : (ch3 w p x0 x1 x2).heap[p]? = some (.cells #[x0, x1, x2] t (0, 0)) := by
 unfold ch3
 exact blk_put (blk_put (blk_put h 0 _ rfl) 1 _ rfl) 2 _ rfl
theorem new_cells25 {w : World} {g : Nat} {x0 x1 x2 : Value} (h : w.heap[g]? = some (.cells #[x0, x1, x2] 25 (0, 0))) : w.cell? ⟨g, 0, none⟩ = some x0 ∧ w.cell? ⟨g, 1, none⟩ = some x1 ∧ w.cell? ⟨g, 2, none⟩ = some x2 ∧ w.frozen? ⟨g, 0, none⟩ = false ∧ w.frozen? ⟨g, 1, none⟩ = false ∧ w.frozen? ⟨g, 2, none⟩ = false :=
 ⟨(blk_cell h 0).trans rfl, (blk_cell h 1).trans rfl, (blk_cell h 2).trans rfl, blk_frozen h 0, blk_frozen h 1, blk_frozen h 2⟩
/-- The law's own tree becomes a fresh one. -/
theorem WAt.swap {w0 : World} {g b6 : Nat} {u v wn ws v0 v1 : Value} {r r' : Int} {ns : List S41} {ss : List (List S55)} {wl : List S41} {wt : List (List S55)} {n1 : List S41} {s1 : List (List S55)} {W w9 : World} (hB : BAt w0 g u v ns ss W) (hA : WAt w0.heap.size b6 u v wn ws r wl wt W) (hb : Below W.heap.size W w9) (h0 : k41.R 41 w9 W.heap.size (fun _ => True) v0 n1) (h1 : (Kd.slice 55 k55).R 37 w9 W.heap.size (fun _ => True) v1 s1) :
  BAt w0 g u v ns ss (ch3 w9 b6 v0 v1 (.int .i64 r')) ∧ WAt w0.heap.size b6 u v v0 v1 r' n1 s1 (ch3 w9 b6 v0 v1 (.int .i64 r')) := by
 have B9 := hB.under hb
 have A9 := hA.under hb
 have hbox := A9.box
 refine ⟨⟨B9.lo, ?_, ?_, ?_, ?_⟩, ⟨ch3_box hbox _ _ _, ?_, ?_, fun k q e => ?_, fun k q e => ?_, hA.lo⟩⟩
 ·exact blk_kept B9.box (ch3_kept _ _ _ _ _) (fun q => blk_ne B9.box hbox (by decide) q)
 ·exact n_kept B9.n (ch3_kept _ _ _ _ _) (fun k q e => by subst e; have := own_typed B9.n q hbox; omega)
 ·exact s_kept B9.s (ch3_kept _ _ _ _ _) (fun k q e => by subst e; have := own_typed B9.s q hbox; omega) (fun k cells hc q => by subst q; rw [hbox] at hc; simp at hc)
 ·exact ch3_below B9.below hA.lo _ _ _
 ·exact n_kept (Kd.R_lower h0 hB.below.size) (ch3_kept _ _ _ _ _) (fun k q e => by subst e; have := own_typed h0 q hbox; omega)
 ·exact s_kept (Kd.R_lower h1 hB.below.size) (ch3_kept _ _ _ _ _) (fun k q e => by subst e; have := own_typed h1 q hbox; omega) (fun k cells hc q => by subst q; rw [hbox] at hc; simp at hc)
 ·have h2 := Kd.R_lt hB.n k q.symm
  have h3 := Kd.R_base h0 k e.symm
  omega
 ·have h2 := Kd.R_lt hB.s k q.symm
  have h3 := Kd.R_base h1 k e.symm
  omega
end Go.Proofs.Ytbgoaigbkfibbaa.HandEnd

/- ArenaBuilds: what holds ahead of each act; how a part of the walked code is named. No condition. -/
set_option linter.unusedSimpArgs false
set_option linter.unusedVariables false
namespace Go.Proofs.Ytbgoaigbkfibbaa.HandLi
open Go.RowKit Go.Proofs.YtbgoaigbkfibbaaW.PrintWords Go.Proofs.YtbgoaigbkfibbaaW.PrintLast Go.Proofs.YtbgoaigbkfibbaaW.PrintMore Go.Proofs.Ytbgoaigbkfibbaa.PA Go.Proofs.Ytbgoaigbkfibbaa.HandRight Go.Proofs.Ytbgoaigbkfibbaa.HandBl Go.Proofs.Ytbgoaigbkfibbaa.HandBm Go.Proofs.Ytbgoaigbkfibbaa.HandBo Go.Proofs.Ytbgoaigbkfibbaa.HandGraft Go.Proofs.Ytbgoaigbkfibbaa.HandGraftN Go.Proofs.Ytbgoaigbkfibbaa.HandWant Go.Proofs.Ytbgoaigbkfibbaa.HandSt Go.Proofs.Ytbgoaigbkfibbaa.HandAlive Go.Proofs.Ytbgoaigbkfibbaa.PfT Go.Proofs.Ytbgoaigbkfibbaa.PfF Go.Proofs.Ytbgoaigbkfibbaa.PfC Go.Proofs.Ytbgoaigbkfibbaa.PfG Go.Proofs.Ytbgoaigbkfibbaa.Sets Go.Proofs.Ytbgoaigbkfibbaa.HandEnd Go.Proofs.Ytbgoaigbkfibbaa.HandTree
open Go.Proofs.Ytbgoaigbkfibbaa.HandSame (cells25 two_boxes arena_Same.f arena_Same.calls)
open Go.Proofs.Ytbgoaigbkfibbaa.HandAt (N41 Z41 n_cells new_cells new_frozen)
structure J11 where
 s47 : Value
 s48 : Value
 s49 : Value
 s50 : Value
 s51 : Value
 s52 : Value
 s56 : Value
 s57 : Value
 s58 : Value
 s59 : Value
 s60 : Value
 s61 : Value
 bx : Bool
 by_ : Bool
/-- What holds ahead of each act. -/
def LI (w0 : World) (g b6 j : Nat) (W : World) : Prop := ∃ ns ss, Fine ns ss ∧ ns.length ≤ 60 * j ∧ ss.length ≤ 60 * j ∧ ∃ u v wn ws r, BAt w0 g u v ns ss W ∧ WAt w0.heap.size b6 u v wn ws r ns ss W
theorem LI.start (W : World) : LI W W.heap.size (W.heap.size + 1) 0 ((W.alloc (.cells #[.slice none 0 0, .slice none 0 0] 65 (0, 0))).alloc (.cells #[.slice none 0 0, .slice none 0 0, .int .i64 0] 25 (0, 0))) := by
 refine ⟨[], [], ⟨by simp, by simp, fun i _ hi => by simp at hi, fun i _ hi => by simp at hi, fun x hx => by simp at hx⟩, by simp, by simp, _, _, _, _, 0, (new_builder W).under (below_alloc (Below.refl _ _) _), ⟨(two_boxes W _ _).2, Kd.R_nil _ _ _ _ _, Kd.R_nil _ _ _ _ _, ?_, ?_, by omega⟩⟩
 ·intro k q; simp [Value.ownBlock] at q
 ·intro k q; simp [Value.ownBlock] at q
theorem cells39 {w : World} {g : Nat} {v0 v1 v2 v3 v4 v5 v6 v7 : Value} (h : w.heap[g]? = some (.cells #[v0, v1, v2, v3, v4, v5, v6, v7] 39 (0, 0))) : w.cell? ⟨g, 0, none⟩ = some v0 ∧ w.cell? ⟨g, 1, none⟩ = some v1 ∧ w.cell? ⟨g, 2, none⟩ = some v2 ∧ w.cell? ⟨g, 3, none⟩ = some v3 ∧ w.cell? ⟨g, 4, none⟩ = some v4 ∧ w.cell? ⟨g, 5, none⟩ = some v5 ∧ w.cell? ⟨g, 6, none⟩ = some v6 ∧ w.cell? ⟨g, 7, none⟩ = some v7 :=
 ⟨(blk_cell h 0).trans rfl, (blk_cell h 1).trans rfl, (blk_cell h 2).trans rfl, (blk_cell h 3).trans rfl, (blk_cell h 4).trans rfl, (blk_cell h 5).trans rfl, (blk_cell h 6).trans rfl, (blk_cell h 7).trans rfl⟩
theorem BRes.after {w0 : World} {g : Nat} {u v : Value} {ns : List S41} {ss : List (List S55)} {W w6 w' : World} (h : BRes w0 g u v ns ss W w6) (hb : Below w6.heap.size w6 w') : BRes w0 g u v ns ss W w' := by
 obtain ⟨u', v', h1, h2, h3, h4⟩ := h
 refine ⟨u', v', h1.under hb, h2.then_ (Kept.of_below hb (BK g u v)) (fun k hk => .inl hk), h3, h4⟩
theorem BRes.drawn {w0 : World} {g : Nat} {u v : Value} {ns : List S41} {ss : List (List S55)} {W w6 w' : World} {n : Nat} (h : BRes w0 g u v ns ss W w6) (hw : w' = w6.drewN n) : BRes w0 g u v ns ss W w' := by
 subst hw
 exact BRes.after h (pw_below_drewN (Below.refl _ _) n)
theorem rep_res {w0 : World} {g : Nat} {u v : Value} {ns : List S41} {ss : List (List S55)} {W W' : World} (h : ∃ u', BAt w0 g u' v ns ss W' ∧ Kept W W' (fun k => k = g ∨ some k = u.ownBlock) ∧ (∀ k, some k = u'.ownBlock → some k = u.ownBlock ∨ W.heap.size ≤ k)) : BRes w0 g u v ns ss W W' := add_res h
/-- The next act's state. -/
theorem LI.next {w0 : World} {g b6 j : Nat} {u v wn ws : Value} {r : Int} {ns : List S41} {ss : List (List S55)} {W : World} (hB : BAt w0 g u v ns ss W) (hA : WAt w0.heap.size b6 u v wn ws r ns ss W) (hF : Fine ns ss) (h1 : ns.length ≤ 60 * j) (h2 : ss.length ≤ 60 * j) : LI w0 g b6 j W := ⟨ns, ss, hF, h1, h2, u, v, wn, ws, r, hB, hA⟩
/-- Whether code starts with a region. -/
def starts (n : Nat) : Code → Bool
 | .region id _ _ => Nat.beq id n
 | .seq a _ => starts n a
 | _ => false
/-- The part of the code that starts with a region. -/
def pick (n : Nat) : Code → Option Code
 | .region id ops d => bif Nat.beq id n then some (.region id ops d) else none
 | .seq a b => bif starts n a then some (.seq a b) else (pick n a).or (pick n b)
 | .block _ c => pick n c
 | .loop c => pick n c
 | .cond _ a b => (pick n a).or (pick n b)
 | _ => none
end Go.Proofs.Ytbgoaigbkfibbaa.HandLi

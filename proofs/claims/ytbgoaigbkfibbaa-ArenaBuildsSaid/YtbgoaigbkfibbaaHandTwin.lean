/- Two trees held against each other: what the twins' map says, and the walk of all pairs (twin.parts). -/
import Derived.Test.YtbgoaigbkfibbaaPAx0
import Derived.Test.YtbgoaigbkfibbaaHandRight
import Derived.Test.YtbgoaigbkfibbaaHandKey
set_option linter.unusedSimpArgs false
set_option linter.unusedVariables false
namespace Go.Proofs.Ytbgoaigbkfibbaa.HandTwin
open Go.RowKit Go.Maps Go.WideMaps Go.Proofs.YtbgoaigbkfibbaaW.PrintWords Go.Proofs.YtbgoaigbkfibbaaW.PrintLast Go.Proofs.YtbgoaigbkfibbaaW.PrintMore Go.Proofs.Ytbgoaigbkfibbaa.PA Go.Proofs.Ytbgoaigbkfibbaa.HandKey Go.Proofs.Ytbgoaigbkfibbaa.HandRight
theorem cell_al {W : World} {p : Addr} {u : Value} (h : W.cell? p = some u) (o1 : Obj) : (W.alloc o1).cell? p = some u := ((below_alloc (Below.refl _ W) o1).cell (World.block_lt_of_cell? W _ h)).trans h
/-- Two trees at a block, their map's block, what is so of pairs, and what a pair costs. -/
structure Tw where
 w0 : World
 g : Nat
 mb : Nat
 A0 : Option Addr
 c0 : Nat
 la : List S41
 A1 : Option Addr
 c1 : Nat
 sa : List (List S55)
 ra : Int
 B0 : Option Addr
 d0 : Nat
 lb : List S41
 B1 : Option Addr
 d1 : Nat
 sb : List (List S55)
 rb : Int
 T : Int → Int → Bool
 C : Int → Nat
def Tw.obj (V : Tw) : Obj := .cells #[.slice V.A0 V.la.length V.c0, .slice V.A1 V.sa.length V.c1, .int .i64 V.ra, .slice V.B0 V.lb.length V.d0, .slice V.B1 V.sb.length V.d1, .int .i64 V.rb, .map (some V.mb)] 63 (0, 0)
def St (V : Tw) (W : World) (n : Nat) (D : DataW Unit) : Prop := Below V.w0.heap.size V.w0 W ∧ W.heap[V.g]? = some V.obj ∧ W.ownsMap Try.prog 75 (plainElem Try.prog 3) V.mb n D ∧ Memo V.T D ∧ IsMap D
theorem St.ne {V : Tw} {W : World} {n : Nat} {D : DataW Unit} (h : St V W n D) : V.g ≠ V.mb := by
 obtain ⟨_, h1, ⟨es, clock, h2, _⟩, _⟩ := h
 intro e
 rw [e, h2] at h1
 simp [Tw.obj] at h1
theorem St.step {V : Tw} {W W1 : World} {n : Nat} {D : DataW Unit} (h : St V W n D) (hb : Below W.heap.size W W1) : St V W1 n D :=
 ⟨below_then h.1 h.1.size hb, blk_below h.2.1 hb, h.2.2.1.kept (grown_of_below hb none) (by simp), h.2.2.2⟩
/-- What is so behind a call: few more pairs are remembered, all else stays. -/
def Fin (V : Tw) (W : World) (m : Nat) (W' : World) : Prop := ∃ n' D', n' ≤ m ∧ St V W' n' D' ∧ W.grownBy W' (some V.mb)
theorem Fin.mk_ {V : Tw} {W W' : World} {m n' : Nat} {D' : DataW Unit} (h1 : n' ≤ m) (h2 : St V W' n' D') (h3 : W.grownBy W' (some V.mb)) : Fin V W m W' := ⟨n', D', h1, h2, h3⟩
/-- What at does at a pair. -/
def AtC (V : Tw) (x y : Int) : Prop := ∀ (W : World) (n : Nat) (D : DataW Unit), St V W n D → n + V.C y < 2 ^ 62 →
 Calls Try.prog 35 #[.pointer (some ⟨V.g, 0, none⟩), .int .i64 x, .int .i64 y] W fun e W' => e = .returned (.bool (V.T x y)) ∧ Fin V W (n + V.C y) W'
def sumC (V : Tw) (ps : List (Int × Int)) : Nat := (ps.map fun p => V.C p.2).foldr (· + ·) 0
set_option maxRecDepth 100000 in
set_option maxHeartbeats 2000000 in
theorem parts_calls (V : Tw) (ps : List (Int × Int)) (hat : ∀ p, p ∈ ps → AtC V p.1 p.2) (W : World) (n : Nat) (D : DataW Unit) (hS : St V W n D) (hn : n + sumC V ps < 2 ^ 62) (h cap : Nat) (hl : ps.length < 2 ^ 31)
  (hh : h < W.heap.size) (hhm : h ≠ V.mb)
  (hrow : ∀ (j : Nat) (hj : j < ps.length), W.cell? ⟨h, j * 2, none⟩ = some (.int .i64 (ps[j]'hj).1) ∧ W.cell? ⟨h, j * 2 + 1, none⟩ = some (.int .i64 (ps[j]'hj).2)) :
  Calls Try.prog 47 #[.pointer (some ⟨V.g, 0, none⟩), .func (.func 35) #[] #[], .slice (some ⟨h, 0, none⟩) ps.length cap] W fun e W' => e = .returned (.bool (ps.all fun p => V.T p.1 p.2)) ∧ Fin V W (n + sumC V ps) W' := by
 have HA := Aside0.mk hat
 have HS := Aside0.mk hS
 have HN := Aside0.mk hn
 have HH := Aside0.mk hh
 have HHM := Aside0.mk hhm
 have HR := Aside0.mk hrow
 have HL := Aside0.mk hl
 clear hat hS hn hh hhm hrow hl
 have hu75 := Try.underlying75
 go_enter Try.func47, Try.ntmps47
 go_wp2
 go_loopg [11] (ps.length + 1) (fun kq v11 w' => ∃ (x : Int) (j : Nat), v11 = .int .i64 x ∧ Aside0 (x = (j : Int)) ∧ Aside0 (j + kq = ps.length + 1) ∧ Aside0 ((ps.drop j).all (fun p => V.T p.1 p.2) = ps.all (fun p => V.T p.1 p.2)) ∧ Aside0 (∃ n' D', n' + sumC V (ps.drop j) ≤ n + sumC V ps ∧ St V w' n' D' ∧ W.grownBy w' (some V.mb)))
 case atStart => exact ⟨0, 0, rfl, ⟨rfl⟩, ⟨by omega⟩, ⟨by simp⟩, ⟨n, D, by simp, HS.out, grown_of_below (Below.refl _ _) _⟩⟩
 case round =>
  obtain ⟨x, j, rfl, HX, HJ, HQ, HB⟩ := hrel
  have hx := HX.out
  by_cases c : j < ps.length
  ·have hj1 : (0 ≤ x) = True := eq_true (by omega)
   have hj2 : (x < (ps.length : Int)) = True := eq_true (by omega)
   have hj1' : decide (0 ≤ x) = true := decide_eq_true (by omega)
   have hj2' : decide (x < (ps.length : Int)) = true := decide_eq_true (by omega)
   have hxj : x.toNat = j := by omega
   obtain ⟨n1, D1, hn1, hS1, hg1⟩ := HB.out
   obtain ⟨r0, r1⟩ := HR.out j c
   obtain ⟨a, ha⟩ : ∃ a, (ps[j]'c).1 = a := ⟨_, rfl⟩
   obtain ⟨b, hb⟩ : ∃ b, (ps[j]'c).2 = b := ⟨_, rfl⟩
   have q0 : wr.cell? ⟨h, x.toNat * 2, none⟩ = some (.int .i64 a) := by rw [hxj, ← ha]; exact cell_grown hg1 r0 (by intro e; exact HHM.out (by simpa using e))
   have q1 : wr.cell? ⟨h, x.toNat * 2 + 1, none⟩ = some (.int .i64 b) := by rw [hxj, ← hb]; exact cell_grown hg1 r1 (by intro e; exact HHM.out (by simpa using e))
   have q0' := fun o => cell_al q0 o
   have q1' := fun o => cell_al q1 o
   have hd : ps.drop j = (ps[j]'c) :: ps.drop (j + 1) := List.drop_eq_getElem_cons c
   have hJ := HJ.out
   have hL := HL.out
   have hw : wrap64 (x + 1) = ((j + 1 : Nat) : Int) := by unfold wrap64; omega
   have HC := Aside0.mk c
   have HD : Aside0 (ps.drop j = (a, b) :: ps.drop (j + 1)) := ⟨by rw [← ha, ← hb]; exact hd⟩
   have HM : Aside0 ((a, b) ∈ ps) := ⟨by rw [← ha, ← hb]; exact List.getElem_mem c⟩
   have HS1 := Aside0.mk hS1
   have HG1 := Aside0.mk hg1
   have HN1 := Aside0.mk hn1
   have HJ' := Aside0.mk hJ
   have HW := Aside0.mk hw
   clear ha hb c hd hS1 hg1 hn1 hJ hL r0 r1 HB HJ hx hxj hw
   have hB0 : ∀ W1, Below wr.heap.size wr W1 → ∀ n2 D2 w4, n2 ≤ n1 + V.C b → St V w4 n2 D2 → W1.grownBy w4 (some V.mb) → ∃ n' D', n' + sumC V (ps.drop (j + 1)) ≤ n + sumC V ps ∧ St V w4 n' D' ∧ W.grownBy w4 (some V.mb) := by
    intro W1 hb n2 D2 w4 hn2 hS2 hg2
    refine ⟨n2, D2, ?_, hS2, (HG1.out.trans (grown_of_below hb _)).trans hg2⟩
    have h1 := HN1.out
    rw [HD.out] at h1
    simp only [sumC, List.map_cons, List.foldr_cons] at h1 ⊢
    omega
   have hB1 : ∀ W1, Below wr.heap.size wr W1 → ∀ n2 D2 w4, n2 ≤ n1 + V.C b → St V w4 n2 D2 → W1.grownBy w4 (some V.mb) → ∃ n' D', n' ≤ n + sumC V ps ∧ St V w4 n' D' ∧ W.grownBy w4 (some V.mb) := by
    intro W1 hb n2 D2 w4 hn2 hS2 hg2
    obtain ⟨n', D', h1, h2⟩ := hB0 W1 hb n2 D2 w4 hn2 hS2 hg2
    exact ⟨n', D', Nat.le_trans (Nat.le_add_right _ _) h1, h2⟩
   have HB0 := Aside0.mk hB0
   have HB1 := Aside0.mk hB1
   clear hB0 hB1
   have hq := HQ.out
   rw [HD.out, List.all_cons] at hq
   by_cases t : V.T a b = true
   ·have HQ' : Aside0 ((ps.drop (j + 1)).all (fun p => V.T p.1 p.2) = ps.all (fun p => V.T p.1 p.2)) := ⟨by rw [← hq]; simp [t]⟩
    clear hq HQ
    go_wp2_with (go_at_call 35; (refine ((show AtC V a b from HA.out _ HM.out) _ n1 D1 ?s1 ?s2).mono ?_); (case s1 => refine HS1.out.step ?_; repeat (first | exact Below.refl _ _ | apply below_alloc | refine below_set ?_ (Nat.le_refl _))); (case s2 => have h1 := HN1.out; have h2 := HN.out; rw [HD.out] at h1; simp only [sumC, List.map_cons, List.foldr_cons] at h1 h2 ⊢; omega); rintro e w4 ⟨rfl, n2, D2, hn2, hS2, hg2⟩)
    cases gk with
    | zero => have := HJ'.out; have := HC.out; omega
    | succ k1 =>
     go_roundg k1
     case measure => omega
     case rel => exact ⟨_, j + 1, rfl, ⟨HW.out⟩, ⟨by have := HJ'.out; omega⟩, HQ', ⟨HB0.out _ (by repeat (first | exact Below.refl _ _ | apply below_alloc | refine below_set ?_ (Nat.le_refl _))) _ _ _ hn2 hS2 hg2⟩⟩
   ·replace t : V.T a b = false := by simpa using t
    have HQ' : Aside0 (ps.all (fun p => V.T p.1 p.2) = false) := ⟨by rw [← hq]; simp [t]⟩
    clear hq HQ
    go_wp2_with (go_at_call 35; (refine ((show AtC V a b from HA.out _ HM.out) _ n1 D1 ?s1 ?s2).mono ?_); (case s1 => refine HS1.out.step ?_; repeat (first | exact Below.refl _ _ | apply below_alloc | refine below_set ?_ (Nat.le_refl _))); (case s2 => have h1 := HN1.out; have h2 := HN.out; rw [HD.out] at h1; simp only [sumC, List.map_cons, List.foldr_cons] at h1 h2 ⊢; omega); rintro e w4 ⟨rfl, n2, D2, hn2, hS2, hg2⟩)
    go_ret
    exact ⟨by rw [HQ'.out]; rfl, HB1.out _ (by repeat (first | exact Below.refl _ _ | apply below_alloc | refine below_set ?_ (Nat.le_refl _))) _ _ _ hn2 hS2 hg2⟩
  ·have hj2' : decide (x < (ps.length : Int)) = false := decide_eq_false (by omega)
   have hd : ps.drop j = [] := List.drop_eq_nil_of_le (by omega)
   have hq := HQ.out
   rw [hd] at hq
   have HQ' : Aside0 (ps.all (fun p => V.T p.1 p.2) = true) := ⟨by rw [← hq]; rfl⟩
   obtain ⟨n1, D1, hn1, hS1, hg1⟩ := HB.out
   have HN1 : Aside0 (n1 ≤ n + sumC V ps) := ⟨Nat.le_trans (Nat.le_add_right _ _) hn1⟩
   have HS1 := Aside0.mk hS1
   have HG1 := Aside0.mk hg1
   clear hd hq HQ HB hn1 hS1 hg1 hx c
   go_wp2
   go_ret
   exact ⟨by rw [HQ'.out]; rfl, n1, D1, HN1.out, HS1.out, HG1.out⟩
end Go.Proofs.Ytbgoaigbkfibbaa.HandTwin

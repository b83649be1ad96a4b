/- Whether a tree's node may be: arena.right. Condition: the node is there. -/
import Derived.Test.YtlihkebmonfefaaDoorPGx0
import Derived.Test.YtlihkebmonfefaaDoorPGx2
set_option linter.unusedSimpArgs false
set_option linter.unusedVariables false
namespace Go.Proofs.YtlihkebmonfefaaDoor.HandRight
open Go.RowKit Go.Proofs.YtlihkebmonfefaaDoorW.PrintWords Go.Proofs.YtlihkebmonfefaaDoorW.PrintLast Go.Proofs.YtlihkebmonfefaaDoorW.PrintMore Go.Proofs.YtlihkebmonfefaaDoor.PG
theorem eqA41 (d : Nat) (w : World) (x0 y0 x1 y1 x2 y2 x3 y3 x4 y4 x5 y5 : Int) :
  (Op.equalIn (d + 2) 48 (.agg #[.int .i64 x0, .int .i64 x1, .int .i64 x2, .int .i64 x3, .int .i64 x4, .int .i64 x5]) (.agg #[.int .i64 y0, .int .i64 y1, .int .i64 y2, .int .i64 y3, .int .i64 y4, .int .i64 y5])).run Tryd.prog w = .ok (x0 == y0 && (x1 == y1 && (x2 == y2 && (x3 == y3 && (x4 == y4 && (x5 == y5)))))) w := by
 refine eqA_of Tryd.underlying48 (by kernel_rfl) ?_
 refine eqf_cons (by rfl) (by go_simp; rfl) (by go_simp; rfl) (by go_simp) ?_
 refine eqf_cons (by rfl) (by go_simp; rfl) (by go_simp; rfl) (by go_simp) ?_
 refine eqf_cons (by rfl) (by go_simp; rfl) (by go_simp; rfl) (by go_simp) ?_
 refine eqf_cons (by rfl) (by go_simp; rfl) (by go_simp; rfl) (by go_simp) ?_
 refine eqf_cons (by rfl) (by go_simp; rfl) (by go_simp; rfl) (by go_simp) ?_
 exact eqf_last (by rfl) (by go_simp; rfl) (by go_simp; rfl) (by go_simp)
attribute [local go_sem high] eqA41
theorem ahead_calls (x i : Int) (g : Nat) (w : World) (hc : w.cell? ⟨g, 0, none⟩ = some (.int .i64 i)) :
  Calls Tryd.prog 35 #[.int .i64 x, .pointer (some ⟨g, 0, none⟩)] w fun e w' => e = .returned (.bool (decide (0 ≤ x ∧ x < i))) ∧ w' = w := by
 by_cases h0 : x ≥ 0
 ·have c0 : decide (x ≥ 0) = true := decide_eq_true h0
  have c1 : decide (0 ≤ x) = true := decide_eq_true h0
  have e : decide (0 ≤ x ∧ x < i) = decide (x < i) := by apply decide_eq_decide.mpr; omega
  rw [e]
  clear e h0
  go_enter Tryd.func35, Tryd.ntmps35
  go_wp2
  go_ret
  exact ⟨rfl, rfl⟩
 ·have c0 : decide (x ≥ 0) = false := decide_eq_false h0
  have c1 : decide (0 ≤ x) = false := decide_eq_false h0
  have e : decide (0 ≤ x ∧ x < i) = false := by apply decide_eq_false; omega
  rw [e]
  clear e h0
  go_enter Tryd.func35, Tryd.ntmps35
  go_wp2
  go_ret
  exact ⟨rfl, rfl⟩
def rightN (n : S48) (i m : Int) : Bool :=
 if n.f0 = 1 then (n.f1 == 0 && (n.f2 == 0 && (n.f3 == 0 && (n.f4 == 0 && (n.f5 == 0)))))
 else if n.f0 = 2 then (n.f1 == 0 && (n.f2 == 0 && (n.f3 == 0 && (n.f4 == 0)))) && (decide (n.f5 ≥ 0) && decide (n.f5 < m))
 else if n.f0 = 3 ∨ n.f0 = 4 then (n.f3 == 0 && (n.f4 == 0 && (n.f5 == 0))) && (decide (0 ≤ n.f1 ∧ n.f1 < i) && decide (0 ≤ n.f2 ∧ n.f2 < i))
 else if n.f0 = 5 then (n.f2 == 0 && (n.f5 == 0)) && (decide (0 ≤ n.f1 ∧ n.f1 < i) && (arena_times.f n.f3 n.f4).getD false)
 else false
theorem cell_al2 {W : World} {p : Addr} {u : Value} (h : W.cell? p = some u) (o1 o2 : Obj) : ((W.alloc o1).alloc o2).cell? p = some u := by
 have h1 : (W.alloc o1).cell? p = some u := ((below_alloc (Below.refl _ W) o1).cell (World.block_lt_of_cell? W _ h)).trans h
 exact ((below_alloc (Below.refl _ (W.alloc o1)) o2).cell (World.block_lt_of_cell? _ _ h1)).trans h1
theorem cell_mid (w : World) (o1 : Obj) (v : Value) (o3 : Obj) : (((w.alloc o1).alloc (.cells #[v] 3)).alloc o3).cell? ⟨w.heap.size + 1, 0, none⟩ = some v := by
 have h : ((w.alloc o1).alloc (.cells #[v] 3)).heap[w.heap.size + 1]? = some (.cells #[v] 3 (0, 0)) := by
  have := heap_alloc_new (w.alloc o1) (.cells #[v] 3)
  simpa using this
 exact (blk_cell (blk_alloc h o3) 0).trans rfl
set_option maxRecDepth 100000 in
set_option maxHeartbeats 1000000 in
theorem right_one (A0 : Option Addr) (c0 : Nat) (l0 : List S48) (A1 : Option Addr) (c1 : Nat) (l1 : List (List S60)) (root i : Int) (w : World) (hr0 : Kd.C k48 w A0 l0.length l0) (h0 : 0 ≤ i) (h1 : i < (l0.length : Int))
  (f0 f1 f2 f3 f4 f5 : Int) (hn : rd_T48 l0 i = ⟨f0, f1, f2, f3, f4, f5⟩) (hf : f0 = 1) :
  Calls Tryd.prog 25 #[.agg #[.slice A0 l0.length c0, .slice A1 l1.length c1, .int .i64 root], .int .i64 i] w fun e w' => e = .returned (.bool (f1 == 0 && (f2 == 0 && (f3 == 0 && (f4 == 0 && (f5 == 0)))))) ∧ Below w.heap.size w w' := by
 obtain ⟨ad, hA, x0, x1, x2, x3, x4, x5⟩ := at_T48 hr0 i h0 h1
 subst hA
 rw [hn] at x0 x1 x2 x3 x4 x5
 have y0 := fun o1 o2 => cell_al2 x0 o1 o2
 have y1 := fun o1 o2 => cell_al2 x1 o1 o2
 have y2 := fun o1 o2 => cell_al2 x2 o1 o2
 have y3 := fun o1 o2 => cell_al2 x3 o1 o2
 have y4 := fun o1 o2 => cell_al2 x4 o1 o2
 have y5 := fun o1 o2 => cell_al2 x5 o1 o2
 have p0 : (0 ≤ i) = True := eq_true h0
 have p1 : (i < (l0.length : Int)) = True := eq_true h1
 have p2 : decide (0 ≤ i) = true := decide_eq_true h0
 have p3 : decide (i < (l0.length : Int)) = true := decide_eq_true h1
 have HN := Aside0.mk hn
 clear hn x0 x1 x2 x3 x4 x5 hr0 h0 h1
 subst hf
 clear HN
 go_enter Tryd.func25, Tryd.ntmps25
 go_wp2_with (first | (go_at_call 35; (refine (ahead_calls _ i (w.heap.size + 1) _ (cell_mid w _ _ _)).mono ?_); rintro e w4 ⟨rfl, rfl⟩) | (go_at_call 36; (refine (arena_times.calls f3 f4 _ _ HT.out).mono ?_); rintro e w4 ⟨rfl, ⟨⟨nd, rfl⟩⟩⟩))
 go_ret
 exact ⟨by first | rfl | simp [*], by repeat (first | apply below_alloc | apply pw_below_drewN | exact Below.refl _ _)⟩
set_option maxRecDepth 100000 in
set_option maxHeartbeats 1000000 in
theorem right_two (A0 : Option Addr) (c0 : Nat) (l0 : List S48) (A1 : Option Addr) (c1 : Nat) (l1 : List (List S60)) (root i : Int) (w : World) (hr0 : Kd.C k48 w A0 l0.length l0) (h0 : 0 ≤ i) (h1 : i < (l0.length : Int))
  (f0 f1 f2 f3 f4 f5 : Int) (hn : rd_T48 l0 i = ⟨f0, f1, f2, f3, f4, f5⟩) (hf : f0 = 2) :
  Calls Tryd.prog 25 #[.agg #[.slice A0 l0.length c0, .slice A1 l1.length c1, .int .i64 root], .int .i64 i] w fun e w' => e = .returned (.bool ((f1 == 0 && (f2 == 0 && (f3 == 0 && (f4 == 0)))) && (decide (f5 ≥ 0) && decide (f5 < (l1.length : Int))))) ∧ Below w.heap.size w w' := by
 obtain ⟨ad, hA, x0, x1, x2, x3, x4, x5⟩ := at_T48 hr0 i h0 h1
 subst hA
 rw [hn] at x0 x1 x2 x3 x4 x5
 have y0 := fun o1 o2 => cell_al2 x0 o1 o2
 have y1 := fun o1 o2 => cell_al2 x1 o1 o2
 have y2 := fun o1 o2 => cell_al2 x2 o1 o2
 have y3 := fun o1 o2 => cell_al2 x3 o1 o2
 have y4 := fun o1 o2 => cell_al2 x4 o1 o2
 have y5 := fun o1 o2 => cell_al2 x5 o1 o2
 have p0 : (0 ≤ i) = True := eq_true h0
 have p1 : (i < (l0.length : Int)) = True := eq_true h1
 have p2 : decide (0 ≤ i) = true := decide_eq_true h0
 have p3 : decide (i < (l0.length : Int)) = true := decide_eq_true h1
 have HN := Aside0.mk hn
 clear hn x0 x1 x2 x3 x4 x5 hr0 h0 h1
 subst hf
 by_cases ef1 : f1 = 0
 ·subst ef1
  by_cases ef2 : f2 = 0
  ·subst ef2
   by_cases ef3 : f3 = 0
   ·subst ef3
    by_cases ef4 : f4 = 0
    ·subst ef4
     by_cases u : f5 ≥ 0
     ·have uf0 : decide (f5 ≥ 0) = true := decide_eq_true u; have uf1 : decide (0 ≤ f5) = true := decide_eq_true u
      clear u
      by_cases v : f5 < (l1.length : Int)
      ·have vf0 : decide (f5 < (l1.length : Int)) = true := decide_eq_true v
       clear v
       clear HN
       go_enter Tryd.func25, Tryd.ntmps25
       go_wp2_with (first | (go_at_call 35; (refine (ahead_calls _ i (w.heap.size + 1) _ (cell_mid w _ _ _)).mono ?_); rintro e w4 ⟨rfl, rfl⟩) | (go_at_call 36; (refine (arena_times.calls f3 f4 _ _ HT.out).mono ?_); rintro e w4 ⟨rfl, ⟨⟨nd, rfl⟩⟩⟩))
       go_ret
       exact ⟨by first | rfl | simp [*], by repeat (first | apply below_alloc | apply pw_below_drewN | exact Below.refl _ _)⟩
      ·have vf0 : decide (f5 < (l1.length : Int)) = false := decide_eq_false v
       clear v
       clear HN
       go_enter Tryd.func25, Tryd.ntmps25
       go_wp2_with (first | (go_at_call 35; (refine (ahead_calls _ i (w.heap.size + 1) _ (cell_mid w _ _ _)).mono ?_); rintro e w4 ⟨rfl, rfl⟩) | (go_at_call 36; (refine (arena_times.calls f3 f4 _ _ HT.out).mono ?_); rintro e w4 ⟨rfl, ⟨⟨nd, rfl⟩⟩⟩))
       go_ret
       exact ⟨by first | rfl | simp [*], by repeat (first | apply below_alloc | apply pw_below_drewN | exact Below.refl _ _)⟩
     ·have uf0 : decide (f5 ≥ 0) = false := decide_eq_false u; have uf1 : decide (0 ≤ f5) = false := decide_eq_false u
      clear u
      clear HN
      go_enter Tryd.func25, Tryd.ntmps25
      go_wp2_with (first | (go_at_call 35; (refine (ahead_calls _ i (w.heap.size + 1) _ (cell_mid w _ _ _)).mono ?_); rintro e w4 ⟨rfl, rfl⟩) | (go_at_call 36; (refine (arena_times.calls f3 f4 _ _ HT.out).mono ?_); rintro e w4 ⟨rfl, ⟨⟨nd, rfl⟩⟩⟩))
      go_ret
      exact ⟨by first | rfl | simp [*], by repeat (first | apply below_alloc | apply pw_below_drewN | exact Below.refl _ _)⟩
    ·have qf4 : (f4 == 0) = false := beq_eq_false_iff_ne.mpr ef4
     clear ef4
     clear HN
     go_enter Tryd.func25, Tryd.ntmps25
     go_wp2_with (first | (go_at_call 35; (refine (ahead_calls _ i (w.heap.size + 1) _ (cell_mid w _ _ _)).mono ?_); rintro e w4 ⟨rfl, rfl⟩) | (go_at_call 36; (refine (arena_times.calls f3 f4 _ _ HT.out).mono ?_); rintro e w4 ⟨rfl, ⟨⟨nd, rfl⟩⟩⟩))
     go_ret
     exact ⟨by first | rfl | simp [*], by repeat (first | apply below_alloc | apply pw_below_drewN | exact Below.refl _ _)⟩
   ·have qf3 : (f3 == 0) = false := beq_eq_false_iff_ne.mpr ef3
    clear ef3
    clear HN
    go_enter Tryd.func25, Tryd.ntmps25
    go_wp2_with (first | (go_at_call 35; (refine (ahead_calls _ i (w.heap.size + 1) _ (cell_mid w _ _ _)).mono ?_); rintro e w4 ⟨rfl, rfl⟩) | (go_at_call 36; (refine (arena_times.calls f3 f4 _ _ HT.out).mono ?_); rintro e w4 ⟨rfl, ⟨⟨nd, rfl⟩⟩⟩))
    go_ret
    exact ⟨by first | rfl | simp [*], by repeat (first | apply below_alloc | apply pw_below_drewN | exact Below.refl _ _)⟩
  ·have qf2 : (f2 == 0) = false := beq_eq_false_iff_ne.mpr ef2
   clear ef2
   clear HN
   go_enter Tryd.func25, Tryd.ntmps25
   go_wp2_with (first | (go_at_call 35; (refine (ahead_calls _ i (w.heap.size + 1) _ (cell_mid w _ _ _)).mono ?_); rintro e w4 ⟨rfl, rfl⟩) | (go_at_call 36; (refine (arena_times.calls f3 f4 _ _ HT.out).mono ?_); rintro e w4 ⟨rfl, ⟨⟨nd, rfl⟩⟩⟩))
   go_ret
   exact ⟨by first | rfl | simp [*], by repeat (first | apply below_alloc | apply pw_below_drewN | exact Below.refl _ _)⟩
 ·have qf1 : (f1 == 0) = false := beq_eq_false_iff_ne.mpr ef1
  clear ef1
  clear HN
  go_enter Tryd.func25, Tryd.ntmps25
  go_wp2_with (first | (go_at_call 35; (refine (ahead_calls _ i (w.heap.size + 1) _ (cell_mid w _ _ _)).mono ?_); rintro e w4 ⟨rfl, rfl⟩) | (go_at_call 36; (refine (arena_times.calls f3 f4 _ _ HT.out).mono ?_); rintro e w4 ⟨rfl, ⟨⟨nd, rfl⟩⟩⟩))
  go_ret
  exact ⟨by first | rfl | simp [*], by repeat (first | apply below_alloc | apply pw_below_drewN | exact Below.refl _ _)⟩
set_option maxRecDepth 100000 in
set_option maxHeartbeats 1000000 in
theorem right_three (A0 : Option Addr) (c0 : Nat) (l0 : List S48) (A1 : Option Addr) (c1 : Nat) (l1 : List (List S60)) (root i : Int) (w : World) (hr0 : Kd.C k48 w A0 l0.length l0) (h0 : 0 ≤ i) (h1 : i < (l0.length : Int))
  (f0 f1 f2 f3 f4 f5 : Int) (hn : rd_T48 l0 i = ⟨f0, f1, f2, f3, f4, f5⟩) (hf : f0 = 3) :
  Calls Tryd.prog 25 #[.agg #[.slice A0 l0.length c0, .slice A1 l1.length c1, .int .i64 root], .int .i64 i] w fun e w' => e = .returned (.bool ((f3 == 0 && (f4 == 0 && (f5 == 0))) && (decide (0 ≤ f1 ∧ f1 < i) && decide (0 ≤ f2 ∧ f2 < i)))) ∧ Below w.heap.size w w' := by
 obtain ⟨ad, hA, x0, x1, x2, x3, x4, x5⟩ := at_T48 hr0 i h0 h1
 subst hA
 rw [hn] at x0 x1 x2 x3 x4 x5
 have y0 := fun o1 o2 => cell_al2 x0 o1 o2
 have y1 := fun o1 o2 => cell_al2 x1 o1 o2
 have y2 := fun o1 o2 => cell_al2 x2 o1 o2
 have y3 := fun o1 o2 => cell_al2 x3 o1 o2
 have y4 := fun o1 o2 => cell_al2 x4 o1 o2
 have y5 := fun o1 o2 => cell_al2 x5 o1 o2
 have p0 : (0 ≤ i) = True := eq_true h0
 have p1 : (i < (l0.length : Int)) = True := eq_true h1
 have p2 : decide (0 ≤ i) = true := decide_eq_true h0
 have p3 : decide (i < (l0.length : Int)) = true := decide_eq_true h1
 have HN := Aside0.mk hn
 clear hn x0 x1 x2 x3 x4 x5 hr0 h0 h1
 subst hf
 by_cases ef3 : f3 = 0
 ·subst ef3
  by_cases ef4 : f4 = 0
  ·subst ef4
   by_cases ef5 : f5 = 0
   ·subst ef5
    by_cases u : 0 ≤ f1 ∧ f1 < i
    ·have uf0 : decide (0 ≤ f1 ∧ f1 < i) = true := decide_eq_true u
     clear u
     by_cases v : 0 ≤ f2 ∧ f2 < i
     ·have vf0 : decide (0 ≤ f2 ∧ f2 < i) = true := decide_eq_true v
      clear v
      clear HN
      go_enter Tryd.func25, Tryd.ntmps25
      go_wp2_with (first | (go_at_call 35; (refine (ahead_calls _ i (w.heap.size + 1) _ (cell_mid w _ _ _)).mono ?_); rintro e w4 ⟨rfl, rfl⟩) | (go_at_call 36; (refine (arena_times.calls f3 f4 _ _ HT.out).mono ?_); rintro e w4 ⟨rfl, ⟨⟨nd, rfl⟩⟩⟩))
      go_ret
      exact ⟨by first | rfl | simp [*], by repeat (first | apply below_alloc | apply pw_below_drewN | exact Below.refl _ _)⟩
     ·have vf0 : decide (0 ≤ f2 ∧ f2 < i) = false := decide_eq_false v
      clear v
      clear HN
      go_enter Tryd.func25, Tryd.ntmps25
      go_wp2_with (first | (go_at_call 35; (refine (ahead_calls _ i (w.heap.size + 1) _ (cell_mid w _ _ _)).mono ?_); rintro e w4 ⟨rfl, rfl⟩) | (go_at_call 36; (refine (arena_times.calls f3 f4 _ _ HT.out).mono ?_); rintro e w4 ⟨rfl, ⟨⟨nd, rfl⟩⟩⟩))
      go_ret
      exact ⟨by first | rfl | simp [*], by repeat (first | apply below_alloc | apply pw_below_drewN | exact Below.refl _ _)⟩
    ·have uf0 : decide (0 ≤ f1 ∧ f1 < i) = false := decide_eq_false u
     clear u
     clear HN
     go_enter Tryd.func25, Tryd.ntmps25
     go_wp2_with (first | (go_at_call 35; (refine (ahead_calls _ i (w.heap.size + 1) _ (cell_mid w _ _ _)).mono ?_); rintro e w4 ⟨rfl, rfl⟩) | (go_at_call 36; (refine (arena_times.calls f3 f4 _ _ HT.out).mono ?_); rintro e w4 ⟨rfl, ⟨⟨nd, rfl⟩⟩⟩))
     go_ret
     exact ⟨by first | rfl | simp [*], by repeat (first | apply below_alloc | apply pw_below_drewN | exact Below.refl _ _)⟩
   ·have qf5 : (f5 == 0) = false := beq_eq_false_iff_ne.mpr ef5
    clear ef5
    clear HN
    go_enter Tryd.func25, Tryd.ntmps25
    go_wp2_with (first | (go_at_call 35; (refine (ahead_calls _ i (w.heap.size + 1) _ (cell_mid w _ _ _)).mono ?_); rintro e w4 ⟨rfl, rfl⟩) | (go_at_call 36; (refine (arena_times.calls f3 f4 _ _ HT.out).mono ?_); rintro e w4 ⟨rfl, ⟨⟨nd, rfl⟩⟩⟩))
    go_ret
    exact ⟨by first | rfl | simp [*], by repeat (first | apply below_alloc | apply pw_below_drewN | exact Below.refl _ _)⟩
  ·have qf4 : (f4 == 0) = false := beq_eq_false_iff_ne.mpr ef4
   clear ef4
   clear HN
   go_enter Tryd.func25, Tryd.ntmps25
   go_wp2_with (first | (go_at_call 35; (refine (ahead_calls _ i (w.heap.size + 1) _ (cell_mid w _ _ _)).mono ?_); rintro e w4 ⟨rfl, rfl⟩) | (go_at_call 36; (refine (arena_times.calls f3 f4 _ _ HT.out).mono ?_); rintro e w4 ⟨rfl, ⟨⟨nd, rfl⟩⟩⟩))
   go_ret
   exact ⟨by first | rfl | simp [*], by repeat (first | apply below_alloc | apply pw_below_drewN | exact Below.refl _ _)⟩
 ·have qf3 : (f3 == 0) = false := beq_eq_false_iff_ne.mpr ef3
  clear ef3
  clear HN
  go_enter Tryd.func25, Tryd.ntmps25
  go_wp2_with (first | (go_at_call 35; (refine (ahead_calls _ i (w.heap.size + 1) _ (cell_mid w _ _ _)).mono ?_); rintro e w4 ⟨rfl, rfl⟩) | (go_at_call 36; (refine (arena_times.calls f3 f4 _ _ HT.out).mono ?_); rintro e w4 ⟨rfl, ⟨⟨nd, rfl⟩⟩⟩))
  go_ret
  exact ⟨by first | rfl | simp [*], by repeat (first | apply below_alloc | apply pw_below_drewN | exact Below.refl _ _)⟩
set_option maxRecDepth 100000 in
set_option maxHeartbeats 1000000 in
theorem right_four (A0 : Option Addr) (c0 : Nat) (l0 : List S48) (A1 : Option Addr) (c1 : Nat) (l1 : List (List S60)) (root i : Int) (w : World) (hr0 : Kd.C k48 w A0 l0.length l0) (h0 : 0 ≤ i) (h1 : i < (l0.length : Int))
  (f0 f1 f2 f3 f4 f5 : Int) (hn : rd_T48 l0 i = ⟨f0, f1, f2, f3, f4, f5⟩) (hf : f0 = 4) :
  Calls Tryd.prog 25 #[.agg #[.slice A0 l0.length c0, .slice A1 l1.length c1, .int .i64 root], .int .i64 i] w fun e w' => e = .returned (.bool ((f3 == 0 && (f4 == 0 && (f5 == 0))) && (decide (0 ≤ f1 ∧ f1 < i) && decide (0 ≤ f2 ∧ f2 < i)))) ∧ Below w.heap.size w w' := by
 obtain ⟨ad, hA, x0, x1, x2, x3, x4, x5⟩ := at_T48 hr0 i h0 h1
 subst hA
 rw [hn] at x0 x1 x2 x3 x4 x5
 have y0 := fun o1 o2 => cell_al2 x0 o1 o2
 have y1 := fun o1 o2 => cell_al2 x1 o1 o2
 have y2 := fun o1 o2 => cell_al2 x2 o1 o2
 have y3 := fun o1 o2 => cell_al2 x3 o1 o2
 have y4 := fun o1 o2 => cell_al2 x4 o1 o2
 have y5 := fun o1 o2 => cell_al2 x5 o1 o2
 have p0 : (0 ≤ i) = True := eq_true h0
 have p1 : (i < (l0.length : Int)) = True := eq_true h1
 have p2 : decide (0 ≤ i) = true := decide_eq_true h0
 have p3 : decide (i < (l0.length : Int)) = true := decide_eq_true h1
 have HN := Aside0.mk hn
 clear hn x0 x1 x2 x3 x4 x5 hr0 h0 h1
 subst hf
 by_cases ef3 : f3 = 0
 ·subst ef3
  by_cases ef4 : f4 = 0
  ·subst ef4
   by_cases ef5 : f5 = 0
   ·subst ef5
    by_cases u : 0 ≤ f1 ∧ f1 < i
    ·have uf0 : decide (0 ≤ f1 ∧ f1 < i) = true := decide_eq_true u
     clear u
     by_cases v : 0 ≤ f2 ∧ f2 < i
     ·have vf0 : decide (0 ≤ f2 ∧ f2 < i) = true := decide_eq_true v
      clear v
      clear HN
      go_enter Tryd.func25, Tryd.ntmps25
      go_wp2_with (first | (go_at_call 35; (refine (ahead_calls _ i (w.heap.size + 1) _ (cell_mid w _ _ _)).mono ?_); rintro e w4 ⟨rfl, rfl⟩) | (go_at_call 36; (refine (arena_times.calls f3 f4 _ _ HT.out).mono ?_); rintro e w4 ⟨rfl, ⟨⟨nd, rfl⟩⟩⟩))
      go_ret
      exact ⟨by first | rfl | simp [*], by repeat (first | apply below_alloc | apply pw_below_drewN | exact Below.refl _ _)⟩
     ·have vf0 : decide (0 ≤ f2 ∧ f2 < i) = false := decide_eq_false v
      clear v
      clear HN
      go_enter Tryd.func25, Tryd.ntmps25
      go_wp2_with (first | (go_at_call 35; (refine (ahead_calls _ i (w.heap.size + 1) _ (cell_mid w _ _ _)).mono ?_); rintro e w4 ⟨rfl, rfl⟩) | (go_at_call 36; (refine (arena_times.calls f3 f4 _ _ HT.out).mono ?_); rintro e w4 ⟨rfl, ⟨⟨nd, rfl⟩⟩⟩))
      go_ret
      exact ⟨by first | rfl | simp [*], by repeat (first | apply below_alloc | apply pw_below_drewN | exact Below.refl _ _)⟩
    ·have uf0 : decide (0 ≤ f1 ∧ f1 < i) = false := decide_eq_false u
     clear u
     clear HN
     go_enter Tryd.func25, Tryd.ntmps25
     go_wp2_with (first | (go_at_call 35; (refine (ahead_calls _ i (w.heap.size + 1) _ (cell_mid w _ _ _)).mono ?_); rintro e w4 ⟨rfl, rfl⟩) | (go_at_call 36; (refine (arena_times.calls f3 f4 _ _ HT.out).mono ?_); rintro e w4 ⟨rfl, ⟨⟨nd, rfl⟩⟩⟩))
     go_ret
     exact ⟨by first | rfl | simp [*], by repeat (first | apply below_alloc | apply pw_below_drewN | exact Below.refl _ _)⟩
   ·have qf5 : (f5 == 0) = false := beq_eq_false_iff_ne.mpr ef5
    clear ef5
    clear HN
    go_enter Tryd.func25, Tryd.ntmps25
    go_wp2_with (first | (go_at_call 35; (refine (ahead_calls _ i (w.heap.size + 1) _ (cell_mid w _ _ _)).mono ?_); rintro e w4 ⟨rfl, rfl⟩) | (go_at_call 36; (refine (arena_times.calls f3 f4 _ _ HT.out).mono ?_); rintro e w4 ⟨rfl, ⟨⟨nd, rfl⟩⟩⟩))
    go_ret
    exact ⟨by first | rfl | simp [*], by repeat (first | apply below_alloc | apply pw_below_drewN | exact Below.refl _ _)⟩
  ·have qf4 : (f4 == 0) = false := beq_eq_false_iff_ne.mpr ef4
   clear ef4
   clear HN
   go_enter Tryd.func25, Tryd.ntmps25
   go_wp2_with (first | (go_at_call 35; (refine (ahead_calls _ i (w.heap.size + 1) _ (cell_mid w _ _ _)).mono ?_); rintro e w4 ⟨rfl, rfl⟩) | (go_at_call 36; (refine (arena_times.calls f3 f4 _ _ HT.out).mono ?_); rintro e w4 ⟨rfl, ⟨⟨nd, rfl⟩⟩⟩))
   go_ret
   exact ⟨by first | rfl | simp [*], by repeat (first | apply below_alloc | apply pw_below_drewN | exact Below.refl _ _)⟩
 ·have qf3 : (f3 == 0) = false := beq_eq_false_iff_ne.mpr ef3
  clear ef3
  clear HN
  go_enter Tryd.func25, Tryd.ntmps25
  go_wp2_with (first | (go_at_call 35; (refine (ahead_calls _ i (w.heap.size + 1) _ (cell_mid w _ _ _)).mono ?_); rintro e w4 ⟨rfl, rfl⟩) | (go_at_call 36; (refine (arena_times.calls f3 f4 _ _ HT.out).mono ?_); rintro e w4 ⟨rfl, ⟨⟨nd, rfl⟩⟩⟩))
  go_ret
  exact ⟨by first | rfl | simp [*], by repeat (first | apply below_alloc | apply pw_below_drewN | exact Below.refl _ _)⟩
set_option maxRecDepth 100000 in
set_option maxHeartbeats 1000000 in
theorem right_five (A0 : Option Addr) (c0 : Nat) (l0 : List S48) (A1 : Option Addr) (c1 : Nat) (l1 : List (List S60)) (root i : Int) (w : World) (hr0 : Kd.C k48 w A0 l0.length l0) (h0 : 0 ≤ i) (h1 : i < (l0.length : Int))
  (f0 f1 f2 f3 f4 f5 : Int) (hn : rd_T48 l0 i = ⟨f0, f1, f2, f3, f4, f5⟩) (hf : f0 = 5) (b : Bool) (ht : arena_times.f f3 f4 = some b) :
  Calls Tryd.prog 25 #[.agg #[.slice A0 l0.length c0, .slice A1 l1.length c1, .int .i64 root], .int .i64 i] w fun e w' => e = .returned (.bool ((f2 == 0 && (f5 == 0)) && (decide (0 ≤ f1 ∧ f1 < i) && b))) ∧ Below w.heap.size w w' := by
 obtain ⟨ad, hA, x0, x1, x2, x3, x4, x5⟩ := at_T48 hr0 i h0 h1
 subst hA
 rw [hn] at x0 x1 x2 x3 x4 x5
 have y0 := fun o1 o2 => cell_al2 x0 o1 o2
 have y1 := fun o1 o2 => cell_al2 x1 o1 o2
 have y2 := fun o1 o2 => cell_al2 x2 o1 o2
 have y3 := fun o1 o2 => cell_al2 x3 o1 o2
 have y4 := fun o1 o2 => cell_al2 x4 o1 o2
 have y5 := fun o1 o2 => cell_al2 x5 o1 o2
 have p0 : (0 ≤ i) = True := eq_true h0
 have p1 : (i < (l0.length : Int)) = True := eq_true h1
 have p2 : decide (0 ≤ i) = true := decide_eq_true h0
 have p3 : decide (i < (l0.length : Int)) = true := decide_eq_true h1
 have HN := Aside0.mk hn
 clear hn x0 x1 x2 x3 x4 x5 hr0 h0 h1
 subst hf
 have HT := Aside0.mk ht
 clear ht
 by_cases ef2 : f2 = 0
 ·subst ef2
  by_cases ef5 : f5 = 0
  ·subst ef5
   by_cases u : 0 ≤ f1 ∧ f1 < i
   ·have uf0 : decide (0 ≤ f1 ∧ f1 < i) = true := decide_eq_true u
    clear u
    clear HN
    go_enter Tryd.func25, Tryd.ntmps25
    go_wp2_with (first | (go_at_call 35; (refine (ahead_calls _ i (w.heap.size + 1) _ (cell_mid w _ _ _)).mono ?_); rintro e w4 ⟨rfl, rfl⟩) | (go_at_call 36; (refine (arena_times.calls f3 f4 _ _ HT.out).mono ?_); rintro e w4 ⟨rfl, ⟨⟨nd, rfl⟩⟩⟩))
    go_ret
    exact ⟨by first | rfl | simp [*], by repeat (first | apply below_alloc | apply pw_below_drewN | exact Below.refl _ _)⟩
   ·have uf0 : decide (0 ≤ f1 ∧ f1 < i) = false := decide_eq_false u
    clear u
    clear HN
    go_enter Tryd.func25, Tryd.ntmps25
    go_wp2_with (first | (go_at_call 35; (refine (ahead_calls _ i (w.heap.size + 1) _ (cell_mid w _ _ _)).mono ?_); rintro e w4 ⟨rfl, rfl⟩) | (go_at_call 36; (refine (arena_times.calls f3 f4 _ _ HT.out).mono ?_); rintro e w4 ⟨rfl, ⟨⟨nd, rfl⟩⟩⟩))
    go_ret
    exact ⟨by first | rfl | simp [*], by repeat (first | apply below_alloc | apply pw_below_drewN | exact Below.refl _ _)⟩
  ·have qf5 : (f5 == 0) = false := beq_eq_false_iff_ne.mpr ef5
   clear ef5
   clear HN
   go_enter Tryd.func25, Tryd.ntmps25
   go_wp2_with (first | (go_at_call 35; (refine (ahead_calls _ i (w.heap.size + 1) _ (cell_mid w _ _ _)).mono ?_); rintro e w4 ⟨rfl, rfl⟩) | (go_at_call 36; (refine (arena_times.calls f3 f4 _ _ HT.out).mono ?_); rintro e w4 ⟨rfl, ⟨⟨nd, rfl⟩⟩⟩))
   go_ret
   exact ⟨by first | rfl | simp [*], by repeat (first | apply below_alloc | apply pw_below_drewN | exact Below.refl _ _)⟩
 ·have qf2 : (f2 == 0) = false := beq_eq_false_iff_ne.mpr ef2
  clear ef2
  clear HN
  go_enter Tryd.func25, Tryd.ntmps25
  go_wp2_with (first | (go_at_call 35; (refine (ahead_calls _ i (w.heap.size + 1) _ (cell_mid w _ _ _)).mono ?_); rintro e w4 ⟨rfl, rfl⟩) | (go_at_call 36; (refine (arena_times.calls f3 f4 _ _ HT.out).mono ?_); rintro e w4 ⟨rfl, ⟨⟨nd, rfl⟩⟩⟩))
  go_ret
  exact ⟨by first | rfl | simp [*], by repeat (first | apply below_alloc | apply pw_below_drewN | exact Below.refl _ _)⟩
set_option maxRecDepth 100000 in
set_option maxHeartbeats 1000000 in
theorem right_no (A0 : Option Addr) (c0 : Nat) (l0 : List S48) (A1 : Option Addr) (c1 : Nat) (l1 : List (List S60)) (root i : Int) (w : World) (hr0 : Kd.C k48 w A0 l0.length l0) (h0 : 0 ≤ i) (h1 : i < (l0.length : Int))
  (f0 f1 f2 f3 f4 f5 : Int) (hn : rd_T48 l0 i = ⟨f0, f1, f2, f3, f4, f5⟩) (n1 : f0 ≠ 1) (n2 : f0 ≠ 2) (n3 : f0 ≠ 3) (n4 : f0 ≠ 4) (n5 : f0 ≠ 5) :
  Calls Tryd.prog 25 #[.agg #[.slice A0 l0.length c0, .slice A1 l1.length c1, .int .i64 root], .int .i64 i] w fun e w' => e = .returned (.bool false) ∧ Below w.heap.size w w' := by
 obtain ⟨ad, hA, x0, x1, x2, x3, x4, x5⟩ := at_T48 hr0 i h0 h1
 subst hA
 rw [hn] at x0 x1 x2 x3 x4 x5
 have y0 := fun o1 o2 => cell_al2 x0 o1 o2
 have y1 := fun o1 o2 => cell_al2 x1 o1 o2
 have y2 := fun o1 o2 => cell_al2 x2 o1 o2
 have y3 := fun o1 o2 => cell_al2 x3 o1 o2
 have y4 := fun o1 o2 => cell_al2 x4 o1 o2
 have y5 := fun o1 o2 => cell_al2 x5 o1 o2
 have p0 : (0 ≤ i) = True := eq_true h0
 have p1 : (i < (l0.length : Int)) = True := eq_true h1
 have p2 : decide (0 ≤ i) = true := decide_eq_true h0
 have p3 : decide (i < (l0.length : Int)) = true := decide_eq_true h1
 have HN := Aside0.mk hn
 clear hn x0 x1 x2 x3 x4 x5 hr0 h0 h1
 have q1 : (f0 == 1) = false := beq_eq_false_iff_ne.mpr n1
 have q2 : (f0 == 2) = false := beq_eq_false_iff_ne.mpr n2
 have q3 : (f0 == 3) = false := beq_eq_false_iff_ne.mpr n3
 have q4 : (f0 == 4) = false := beq_eq_false_iff_ne.mpr n4
 have q5 : (f0 == 5) = false := beq_eq_false_iff_ne.mpr n5
 clear n1 n2 n3 n4 n5
 clear HN
 go_enter Tryd.func25, Tryd.ntmps25
 go_wp2_with (first | (go_at_call 35; (refine (ahead_calls _ i (w.heap.size + 1) _ (cell_mid w _ _ _)).mono ?_); rintro e w4 ⟨rfl, rfl⟩) | (go_at_call 36; (refine (arena_times.calls f3 f4 _ _ HT.out).mono ?_); rintro e w4 ⟨rfl, ⟨⟨nd, rfl⟩⟩⟩))
 go_ret
 exact ⟨by first | rfl | simp [*], by repeat (first | apply below_alloc | apply pw_below_drewN | exact Below.refl _ _)⟩
theorem times_some (a b : Int) : ∃ r, arena_times.f a b = some r := by
 unfold arena_times.f
 repeat' split
 all_goals exact ⟨_, rfl⟩
def arena_right.f (l0 : List S48) (l1 : List (List S60)) (root i : Int) : Option Bool := if 0 ≤ i ∧ i < (l0.length : Int) then some (rightN (rd_T48 l0 i) i (l1.length : Int)) else none
theorem arena_right.calls (A0_0 : Option Addr) (c0_0 : Nat) (l0_0 : List (S48)) (A0_1 : Option Addr) (c0_1 : Nat) (l0_1 : List (List (S60))) (a0_2 : Int) (a1 : Int) (r : Bool) (w : World) (hr0_0 : Kd.C k48 w A0_0 l0_0.length l0_0) (hc0_0 : l0_0.length ≤ c0_0) (hr0_1 : Kd.C (Kd.slice 60 k60) w A0_1 l0_1.length l0_1) (hc0_1 : l0_1.length ≤ c0_1) (h : arena_right.f l0_0 l0_1 a0_2 a1 = some r) :
  Calls Tryd.prog 25 #[.agg #[.slice A0_0 l0_0.length c0_0, .slice A0_1 l0_1.length c0_1, .int .i64 a0_2], .int .i64 a1] w fun e w' => e = .returned (.bool r) ∧ Below w.heap.size w w' := by
 unfold arena_right.f at h
 split at h
 ·rename_i hc
  obtain rfl := Option.some.inj h
  clear h
  rcases hn : rd_T48 l0_0 a1 with ⟨f0, f1, f2, f3, f4, f5⟩
  unfold rightN
  simp only
  by_cases h1 : f0 = 1
  ·rw [if_pos h1]
   exact right_one A0_0 c0_0 l0_0 A0_1 c0_1 l0_1 a0_2 a1 w hr0_0 hc.1 hc.2 f0 f1 f2 f3 f4 f5 hn h1
  ·rw [if_neg h1]
   by_cases h2 : f0 = 2
   ·rw [if_pos h2]
    exact right_two A0_0 c0_0 l0_0 A0_1 c0_1 l0_1 a0_2 a1 w hr0_0 hc.1 hc.2 f0 f1 f2 f3 f4 f5 hn h2
   ·rw [if_neg h2]
    by_cases h3 : f0 = 3
    ·rw [if_pos (.inl h3)]
     exact right_three A0_0 c0_0 l0_0 A0_1 c0_1 l0_1 a0_2 a1 w hr0_0 hc.1 hc.2 f0 f1 f2 f3 f4 f5 hn h3
    ·by_cases h4 : f0 = 4
     ·rw [if_pos (.inr h4)]
      exact right_four A0_0 c0_0 l0_0 A0_1 c0_1 l0_1 a0_2 a1 w hr0_0 hc.1 hc.2 f0 f1 f2 f3 f4 f5 hn h4
     ·rw [if_neg (by omega)]
      by_cases h5 : f0 = 5
      ·rw [if_pos h5]
       obtain ⟨b, hb⟩ := times_some f3 f4
       rw [hb]
       exact right_five A0_0 c0_0 l0_0 A0_1 c0_1 l0_1 a0_2 a1 w hr0_0 hc.1 hc.2 f0 f1 f2 f3 f4 f5 hn h5 b hb
      ·rw [if_neg h5]
       exact right_no A0_0 c0_0 l0_0 A0_1 c0_1 l0_1 a0_2 a1 w hr0_0 hc.1 hc.2 f0 f1 f2 f3 f4 f5 hn h1 h2 h3 h4 h5
 ·cases h
end Go.Proofs.YtlihkebmonfefaaDoor.HandRight

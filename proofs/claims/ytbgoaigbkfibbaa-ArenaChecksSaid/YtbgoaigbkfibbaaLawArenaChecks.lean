-- WRITTEN BY A PROGRAM OF THIS SESSION (patchprint.py over the kit's print)
import Derived.Test.YtbgoaigbkfibbaaRows
import Derived.Test.YtbgoaigbkfibbaaPAx17
import Derived.Test.YtbgoaigbkfibbaaPureArenaChecks
import Derived.Test.YtbgoaigbkfibbaaHandLk
import Derived.WalkKit
import Derived.ProofKit
import Derived.OpenShut
import Derived.ShutString
import Derived.ChangeOld
import Derived.Below
import Derived.Carry
import Derived.SizedLaws
namespace Go.Proofs.Ytbgoaigbkfibbaa.arenaChecks
open Go.ChangeShapes Go.WideShapes Go.ChangeAt Go.RowKit
open Go.ChangeMaps (open_string shut_string)
open Go.Proofs.Ytbgoaigbkfibbaa.PA Go.Proofs.YtbgoaigbkfibbaaW.PrintWords
set_option linter.unusedVariables false
theorem own : ownKnob Try.prog.godebug = none := by kernel_rfl
theorem laidOut : laidOutB Try.prog = true := by kernel_rfl
theorem reads0 : Lk.Reads Try.prog 25 k25 (fun x => (((∀ y10 ∈ x.f0, ((Lit.int .i64 y10.f0).wf = true ∧ ((Lit.int .i64 y10.f1).wf = true ∧ ((Lit.int .i64 y10.f2).wf = true ∧ ((Lit.int .i64 y10.f3).wf = true ∧ ((Lit.int .i64 y10.f4).wf = true ∧ (Lit.int .i64 y10.f5).wf = true)))))) ∧ x.f0.length * 48 ≤ 140737488351232 ∧ x.f0.length ≤ maxLen) ∧ (((∀ y15 ∈ x.f1, ((∀ y10 ∈ y15, ((Lit.int .i64 y10.f0).wf = true ∧ (Lit.int .i64 y10.f1).wf = true)) ∧ y15.length * 16 ≤ 140737488351232 ∧ y15.length ≤ maxLen)) ∧ x.f1.length * 24 ≤ 140737488351232 ∧ x.f1.length ≤ maxLen) ∧ (Lit.int .i64 x.f2).wf = true))) :=
  Lk.reads_imp (Lk.reads_iso (fun x : S25 => (x.f0, x.f1, x.f2)) (fun y => ⟨y.1, y.2.1, y.2.2⟩) (fun _ => rfl) (Lk.reads_struct [22, 23, 3] Try.underlying25 rfl (by kernel_rfl) (by kernel_rfl) (Lk.readsFs_cons (Lk.reads_slice Try.underlying22 (by kernel_rfl) (Lk.reads_iso (fun x : S41 => (x.f0, x.f1, x.f2, x.f3, x.f4, x.f5)) (fun y => ⟨y.1, y.2.1, y.2.2.1, y.2.2.2.1, y.2.2.2.2.1, y.2.2.2.2.2⟩) (fun _ => rfl) (Lk.reads_struct [3, 3, 3, 3, 3, 3] Try.underlying41 rfl (by kernel_rfl) (by kernel_rfl) (Lk.readsFs_cons (Lk.reads_int Try.underlying3) (Lk.readsFs_cons (Lk.reads_int Try.underlying3) (Lk.readsFs_cons (Lk.reads_int Try.underlying3) (Lk.readsFs_cons (Lk.reads_int Try.underlying3) (Lk.readsFs_cons (Lk.reads_int Try.underlying3) (Lk.readsFs_one (Lk.reads_int Try.underlying3)))))))))) (Lk.readsFs_cons (Lk.reads_slice Try.underlying23 (by kernel_rfl) (Lk.reads_slice Try.underlying37 (by kernel_rfl) (Lk.reads_iso (fun x : S55 => (x.f0, x.f1)) (fun y => ⟨y.1, y.2⟩) (fun _ => rfl) (Lk.reads_struct [3, 3] Try.underlying55 rfl (by kernel_rfl) (by kernel_rfl) (Lk.readsFs_cons (Lk.reads_int Try.underlying3) (Lk.readsFs_one (Lk.reads_int Try.underlying3))))))) (Lk.readsFs_one (Lk.reads_int Try.underlying3)))))) (fun a h => h)
theorem reads1 : Lk.Reads Try.prog 25 k25 (fun x => (((∀ y10 ∈ x.f0, ((Lit.int .i64 y10.f0).wf = true ∧ ((Lit.int .i64 y10.f1).wf = true ∧ ((Lit.int .i64 y10.f2).wf = true ∧ ((Lit.int .i64 y10.f3).wf = true ∧ ((Lit.int .i64 y10.f4).wf = true ∧ (Lit.int .i64 y10.f5).wf = true)))))) ∧ x.f0.length * 48 ≤ 140737488351232 ∧ x.f0.length ≤ maxLen) ∧ (((∀ y15 ∈ x.f1, ((∀ y10 ∈ y15, ((Lit.int .i64 y10.f0).wf = true ∧ (Lit.int .i64 y10.f1).wf = true)) ∧ y15.length * 16 ≤ 140737488351232 ∧ y15.length ≤ maxLen)) ∧ x.f1.length * 24 ≤ 140737488351232 ∧ x.f1.length ≤ maxLen) ∧ (Lit.int .i64 x.f2).wf = true))) :=
  Lk.reads_imp (Lk.reads_iso (fun x : S25 => (x.f0, x.f1, x.f2)) (fun y => ⟨y.1, y.2.1, y.2.2⟩) (fun _ => rfl) (Lk.reads_struct [22, 23, 3] Try.underlying25 rfl (by kernel_rfl) (by kernel_rfl) (Lk.readsFs_cons (Lk.reads_slice Try.underlying22 (by kernel_rfl) (Lk.reads_iso (fun x : S41 => (x.f0, x.f1, x.f2, x.f3, x.f4, x.f5)) (fun y => ⟨y.1, y.2.1, y.2.2.1, y.2.2.2.1, y.2.2.2.2.1, y.2.2.2.2.2⟩) (fun _ => rfl) (Lk.reads_struct [3, 3, 3, 3, 3, 3] Try.underlying41 rfl (by kernel_rfl) (by kernel_rfl) (Lk.readsFs_cons (Lk.reads_int Try.underlying3) (Lk.readsFs_cons (Lk.reads_int Try.underlying3) (Lk.readsFs_cons (Lk.reads_int Try.underlying3) (Lk.readsFs_cons (Lk.reads_int Try.underlying3) (Lk.readsFs_cons (Lk.reads_int Try.underlying3) (Lk.readsFs_one (Lk.reads_int Try.underlying3)))))))))) (Lk.readsFs_cons (Lk.reads_slice Try.underlying23 (by kernel_rfl) (Lk.reads_slice Try.underlying37 (by kernel_rfl) (Lk.reads_iso (fun x : S55 => (x.f0, x.f1)) (fun y => ⟨y.1, y.2⟩) (fun _ => rfl) (Lk.reads_struct [3, 3] Try.underlying55 rfl (by kernel_rfl) (by kernel_rfl) (Lk.readsFs_cons (Lk.reads_int Try.underlying3) (Lk.readsFs_one (Lk.reads_int Try.underlying3))))))) (Lk.readsFs_one (Lk.reads_int Try.underlying3)))))) (fun a h => h)
set_option maxRecDepth 100000 in
theorem lifted (os : Os) (started : os.Started) (H : Type) (enc : TypeId × Value → H) :
    ReturnsInHanded {} Try.checked os 3 .any (Rows.arenaChecksSpec.pre6 enc Try.prog Try.f3 Rows.arenaChecksRow.domain false) (Rows.arenaChecksSpec.post enc Try.prog Try.f3 false true false false) := by
  refine returnsInHanded_of_change_sized (C := Try.checked) own started (by kernel_rfl) Try.func3
    (ChangeSpec.witness6 (enc := enc) (C := Try.checked) false ⟨#[], #[.agg #[.slice none 0 0, .slice none 0 0, .int .i64 0], .agg #[.slice none 0 0, .slice none 0 0, .int .i64 0]], []⟩ 8 (by kernel_rfl) (by kernel_rfl) (by kernel_rfl) (by kernel_rfl)) ?_
  intro W base args ds gs before hval0 hW hcnd hsz0 _
  have hsz : (DataW.weightsEach Try.prog (Try.f3.params.toList ++ Rows.arenaChecksSpec.plain.varTypes Try.prog) (ds ++ gs)).all (· ≤ reachBytes) = true := hsz0
  have hval : ∀ (j : Nat) t v, Try.f3.params[j]? = some t → args[j]? = some v → Value.okWide Try.prog W .any base t v := hval0
  have hW' := hW
  obtain ⟨p, q, hA0, hV, rfl, hfz, hnd⟩ := hW
  have hA : DataW.TrodAll enc Try.prog W 0 (fun _ => true) true Try.f3.params.toList args.toList ds p := hA0
  rw [Try.params3] at hA hval hsz
  obtain ⟨v0, vs0, d0, ds0, p0, q0, hargs, rfl, rfl, h0, r0⟩ := trodAll_cons hA
  obtain ⟨v1, vs1, d1, ds1, p1, q1, rfl, rfl, rfl, h1, r1⟩ := trodAll_cons r0
  obtain ⟨rfl, rfl, rfl⟩ := trodAll_nil r1
  obtain rfl : args = #[v0, v1] := by cases args; simp_all
  obtain ⟨rfl, rfl⟩ := trodVars_none hV
  have hsw : (d0.weights Try.prog 25).all (· ≤ reachBytes) = true ∧ (d1.weights Try.prog 25).all (· ≤ reachBytes) = true := by
    simp only [List.cons_append, List.nil_append, DataW.weightsEach, List.all_append, Bool.and_eq_true] at hsz
    exact ⟨hsz.1, hsz.2.1⟩
  obtain ⟨hz0, hz1⟩ := hsw
  have k0 := h0
  have lt0 : ∀ x ∈ p0, x.block < W.heap.size := by obtain ⟨m, hm⟩ := k0; exact DataW.trod_lt m _ _ _ hm
  obtain ⟨cs0, y0, rfl, hK0, w0⟩ := Lk.open_agg (by rw [Try.underlying25]) reads0 (hval 0 25 v0 rfl rfl) h0 hz0
  obtain ⟨_, _, rfl, ⟨A0_0, c0_0, rfl, hL0_0, hC0_0⟩, ⟨_, _, rfl, ⟨A0_1, c0_1, rfl, hL0_1, hC0_1⟩, rfl⟩⟩ := hK0
  have k1 := h1
  have lt1 : ∀ x ∈ p1, x.block < W.heap.size := by obtain ⟨m, hm⟩ := k1; exact DataW.trod_lt m _ _ _ hm
  obtain ⟨cs1, y1, rfl, hK1, w1⟩ := Lk.open_agg (by rw [Try.underlying25]) reads1 (hval 1 25 v1 rfl rfl) h1 hz1
  obtain ⟨_, _, rfl, ⟨A1_0, c1_0, rfl, hL1_0, hC1_0⟩, ⟨_, _, rfl, ⟨A1_1, c1_1, rfl, hL1_1, hC1_1⟩, rfl⟩⟩ := hK1
  clear hA0 hval0 hsz0 hsz
  obtain ⟨k_, hk_⟩ := Pure.ArenaChecks y0 y1 w0 w1
  refine (PA.spoollaw10_ArenaChecks.calls (k := k_) (r := true) (w := W) (hr0_0 := hC0_0) (hc0_0 := hL0_0) (hr0_1 := hC0_1) (hc0_1 := hL0_1) (hr1_0 := hC1_0) (hc1_0 := hL1_0) (hr1_1 := hC1_1) (hc1_1 := hL1_1) (h := hk_)).mono fun e W' ⟨he, bel0⟩ => ?_
  have bel : Below W.heap.size W W' := bel0
  subst he
  exact ⟨_, rfl, _, _, _, [], _, [], hW', trodAll_mk1 (shut_bool Try.underlying4 _), (trodAll_cons_mk (Below.trod laidOut (by kernel_rfl) (of_decide_eq_true (by kernel_rfl)) k0 bel lt0) (trodAll_cons_mk (Below.trod laidOut (by kernel_rfl) (of_decide_eq_true (by kernel_rfl)) k1 bel lt1) trodAll_mk0)), rfl, bel.frame _, fun h => by cases h⟩
theorem over : Rows.arenaChecksRow.holds Try.pinned (OpenSpec.ofChange Rows.arenaChecksSpec) :=
  OpenClaim.holds_of_wide 3 Try.f3 rfl rfl rfl rfl rfl rfl rfl ⟨rfl, rfl, rfl, rfl, rfl⟩ rfl rfl rfl rfl rfl (by kernel_rfl) Try.func3 (by kernel_rfl)
    (of_decide_eq_true (by kernel_rfl)) (by unfold Func.isWrapper; first | (rw [if_pos (by decide +kernel)]; kernel_rfl) | (rw [if_neg (by decide +kernel)]; exact ⟨rfl, rfl⟩))
    (fun os started H enc _ => lifted os started H enc)
theorem proved : Rows.ArenaChecksSaid := over
#print axioms proved
end Go.Proofs.Ytbgoaigbkfibbaa.arenaChecks
namespace Go.Proofs.Ytbgoaigbkfibbaa
/-- The row, under a short name, for the claim. -/
theorem arenaChecks_holds : Rows.ArenaChecksSaid := arenaChecks.proved
end Go.Proofs.Ytbgoaigbkfibbaa

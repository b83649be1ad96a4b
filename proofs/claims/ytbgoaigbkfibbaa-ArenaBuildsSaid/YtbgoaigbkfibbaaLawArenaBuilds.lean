-- WRITTEN BY A PROGRAM OF THIS SESSION (patchprint.py over the kit's print)
import Derived.Test.YtbgoaigbkfibbaaRows
import Derived.Test.YtbgoaigbkfibbaaPAx19
import Derived.Test.YtbgoaigbkfibbaaPureArenaBuilds
import Derived.Test.YtbgoaigbkfibbaaHandLk
import Derived.WalkKit
import Derived.ProofKit
import Derived.OpenShut
import Derived.ShutString
import Derived.ChangeOld
import Derived.Below
import Derived.Carry
import Derived.SizedLaws
namespace Go.Proofs.Ytbgoaigbkfibbaa.arenaBuilds
open Go.ChangeShapes Go.WideShapes Go.ChangeAt Go.RowKit
open Go.ChangeMaps (open_string shut_string)
open Go.Proofs.Ytbgoaigbkfibbaa.PA Go.Proofs.YtbgoaigbkfibbaaW.PrintWords
set_option linter.unusedVariables false
theorem own : ownKnob Try.prog.godebug = none := by kernel_rfl
theorem laidOut : laidOutB Try.prog = true := by kernel_rfl
theorem reads0 : Lk.Reads Try.prog 34 (Kd.slice 39 k39) (fun x => ((∀ y10_0 ∈ x, ((Lit.int .i64 y10_0.f0).wf = true ∧ ((Lit.int .i64 y10_0.f1).wf = true ∧ ((Lit.int .i64 y10_0.f2).wf = true ∧ ((Lit.int .i64 y10_0.f3).wf = true ∧ (((∀ y10_1 ∈ y10_0.f4, ((Lit.int .i64 y10_1.f0).wf = true ∧ (Lit.int .i64 y10_1.f1).wf = true)) ∧ y10_0.f4.length * 16 ≤ 140737488351232 ∧ y10_0.f4.length ≤ maxLen) ∧ (((∀ y10_1 ∈ y10_0.f5.f0, ((Lit.int .i64 y10_1.f0).wf = true ∧ ((Lit.int .i64 y10_1.f1).wf = true ∧ ((Lit.int .i64 y10_1.f2).wf = true ∧ ((Lit.int .i64 y10_1.f3).wf = true ∧ ((Lit.int .i64 y10_1.f4).wf = true ∧ (Lit.int .i64 y10_1.f5).wf = true)))))) ∧ y10_0.f5.f0.length * 48 ≤ 140737488351232 ∧ y10_0.f5.f0.length ≤ maxLen) ∧ (((∀ y15_1 ∈ y10_0.f5.f1, ((∀ y10_2 ∈ y15_1, ((Lit.int .i64 y10_2.f0).wf = true ∧ (Lit.int .i64 y10_2.f1).wf = true)) ∧ y15_1.length * 16 ≤ 140737488351232 ∧ y15_1.length ≤ maxLen)) ∧ y10_0.f5.f1.length * 24 ≤ 140737488351232 ∧ y10_0.f5.f1.length ≤ maxLen) ∧ (Lit.int .i64 y10_0.f5.f2).wf = true)))))))) ∧ x.length * 112 ≤ 140737488351232 ∧ x.length ≤ maxLen)) :=
  Lk.reads_imp (Lk.reads_slice Try.underlying34 (by kernel_rfl) (Lk.reads_iso (fun x : S39 => (x.f0, x.f1, x.f2, x.f3, x.f4, x.f5)) (fun y => ⟨y.1, y.2.1, y.2.2.1, y.2.2.2.1, y.2.2.2.2.1, y.2.2.2.2.2⟩) (fun _ => rfl) (Lk.reads_struct [3, 3, 3, 3, 37, 25] Try.underlying39 rfl (by kernel_rfl) (by kernel_rfl) (Lk.readsFs_cons (Lk.reads_int Try.underlying3) (Lk.readsFs_cons (Lk.reads_int Try.underlying3) (Lk.readsFs_cons (Lk.reads_int Try.underlying3) (Lk.readsFs_cons (Lk.reads_int Try.underlying3) (Lk.readsFs_cons (Lk.reads_slice Try.underlying37 (by kernel_rfl) (Lk.reads_iso (fun x : S55 => (x.f0, x.f1)) (fun y => ⟨y.1, y.2⟩) (fun _ => rfl) (Lk.reads_struct [3, 3] Try.underlying55 rfl (by kernel_rfl) (by kernel_rfl) (Lk.readsFs_cons (Lk.reads_int Try.underlying3) (Lk.readsFs_one (Lk.reads_int Try.underlying3)))))) (Lk.readsFs_one (Lk.reads_iso (fun x : S25 => (x.f0, x.f1, x.f2)) (fun y => ⟨y.1, y.2.1, y.2.2⟩) (fun _ => rfl) (Lk.reads_struct [22, 23, 3] Try.underlying25 rfl (by kernel_rfl) (by kernel_rfl) (Lk.readsFs_cons (Lk.reads_slice Try.underlying22 (by kernel_rfl) (Lk.reads_iso (fun x : S41 => (x.f0, x.f1, x.f2, x.f3, x.f4, x.f5)) (fun y => ⟨y.1, y.2.1, y.2.2.1, y.2.2.2.1, y.2.2.2.2.1, y.2.2.2.2.2⟩) (fun _ => rfl) (Lk.reads_struct [3, 3, 3, 3, 3, 3] Try.underlying41 rfl (by kernel_rfl) (by kernel_rfl) (Lk.readsFs_cons (Lk.reads_int Try.underlying3) (Lk.readsFs_cons (Lk.reads_int Try.underlying3) (Lk.readsFs_cons (Lk.reads_int Try.underlying3) (Lk.readsFs_cons (Lk.reads_int Try.underlying3) (Lk.readsFs_cons (Lk.reads_int Try.underlying3) (Lk.readsFs_one (Lk.reads_int Try.underlying3)))))))))) (Lk.readsFs_cons (Lk.reads_slice Try.underlying23 (by kernel_rfl) (Lk.reads_slice Try.underlying37 (by kernel_rfl) (Lk.reads_iso (fun x : S55 => (x.f0, x.f1)) (fun y => ⟨y.1, y.2⟩) (fun _ => rfl) (Lk.reads_struct [3, 3] Try.underlying55 rfl (by kernel_rfl) (by kernel_rfl) (Lk.readsFs_cons (Lk.reads_int Try.underlying3) (Lk.readsFs_one (Lk.reads_int Try.underlying3))))))) (Lk.readsFs_one (Lk.reads_int Try.underlying3))))))))))))))) (fun a h => h)
set_option maxRecDepth 100000 in
theorem lifted (os : Os) (started : os.Started) (H : Type) (enc : TypeId × Value → H) :
    ReturnsInHanded {} Try.checked os 4 .any (Rows.arenaBuildsSpec.pre6 enc Try.prog Try.f4 Rows.arenaBuildsRow.domain false) (Rows.arenaBuildsSpec.post enc Try.prog Try.f4 false true false false) := by
  refine returnsInHanded_of_change_sized (C := Try.checked) own started (by kernel_rfl) Try.func4
    (ChangeSpec.witness6 (enc := enc) (C := Try.checked) false ⟨#[], #[.slice none 0 0, .int .i64 0], []⟩ 8 (by kernel_rfl) (by kernel_rfl) (by kernel_rfl) (by kernel_rfl)) ?_
  intro W base args ds gs before hval0 hW hcnd hsz0 _
  have hsz : (DataW.weightsEach Try.prog (Try.f4.params.toList ++ Rows.arenaBuildsSpec.plain.varTypes Try.prog) (ds ++ gs)).all (· ≤ reachBytes) = true := hsz0
  have hval : ∀ (j : Nat) t v, Try.f4.params[j]? = some t → args[j]? = some v → Value.okWide Try.prog W .any base t v := hval0
  have hW' := hW
  obtain ⟨p, q, hA0, hV, rfl, hfz, hnd⟩ := hW
  have hA : DataW.TrodAll enc Try.prog W 0 (fun _ => true) true Try.f4.params.toList args.toList ds p := hA0
  rw [Try.params4] at hA hval hsz
  obtain ⟨v0, vs0, d0, ds0, p0, q0, hargs, rfl, rfl, h0, r0⟩ := trodAll_cons hA
  obtain ⟨v1, vs1, d1, ds1, p1, q1, rfl, rfl, rfl, h1, r1⟩ := trodAll_cons r0
  obtain ⟨rfl, rfl, rfl⟩ := trodAll_nil r1
  obtain rfl : args = #[v0, v1] := by cases args; simp_all
  obtain ⟨rfl, rfl⟩ := trodVars_none hV
  have hsw : (d0.weights Try.prog 34).all (· ≤ reachBytes) = true ∧ (d1.weights Try.prog 3).all (· ≤ reachBytes) = true := by
    simp only [List.cons_append, List.nil_append, DataW.weightsEach, List.all_append, Bool.and_eq_true] at hsz
    exact ⟨hsz.1, hsz.2.1⟩
  obtain ⟨hz0, hz1⟩ := hsw
  have k0 := h0
  have lt0 : ∀ x ∈ p0, x.block < W.heap.size := by obtain ⟨m, hm⟩ := k0; exact DataW.trod_lt m _ _ _ hm
  obtain ⟨A0, c0, l0, rfl, hL0, hC0, w0⟩ := Lk.open_slice Try.underlying34 reads0 (hval 0 34 v0 rfl rfl) h0 hz0
  obtain ⟨a1, rfl, rfl, rfl, w1⟩ := open_int Try.underlying3 (hval 1 3 v1 rfl rfl) h1
  clear hA0 hval0 hsz0 hsz
  obtain ⟨k_, hk_⟩ := Pure.ArenaBuilds l0 a1 w0 w1
  refine (PA.spoollaw10_ArenaBuilds.calls (k := k_) (r := true) (w := W) (hr0 := hC0) (hc0 := hL0) (h := hk_)).mono fun e W' ⟨he, bel0⟩ => ?_
  have bel : Below W.heap.size W W' := bel0
  subst he
  exact ⟨_, rfl, _, _, _, [], _, [], hW', trodAll_mk1 (shut_bool Try.underlying4 _), (trodAll_cons_mk (Below.trod laidOut (by kernel_rfl) (of_decide_eq_true (by kernel_rfl)) k0 bel lt0) (trodAll_cons_mk (shut_int Try.underlying3 w1) trodAll_mk0)), rfl, bel.frame _, fun h => by cases h⟩
theorem over : Rows.arenaBuildsRow.holds Try.pinned (OpenSpec.ofChange Rows.arenaBuildsSpec) :=
  OpenClaim.holds_of_wide 4 Try.f4 rfl rfl rfl rfl rfl rfl rfl ⟨rfl, rfl, rfl, rfl, rfl⟩ rfl rfl rfl rfl rfl (by kernel_rfl) Try.func4 (by kernel_rfl)
    (of_decide_eq_true (by kernel_rfl)) (by unfold Func.isWrapper; first | (rw [if_pos (by decide +kernel)]; kernel_rfl) | (rw [if_neg (by decide +kernel)]; exact ⟨rfl, rfl⟩))
    (fun os started H enc _ => lifted os started H enc)
theorem proved : Rows.ArenaBuildsSaid := over
#print axioms proved
end Go.Proofs.Ytbgoaigbkfibbaa.arenaBuilds
namespace Go.Proofs.Ytbgoaigbkfibbaa
/-- The row, under a short name, for the claim. -/
theorem arenaBuilds_holds : Rows.ArenaBuildsSaid := arenaBuilds.proved
end Go.Proofs.Ytbgoaigbkfibbaa

-- WRITTEN BY A PROGRAM OF THIS SESSION (patchprint.py over the kit's print)
import Derived.Test.YtedoopnjhpbjfaaDoorRows
import Derived.Test.YtedoopnjhpbjfaaDoorPBx13
import Derived.Test.YtedoopnjhpbjfaaDoorPureByteseqCounts
import Derived.Test.YtedoopnjhpbjfaaDoorHandLk
import Derived.WalkKit
import Derived.ProofKit
import Derived.OpenShut
import Derived.ShutString
import Derived.ChangeOld
import Derived.Below
import Derived.Carry
import Derived.SizedLaws
import Derived.Test.YtedoopnjhpbjfaaDoorTabs
import Derived.Test.YtedoopnjhpbjfaaDoorCards
import Derived.Test.YtedoopnjhpbjfaaDoorTie
import Derived.Handed
import Derived.Lay
import Derived.LaidOnce
import Derived.LaidLaws
import Derived.SevenTiedAt
namespace Go.Proofs.YtedoopnjhpbjfaaDoor.byteseqCounts
open Go.ChangeShapes Go.WideShapes Go.ChangeAt Go.RowKit
open Go.ChangeMaps (open_string shut_string)
open Go.Proofs.YtedoopnjhpbjfaaDoor.PB Go.Proofs.YtedoopnjhpbjfaaDoorW.PrintWords
set_option linter.unusedVariables false
theorem own : ownKnob Tryd.prog.godebug = none := by kernel_rfl
theorem laidOut : laidOutB Tryd.prog = true := by kernel_rfl
theorem reads0 : Lk.Reads Tryd.prog 22 (Kd.slice 35 k35) (fun x => ((∀ y10 ∈ x, ((Lit.int .i64 y10.f0).wf = true ∧ (Lit.int .i64 y10.f1).wf = true)) ∧ x.length * 16 ≤ 140737488351232 ∧ x.length ≤ maxLen)) :=
  Lk.reads_imp (Lk.reads_slice Tryd.underlying22 (by kernel_rfl) (Lk.reads_iso (fun x : S35 => (x.f0, x.f1)) (fun y => ⟨y.1, y.2⟩) (fun _ => rfl) (Lk.reads_struct [3, 3] Tryd.underlying35 rfl (by kernel_rfl) (by kernel_rfl) (Lk.readsFs_cons (Lk.reads_int Tryd.underlying3) (Lk.readsFs_one (Lk.reads_int Tryd.underlying3)))))) (fun a h => h)
def laid_ : List (String × DataW Unit) := [("spool/byteseq.limits", Rows.laid_spool_byteseq_limits), ("spool/byteseq.gap", Rows.laid_spool_byteseq_gap)]
set_option maxRecDepth 100000 in
theorem lifted (os : Os) (started : os.Started) (H : Type) (enc : TypeId × Value → H) :
    ReturnsInHanded {} Tryd.checked os 4 .any (fun w args => (Rows.byteseqCountsSpec.pre enc Tryd.prog Tryd.f4 Rows.byteseqCountsRow.domain false w args ∧ laidMetH Tryd.prog laid_ w) ∧ sizedMet enc Tryd.prog Tryd.f4 (OpenSpec.ofChange Rows.byteseqCountsSpec) false w args) (Rows.byteseqCountsSpec.post enc Tryd.prog Tryd.f4 false true false false) := by
  refine returnsInHanded_of_change_and (C := Tryd.checked) (X := fun w _ => laidMetH Tryd.prog laid_ w) (fun _ _ _ hh h => h.of_heap hh) own started (by kernel_rfl) Tryd.func4
    (ChangeSpec.witness_shaped (enc := enc) (C := Tryd.checked) (os := os) (X := fun w _ => laidMetH Tryd.prog laid_ w) false (World.laidAll Tryd.prog os laid_) #[.slice none 0 0] 8 (World.laidAll_os _ _ _)
      (World.shaped_of_ZipB (by kernel_rfl) (by kernel_rfl)) (by kernel_rfl) (by kernel_rfl) (by kernel_rfl)
      (by rw [MakeChecks.laidMetH_plain _ _ _ (by kernel_rfl)]; exact laidMet_laidAll _ (by kernel_rfl) (by kernel_rfl))) ?_
  intro W base args ds gs before hval0 hW hcnd hsz0 hL _
  rw [MakeChecks.laidMetH_plain _ _ _ (by kernel_rfl)] at hL
  have hrG0 := Tabs.tab_int (g := 0) (k := .i64) (P := Tryd.prog) (w := W) (name := "spool/byteseq.gap") (xs := PB.tab_byteseq_gap) (by kernel_rfl) (by kernel_rfl) (Tryd.underlying39) (by kernel_rfl) (by kernel_rfl) (N := PB.tab_byteseq_gap.length) rfl (by decide +kernel) (by kernel_rfl) (Lib.laidMet.reads hL (.tail _ (.head _)))
  have hrG1 := Tabs.tab_int (g := 1) (k := .i64) (P := Tryd.prog) (w := W) (name := "spool/byteseq.limits") (xs := PB.tab_byteseq_limits) (by kernel_rfl) (by kernel_rfl) (Tryd.underlying40) (by kernel_rfl) (by kernel_rfl) (N := PB.tab_byteseq_limits.length) rfl (by decide +kernel) (by kernel_rfl) (Lib.laidMet.reads hL (.head _))
  have hsz : (DataW.weightsEach Tryd.prog (Tryd.f4.params.toList ++ Rows.byteseqCountsSpec.plain.varTypes Tryd.prog) (ds ++ gs)).all (· ≤ reachBytes) = true := hsz0
  have hval : ∀ (j : Nat) t v, Tryd.f4.params[j]? = some t → args[j]? = some v → Value.okWide Tryd.prog W .any base t v := hval0
  have hW' := hW
  obtain ⟨p, q, hA0, hV, rfl, hfz, hnd⟩ := hW
  have hA : DataW.TrodAll enc Tryd.prog W 0 (fun _ => true) true Tryd.f4.params.toList args.toList ds p := hA0
  rw [Tryd.params4] at hA hval hsz
  obtain ⟨v0, vs0, d0, ds0, p0, q0, hargs, rfl, rfl, h0, r0⟩ := trodAll_cons hA
  obtain ⟨rfl, rfl, rfl⟩ := trodAll_nil r0
  obtain rfl : args = #[v0] := by cases args; simp_all
  obtain ⟨rfl, rfl⟩ := trodVars_none hV
  have hsw : (d0.weights Tryd.prog 22).all (· ≤ reachBytes) = true := by
    simp only [List.cons_append, List.nil_append, DataW.weightsEach, List.all_append, Bool.and_eq_true] at hsz
    exact hsz.1
  have hz0 := hsw
  have k0 := h0
  have lt0 : ∀ x ∈ p0, x.block < W.heap.size := by obtain ⟨m, hm⟩ := k0; exact DataW.trod_lt m _ _ _ hm
  obtain ⟨A0, c0, l0, rfl, hL0, hC0, w0⟩ := Lk.open_slice Tryd.underlying22 reads0 (hval 0 22 v0 rfl rfl) h0 hz0
  clear hA0 hval0 hsz0 hsz
  obtain ⟨k_, hk_⟩ := Pure.ByteseqCounts l0 w0
  refine (PB.spoollaw08_ByteseqCounts.calls (k := k_) (r := true) (w := W) (hr0 := hC0) (hc0 := hL0) (hrG0 := hrG0) (hrG1 := hrG1) (h := hk_)).mono fun e W' ⟨he, bel0⟩ => ?_
  have bel : Below W.heap.size W W' := bel0
  subst he
  exact ⟨_, rfl, _, _, _, [], _, [], hW', trodAll_mk1 (shut_bool Tryd.underlying4 _), (trodAll_cons_mk (Below.trod laidOut (by kernel_rfl) (of_decide_eq_true (by kernel_rfl)) k0 bel lt0) trodAll_mk0), rfl, bel.frame _, fun h => by cases h⟩
theorem over : Rows.byteseqCountsRow.holds Tryd.pinned (OpenSpec.ofChange Rows.byteseqCountsSpec) :=
  OpenClaim.holds_of_wide 4 Tryd.f4 rfl rfl rfl rfl rfl rfl rfl ⟨rfl, rfl, rfl, rfl, rfl⟩ rfl rfl rfl rfl rfl (by kernel_rfl) Tryd.func4 (by kernel_rfl)
    (of_decide_eq_true (by kernel_rfl)) (by unfold Func.isWrapper; first | (rw [if_pos (by decide +kernel)]; kernel_rfl) | (rw [if_neg (by decide +kernel)]; exact ⟨rfl, rfl⟩))
    (fun os started H enc _ => lifted os started H enc)
theorem proved : Rows.ByteseqCountsSaid := over
/-- The tied card. -/
theorem card_proved : Rows.ByteseqCountsCardSaid :=
  Claim7.holds_tied_plain_at .later [] [.data, .data] true (true, "aa8976e9e9e76b300c2d9832768f05878c52271c3079001cab8ce0884e4d49c1") true proved (fun _ h => by cases h) (by kernel_rfl) (fun _ h => by cases h) byteseqCounts_row_tie rfl ⟨rfl, rfl⟩ (by kernel_rfl) rfl
    (fun f fn hf hfn => by
      obtain rfl : f = 4 := Option.some.inj ((show Tryd.prog.funcNamed "spool/spoollaw08.ByteseqCounts" = some 4 by kernel_rfl).symm.trans hf) |>.symm
      obtain rfl : fn = Tryd.f4 := (Option.some.inj (Tryd.func4.symm.trans hfn)).symm
      exact ⟨by kernel_rfl, fun j t ht => by
        have hm : t ∈ Tryd.f4.params.toList := by simpa using Array.mem_of_getElem? ht
        have hall : (Tryd.f4.params.toList.all fun u => !Tryd.prog.wantsStandIn u) = true := by kernel_rfl
        exact (show Tryd.prog.wantsStandIn t = false by simpa using List.all_eq_true.1 hall t hm)⟩)
    (by kernel_rfl)
#print axioms card_proved
end Go.Proofs.YtedoopnjhpbjfaaDoor.byteseqCounts
namespace Go.Proofs.YtedoopnjhpbjfaaDoor
/-- The row, under a short name, for the claim. -/
theorem byteseqCounts_holds : Rows.ByteseqCountsCardSaid := byteseqCounts.card_proved
end Go.Proofs.YtedoopnjhpbjfaaDoor

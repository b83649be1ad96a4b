-- WRITTEN BY A PROGRAM OF THIS SESSION (patchprint.py over the kit's print)
import Derived.Test.YtlihkebmonfefaaDoorRows
import Derived.Test.YtlihkebmonfefaaDoorPGx21
import Derived.Test.YtlihkebmonfefaaDoorPureRegprintPrints
import Derived.Test.YtlihkebmonfefaaDoorHandLk
import Derived.WalkKit
import Derived.ProofKit
import Derived.OpenShut
import Derived.ShutString
import Derived.ChangeOld
import Derived.Below
import Derived.Carry
import Derived.SizedLaws
import Derived.Test.YtlihkebmonfefaaDoorTabs
import Derived.Test.YtlihkebmonfefaaDoorCards
import Derived.Test.YtlihkebmonfefaaDoorTie
import Derived.Handed
import Derived.Lay
import Derived.LaidOnce
import Derived.LaidLaws
import Derived.SevenTiedAt
namespace Go.Proofs.YtlihkebmonfefaaDoor.regprintPrints
open Go.ChangeShapes Go.WideShapes Go.ChangeAt Go.RowKit
open Go.ChangeMaps (open_string shut_string)
open Go.Proofs.YtlihkebmonfefaaDoor.PG Go.Proofs.YtlihkebmonfefaaDoorW.PrintWords
set_option linter.unusedVariables false
theorem own : ownKnob Tryd.prog.godebug = none := by kernel_rfl
theorem laidOut : laidOutB Tryd.prog = true := by kernel_rfl
theorem reads0 : Lk.Reads Tryd.prog 25 k25 (fun x => (((∀ y10 ∈ x.f0, ((Lit.int .i64 y10.f0).wf = true ∧ ((Lit.int .i64 y10.f1).wf = true ∧ ((Lit.int .i64 y10.f2).wf = true ∧ ((Lit.int .i64 y10.f3).wf = true ∧ ((Lit.int .i64 y10.f4).wf = true ∧ (Lit.int .i64 y10.f5).wf = true)))))) ∧ x.f0.length * 48 ≤ 140737488351232 ∧ x.f0.length ≤ maxLen) ∧ (((∀ y15 ∈ x.f1, ((∀ y10 ∈ y15, ((Lit.int .i64 y10.f0).wf = true ∧ (Lit.int .i64 y10.f1).wf = true)) ∧ y15.length * 16 ≤ 140737488351232 ∧ y15.length ≤ maxLen)) ∧ x.f1.length * 24 ≤ 140737488351232 ∧ x.f1.length ≤ maxLen) ∧ (Lit.int .i64 x.f2).wf = true))) :=
  Lk.reads_imp (Lk.reads_iso (fun x : S25 => (x.f0, x.f1, x.f2)) (fun y => ⟨y.1, y.2.1, y.2.2⟩) (fun _ => rfl) (Lk.reads_struct [22, 23, 3] Tryd.underlying25 rfl (by kernel_rfl) (by kernel_rfl) (Lk.readsFs_cons (Lk.reads_slice Tryd.underlying22 (by kernel_rfl) (Lk.reads_iso (fun x : S48 => (x.f0, x.f1, x.f2, x.f3, x.f4, x.f5)) (fun y => ⟨y.1, y.2.1, y.2.2.1, y.2.2.2.1, y.2.2.2.2.1, y.2.2.2.2.2⟩) (fun _ => rfl) (Lk.reads_struct [3, 3, 3, 3, 3, 3] Tryd.underlying48 rfl (by kernel_rfl) (by kernel_rfl) (Lk.readsFs_cons (Lk.reads_int Tryd.underlying3) (Lk.readsFs_cons (Lk.reads_int Tryd.underlying3) (Lk.readsFs_cons (Lk.reads_int Tryd.underlying3) (Lk.readsFs_cons (Lk.reads_int Tryd.underlying3) (Lk.readsFs_cons (Lk.reads_int Tryd.underlying3) (Lk.readsFs_one (Lk.reads_int Tryd.underlying3)))))))))) (Lk.readsFs_cons (Lk.reads_slice Tryd.underlying23 (by kernel_rfl) (Lk.reads_slice Tryd.underlying44 (by kernel_rfl) (Lk.reads_iso (fun x : S60 => (x.f0, x.f1)) (fun y => ⟨y.1, y.2⟩) (fun _ => rfl) (Lk.reads_struct [3, 3] Tryd.underlying60 rfl (by kernel_rfl) (by kernel_rfl) (Lk.readsFs_cons (Lk.reads_int Tryd.underlying3) (Lk.readsFs_one (Lk.reads_int Tryd.underlying3))))))) (Lk.readsFs_one (Lk.reads_int Tryd.underlying3)))))) (fun a h => h)
def laid_ : List (String × DataW Unit) := [("spool/digit.signs", Rows.laid_spool_digit_signs)]
set_option maxRecDepth 100000 in
theorem lifted (os : Os) (started : os.Started) (H : Type) (enc : TypeId × Value → H) :
    ReturnsInHanded {} Tryd.checked os 3 .any (fun w args => (Rows.regprintPrintsSpec.pre enc Tryd.prog Tryd.f3 Rows.regprintPrintsRow.domain false w args ∧ laidMetH Tryd.prog laid_ w) ∧ sizedMet enc Tryd.prog Tryd.f3 (OpenSpec.ofChange Rows.regprintPrintsSpec) false w args) (Rows.regprintPrintsSpec.post enc Tryd.prog Tryd.f3 false true false false) := by
  refine returnsInHanded_of_change_and (C := Tryd.checked) (X := fun w _ => laidMetH Tryd.prog laid_ w) (fun _ _ _ hh h => h.of_heap hh) own started (by kernel_rfl) Tryd.func3
    (ChangeSpec.witness_shaped (enc := enc) (C := Tryd.checked) (os := os) (X := fun w _ => laidMetH Tryd.prog laid_ w) false (World.laidAll Tryd.prog os laid_) #[.agg #[.slice none 0 0, .slice none 0 0, .int .i64 0]] 8 (World.laidAll_os _ _ _)
      (World.shaped_of_ZipB (by kernel_rfl) (by kernel_rfl)) (by kernel_rfl) (by kernel_rfl) (by kernel_rfl)
      (by rw [MakeChecks.laidMetH_plain _ _ _ (by kernel_rfl)]; exact laidMet_laidAll _ (by kernel_rfl) (by kernel_rfl))) ?_
  intro W base args ds gs before hval0 hW hcnd hsz0 hL _
  rw [MakeChecks.laidMetH_plain _ _ _ (by kernel_rfl)] at hL
  have hrG0 := Tabs.tab_int (g := 0) (k := .u8) (P := Tryd.prog) (w := W) (name := "spool/digit.signs") (xs := PG.tab_digit_signs) (by kernel_rfl) (by kernel_rfl) (Tryd.underlying70) (by kernel_rfl) (by kernel_rfl) (N := PG.tab_digit_signs.length) rfl (by decide +kernel) (by kernel_rfl) (Lib.laidMet.reads hL (.head _))
  have hsz : (DataW.weightsEach Tryd.prog (Tryd.f3.params.toList ++ Rows.regprintPrintsSpec.plain.varTypes Tryd.prog) (ds ++ gs)).all (· ≤ reachBytes) = true := hsz0
  have hval : ∀ (j : Nat) t v, Tryd.f3.params[j]? = some t → args[j]? = some v → Value.okWide Tryd.prog W .any base t v := hval0
  have hW' := hW
  obtain ⟨p, q, hA0, hV, rfl, hfz, hnd⟩ := hW
  have hA : DataW.TrodAll enc Tryd.prog W 0 (fun _ => true) true Tryd.f3.params.toList args.toList ds p := hA0
  rw [Tryd.params3] at hA hval hsz
  obtain ⟨v0, vs0, d0, ds0, p0, q0, hargs, rfl, rfl, h0, r0⟩ := trodAll_cons hA
  obtain ⟨rfl, rfl, rfl⟩ := trodAll_nil r0
  obtain rfl : args = #[v0] := by cases args; simp_all
  obtain ⟨rfl, rfl⟩ := trodVars_none hV
  have hsw : (d0.weights Tryd.prog 25).all (· ≤ reachBytes) = true := by
    simp only [List.cons_append, List.nil_append, DataW.weightsEach, List.all_append, Bool.and_eq_true] at hsz
    exact hsz.1
  have hz0 := hsw
  have k0 := h0
  have lt0 : ∀ x ∈ p0, x.block < W.heap.size := by obtain ⟨m, hm⟩ := k0; exact DataW.trod_lt m _ _ _ hm
  obtain ⟨cs0, y0, rfl, hK0, w0⟩ := Lk.open_agg (by rw [Tryd.underlying25]) reads0 (hval 0 25 v0 rfl rfl) h0 hz0
  obtain ⟨_, _, rfl, ⟨A0_0, c0_0, rfl, hL0_0, hC0_0⟩, ⟨_, _, rfl, ⟨A0_1, c0_1, rfl, hL0_1, hC0_1⟩, rfl⟩⟩ := hK0
  clear hA0 hval0 hsz0 hsz
  obtain ⟨k_, hk_⟩ := Pure.RegprintPrints y0 w0
  refine (PG.spoollaw14_RegprintPrints.calls (k := k_) (r := true) (w := W) (hr0_0 := hC0_0) (hc0_0 := hL0_0) (hr0_1 := hC0_1) (hc0_1 := hL0_1) (hrG0 := hrG0) (h := hk_)).mono fun e W' ⟨he, bel0⟩ => ?_
  have bel : Below W.heap.size W W' := bel0
  subst he
  exact ⟨_, rfl, _, _, _, [], _, [], hW', trodAll_mk1 (shut_bool Tryd.underlying4 _), (trodAll_cons_mk (Below.trod laidOut (by kernel_rfl) (of_decide_eq_true (by kernel_rfl)) k0 bel lt0) trodAll_mk0), rfl, bel.frame _, fun h => by cases h⟩
theorem over : Rows.regprintPrintsRow.holds Tryd.pinned (OpenSpec.ofChange Rows.regprintPrintsSpec) :=
  OpenClaim.holds_of_wide 3 Tryd.f3 rfl rfl rfl rfl rfl rfl rfl ⟨rfl, rfl, rfl, rfl, rfl⟩ rfl rfl rfl rfl rfl (by kernel_rfl) Tryd.func3 (by kernel_rfl)
    (of_decide_eq_true (by kernel_rfl)) (by unfold Func.isWrapper; first | (rw [if_pos (by decide +kernel)]; kernel_rfl) | (rw [if_neg (by decide +kernel)]; exact ⟨rfl, rfl⟩))
    (fun os started H enc _ => lifted os started H enc)
theorem proved : Rows.RegprintPrintsSaid := over
theorem card_proved : Rows.RegprintPrintsCardSaid :=
  Claim7.holds_tied_plain_at .later [] [.data] true (true, "b7445262498c8cc25c158fe2fa426ffbe930ce4c4b2deb95e33b64776c39a611") true proved (fun _ h => by cases h) (by kernel_rfl) (fun _ h => by cases h) regprintPrints_row_tie rfl ⟨rfl, rfl⟩ (by kernel_rfl) rfl
    (fun f fn hf hfn => by
      obtain rfl : f = 3 := Option.some.inj ((show Tryd.prog.funcNamed "spool/spoollaw14.RegprintPrints" = some 3 by kernel_rfl).symm.trans hf) |>.symm
      obtain rfl : fn = Tryd.f3 := (Option.some.inj (Tryd.func3.symm.trans hfn)).symm
      exact ⟨by kernel_rfl, fun j t ht => by
        have hm : t ∈ Tryd.f3.params.toList := by simpa using Array.mem_of_getElem? ht
        have hall : (Tryd.f3.params.toList.all fun u => !Tryd.prog.wantsStandIn u) = true := by kernel_rfl
        exact (show Tryd.prog.wantsStandIn t = false by simpa using List.all_eq_true.1 hall t hm)⟩)
    (by kernel_rfl)
#print axioms card_proved
end Go.Proofs.YtlihkebmonfefaaDoor.regprintPrints
namespace Go.Proofs.YtlihkebmonfefaaDoor
theorem regprintPrints_holds : Rows.RegprintPrintsCardSaid := regprintPrints.card_proved
end Go.Proofs.YtlihkebmonfefaaDoor

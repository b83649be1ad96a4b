-- WRITTEN BY A PROGRAM OF THIS SESSION (patchprint.py over the kit's print)
import Derived.Test.YtifcpamliidabaaDoorRows
import Derived.Test.YtifcpamliidabaaDoorPSx20
import Derived.Test.YtifcpamliidabaaDoorPureScriptBack
import Derived.Test.YtifcpamliidabaaDoorHandLk
import Derived.WalkKit
import Derived.ProofKit
import Derived.OpenShut
import Derived.ShutString
import Derived.ChangeOld
import Derived.Below
import Derived.Carry
import Derived.SizedLaws
import Derived.Test.YtifcpamliidabaaDoorTabs
import Derived.Test.YtifcpamliidabaaDoorCards
import Derived.Test.YtifcpamliidabaaDoorTie
import Derived.Handed
import Derived.Lay
import Derived.LaidOnce
import Derived.LaidLaws
import Derived.SevenTiedAt
namespace Go.Proofs.YtifcpamliidabaaDoor.scriptBack
open Go.ChangeShapes Go.WideShapes Go.ChangeAt Go.RowKit
open Go.ChangeMaps (open_string shut_string)
open Go.Proofs.YtifcpamliidabaaDoor.PS Go.Proofs.YtifcpamliidabaaDoorW.PrintWords
set_option linter.unusedVariables false
theorem own : ownKnob Tryd.prog.godebug = none := by kernel_rfl
theorem laidOut : laidOutB Tryd.prog = true := by kernel_rfl
theorem reads0 : Lk.Reads Tryd.prog 23 (Kd.slice 51 k51) (fun x => ((∀ y10 ∈ x, ((Lit.int .i64 y10.f0).wf = true ∧ ((Lit.int .i64 y10.f1).wf = true ∧ ((Lit.int .i64 y10.f2.f0).wf = true ∧ ((Lit.int .i64 y10.f2.f1).wf = true ∧ y10.f2.f2.size ≤ 140737488351232))))) ∧ x.length * 48 ≤ 140737488351232 ∧ x.length ≤ maxLen)) :=
  Lk.reads_imp (Lk.reads_slice Tryd.underlying23 (by kernel_rfl) (Lk.reads_iso (fun x : S51 => (x.f0, x.f1, x.f2)) (fun y => ⟨y.1, y.2.1, y.2.2⟩) (fun _ => rfl) (Lk.reads_struct [3, 3, 42] Tryd.underlying51 rfl (by kernel_rfl) (by kernel_rfl) (Lk.readsFs_cons (Lk.reads_int Tryd.underlying3) (Lk.readsFs_cons (Lk.reads_int Tryd.underlying3) (Lk.readsFs_one (Lk.reads_iso (fun x : S42 => (x.f0, x.f1, x.f2)) (fun y => ⟨y.1, y.2.1, y.2.2⟩) (fun _ => rfl) (Lk.reads_struct [3, 3, 9] Tryd.underlying42 rfl (by kernel_rfl) (by kernel_rfl) (Lk.readsFs_cons (Lk.reads_int Tryd.underlying3) (Lk.readsFs_cons (Lk.reads_int Tryd.underlying3) (Lk.readsFs_one (Lk.reads_string Tryd.underlying9)))))))))))) (fun a h => h)
def laid_ : List (String × DataW Unit) := [("spool/digit.signs", Rows.laid_spool_digit_signs), ("spool/script.names", Rows.laid_spool_script_names), ("spool/script.heads", Rows.laid_spool_script_heads)]
set_option maxRecDepth 100000 in
theorem lifted (os : Os) (started : os.Started) (H : Type) (enc : TypeId × Value → H) :
    ReturnsInHanded {} Tryd.checked os 4 .any (fun w args => (Rows.scriptBackSpec.pre enc Tryd.prog Tryd.f4 Rows.scriptBackRow.domain false w args ∧ laidMetH Tryd.prog laid_ w) ∧ sizedMet enc Tryd.prog Tryd.f4 (OpenSpec.ofChange Rows.scriptBackSpec) false w args) (Rows.scriptBackSpec.post enc Tryd.prog Tryd.f4 false true false false) := by
  refine returnsInHanded_of_change_and (C := Tryd.checked) (X := fun w _ => laidMetH Tryd.prog laid_ w) (fun _ _ _ hh h => h.of_heap hh) own started (by kernel_rfl) Tryd.func4
    (ChangeSpec.witness_shaped (enc := enc) (C := Tryd.checked) (os := os) (X := fun w _ => laidMetH Tryd.prog laid_ w) false (World.laidAll Tryd.prog os laid_) #[.slice none 0 0, .string ByteArray.empty] 8 (World.laidAll_os _ _ _)
      (World.shaped_of_ZipB (by kernel_rfl) (by kernel_rfl)) (by kernel_rfl) (by kernel_rfl) (by kernel_rfl)
      (by rw [MakeChecks.laidMetH_plain _ _ _ (by kernel_rfl)]; exact laidMet_laidAll _ (by kernel_rfl) (by kernel_rfl))) ?_
  intro W base args ds gs before hval0 hW hcnd hsz0 hL _
  rw [MakeChecks.laidMetH_plain _ _ _ (by kernel_rfl)] at hL
  have hrG0 := Tabs.tab_string (g := 0) (P := Tryd.prog) (w := W) (name := "spool/script.names") (xs := PS.tab_script_names) (by kernel_rfl) (by kernel_rfl) (Tryd.underlying79) (by kernel_rfl) (by kernel_rfl) (N := PS.tab_script_names.length) rfl (by decide +kernel) (by kernel_rfl) (Lib.laidMet.reads hL (.tail _ (.head _)))
  have hrG1 := Tabs.tab_string (g := 1) (P := Tryd.prog) (w := W) (name := "spool/script.heads") (xs := PS.tab_script_heads) (by kernel_rfl) (by kernel_rfl) (Tryd.underlying88) (by kernel_rfl) (by kernel_rfl) (N := PS.tab_script_heads.length) rfl (by decide +kernel) (by kernel_rfl) (Lib.laidMet.reads hL (.tail _ (.tail _ (.head _))))
  have hrG2 := Tabs.tab_int (g := 2) (k := .u8) (P := Tryd.prog) (w := W) (name := "spool/digit.signs") (xs := PS.tab_digit_signs) (by kernel_rfl) (by kernel_rfl) (Tryd.underlying89) (by kernel_rfl) (by kernel_rfl) (N := PS.tab_digit_signs.length) rfl (by decide +kernel) (by kernel_rfl) (Lib.laidMet.reads hL (.head _))
  have hsz : (DataW.weightsEach Tryd.prog (Tryd.f4.params.toList ++ Rows.scriptBackSpec.plain.varTypes Tryd.prog) (ds ++ gs)).all (· ≤ reachBytes) = true := hsz0
  have hval : ∀ (j : Nat) t v, Tryd.f4.params[j]? = some t → args[j]? = some v → Value.okWide Tryd.prog W .any base t v := hval0
  have hW' := hW
  obtain ⟨p, q, hA0, hV, rfl, hfz, hnd⟩ := hW
  have hA : DataW.TrodAll enc Tryd.prog W 0 (fun _ => true) true Tryd.f4.params.toList args.toList ds p := hA0
  rw [Tryd.params4] at hA hval hsz
  obtain ⟨v0, vs0, d0, ds0, p0, q0, hargs, rfl, rfl, h0, r0⟩ := trodAll_cons hA
  obtain ⟨v1, vs1, d1, ds1, p1, q1, rfl, rfl, rfl, h1, r1⟩ := trodAll_cons r0
  obtain ⟨rfl, rfl, rfl⟩ := trodAll_nil r1
  obtain rfl : args = #[v0, v1] := by cases args; simp_all
  obtain ⟨rfl, rfl⟩ := trodVars_none hV
  have hsw : (d0.weights Tryd.prog 23).all (· ≤ reachBytes) = true ∧ (d1.weights Tryd.prog 9).all (· ≤ reachBytes) = true := by
    simp only [List.cons_append, List.nil_append, DataW.weightsEach, List.all_append, Bool.and_eq_true] at hsz
    exact ⟨hsz.1, hsz.2.1⟩
  obtain ⟨hz0, hz1⟩ := hsw
  have k0 := h0
  have lt0 : ∀ x ∈ p0, x.block < W.heap.size := by obtain ⟨m, hm⟩ := k0; exact DataW.trod_lt m _ _ _ hm
  obtain ⟨A0, c0, l0, rfl, hL0, hC0, w0⟩ := Lk.open_slice Tryd.underlying23 reads0 (hval 0 23 v0 rfl rfl) h0 hz0
  obtain ⟨a1, rfl, rfl, rfl, y1⟩ := open_string Tryd.underlying9 (hval 1 9 v1 rfl rfl) h1
  have w1 : a1.size ≤ 140737488351232 := by
    simp only [DataW.weights, List.all_cons, List.all_nil, Bool.and_true, decide_eq_true_eq, Array.length_toList] at hz1
    exact hz1
  clear hA0 hval0 hsz0 hsz
  obtain ⟨k_, hk_⟩ := Pure.ScriptBack l0 a1 w0 w1
  refine (PS.spoollaw48_ScriptBack.calls (k := k_) (r := true) (w := W) (hr0 := hC0) (hc0 := hL0) (hrG0 := hrG0) (hrG1 := hrG1) (hrG2 := hrG2) (h := hk_)).mono fun e W' ⟨he, bel0⟩ => ?_
  have bel : Below W.heap.size W W' := bel0
  subst he
  exact ⟨_, rfl, _, _, _, [], _, [], hW', trodAll_mk1 (shut_bool Tryd.underlying4 _), (trodAll_cons_mk (Below.trod laidOut (by kernel_rfl) (of_decide_eq_true (by kernel_rfl)) k0 bel lt0) (trodAll_cons_mk (shut_string Tryd.underlying9 y1) trodAll_mk0)), rfl, bel.frame _, fun h => by cases h⟩
theorem over : Rows.scriptBackRow.holds Tryd.pinned (OpenSpec.ofChange Rows.scriptBackSpec) :=
  OpenClaim.holds_of_wide 4 Tryd.f4 rfl rfl rfl rfl rfl rfl rfl ⟨rfl, rfl, rfl, rfl, rfl⟩ rfl rfl rfl rfl rfl (by kernel_rfl) Tryd.func4 (by kernel_rfl)
    (of_decide_eq_true (by kernel_rfl)) (by unfold Func.isWrapper; first | (rw [if_pos (by decide +kernel)]; kernel_rfl) | (rw [if_neg (by decide +kernel)]; exact ⟨rfl, rfl⟩))
    (fun os started H enc _ => lifted os started H enc)
theorem proved : Rows.ScriptBackSaid := over
/-- The tied card. -/
theorem card_proved : Rows.ScriptBackCardSaid :=
  Claim7.holds_tied_plain_at .later [] [.data, .data, .data] true (true, "4ee41b771412f18f6633408bae22032a83bae54165573e9e3e66b03a71473d36") false proved (fun _ h => by cases h) (by kernel_rfl) (fun _ h => by cases h) scriptBack_row_tie rfl ⟨rfl, rfl⟩ (by kernel_rfl) rfl
    (fun f fn hf hfn => by
      obtain rfl : f = 4 := Option.some.inj ((show Tryd.prog.funcNamed "spool/spoollaw48.ScriptBack" = some 4 by kernel_rfl).symm.trans hf) |>.symm
      obtain rfl : fn = Tryd.f4 := (Option.some.inj (Tryd.func4.symm.trans hfn)).symm
      exact ⟨by kernel_rfl, fun j t ht => by
        have hm : t ∈ Tryd.f4.params.toList := by simpa using Array.mem_of_getElem? ht
        have hall : (Tryd.f4.params.toList.all fun u => !Tryd.prog.wantsStandIn u) = true := by kernel_rfl
        exact (show Tryd.prog.wantsStandIn t = false by simpa using List.all_eq_true.1 hall t hm)⟩)
    (by kernel_rfl)
#print axioms card_proved
end Go.Proofs.YtifcpamliidabaaDoor.scriptBack
namespace Go.Proofs.YtifcpamliidabaaDoor
/-- The row, under a short name, for the claim. -/
theorem scriptBack_holds : Rows.ScriptBackCardSaid := scriptBack.card_proved
end Go.Proofs.YtifcpamliidabaaDoor

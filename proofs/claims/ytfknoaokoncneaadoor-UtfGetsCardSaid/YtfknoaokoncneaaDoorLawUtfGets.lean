-- WRITTEN BY A PROGRAM OF THIS SESSION (patchprint.py over the kit's print)
import Derived.Test.YtfknoaokoncneaaDoorRows
import Derived.Test.YtfknoaokoncneaaDoorPUx6
import Derived.Test.YtfknoaokoncneaaDoorPureUtfGets
import Derived.WalkKit
import Derived.ProofKit
import Derived.OpenShut
import Derived.ShutString
import Derived.ChangeOld
import Derived.Below
import Derived.SizedLaws
import Derived.Test.YtfknoaokoncneaaDoorTabs
import Derived.Test.YtfknoaokoncneaaDoorCards
import Derived.Test.YtfknoaokoncneaaDoorTie
import Derived.Handed
import Derived.Lay
import Derived.LaidOnce
import Derived.LaidLaws
import Derived.SevenTiedAt
namespace Go.Proofs.YtfknoaokoncneaaDoor.utfGets
open Go.ChangeShapes Go.WideShapes Go.ChangeAt Go.RowKit
open Go.ChangeMaps (open_string shut_string)
set_option linter.unusedVariables false
theorem own : ownKnob Tryd.prog.godebug = none := by kernel_rfl
def laid_ : List (String × DataW Unit) := [("unicode/utf8.acceptRanges", Rows.laid_unicode_utf8_acceptRanges), ("unicode/utf8.first", Rows.laid_unicode_utf8_first)]
set_option maxRecDepth 100000 in
theorem lifted (os : Os) (started : os.Started) (H : Type) (enc : TypeId × Value → H) :
    ReturnsInHanded {} Tryd.checked os 10 .any (fun w args => (Rows.utfGetsSpec.pre enc Tryd.prog Tryd.f10 Rows.utfGetsRow.domain false w args ∧ laidMetH Tryd.prog laid_ w) ∧ sizedMet enc Tryd.prog Tryd.f10 (OpenSpec.ofChange Rows.utfGetsSpec) false w args) (Rows.utfGetsSpec.post enc Tryd.prog Tryd.f10 false true false false) := by
  refine returnsInHanded_of_change_and (C := Tryd.checked) (X := fun w _ => laidMetH Tryd.prog laid_ w) (fun _ _ _ hh h => h.of_heap hh) own started (by kernel_rfl) Tryd.func10
    (ChangeSpec.witness_shaped (enc := enc) (C := Tryd.checked) (os := os) (X := fun w _ => laidMetH Tryd.prog laid_ w) false (World.laidAll Tryd.prog os laid_) #[.string ByteArray.empty] 8 (World.laidAll_os _ _ _)
      (World.shaped_of_ZipB (by kernel_rfl) (by kernel_rfl)) (by kernel_rfl) (by kernel_rfl) (by kernel_rfl)
      (by rw [MakeChecks.laidMetH_plain _ _ _ (by kernel_rfl)]; exact laidMet_laidAll _ (by kernel_rfl) (by kernel_rfl))) ?_
  intro W base args ds gs before hval0 hW hcnd hsz0 hL _
  rw [MakeChecks.laidMetH_plain _ _ _ (by kernel_rfl)] at hL
  have hrG2 := Tabs.tab_int (g := 2) (k := .u8) (P := Tryd.prog) (w := W) (name := "unicode/utf8.first") (xs := PU.tab_utf8_first) (by kernel_rfl) (by kernel_rfl) (Tryd.underlying67) (by kernel_rfl) (by kernel_rfl) (N := PU.tab_utf8_first.length) rfl (by decide +kernel) (by kernel_rfl) (Lib.laidMet.reads hL (.tail _ (.head _)))
  have hrG3 := Tabs.tab_struct (g := 3) PU.k69 (fun x => [x.f0, x.f1]) (k := .u8) (P := Tryd.prog) (w := W) (name := "unicode/utf8.acceptRanges") (xs := PU.tab_utf8_acceptRanges) (by kernel_rfl) (by kernel_rfl) (Tryd.underlying70) (Tryd.underlying69) (by kernel_rfl) rfl (fun i f hf => by match i, hf with | 0, hf => (obtain rfl := Option.some.inj hf.symm; exact ⟨Tryd.underlying5, rfl, by kernel_rfl⟩) | 1, hf => (obtain rfl := Option.some.inj hf.symm; exact ⟨Tryd.underlying5, rfl, by kernel_rfl⟩) | i + 2, hf => simp at hf) (fun w x => PU.k69_mk w x) (N := PU.tab_utf8_acceptRanges.length) rfl (by decide +kernel) (by kernel_rfl) (Lib.laidMet.reads hL (.head _))
  have hsz : (DataW.weightsEach Tryd.prog (Tryd.f10.params.toList ++ Rows.utfGetsSpec.plain.varTypes Tryd.prog) (ds ++ gs)).all (· ≤ reachBytes) = true := hsz0
  have hval : ∀ (j : Nat) t v, Tryd.f10.params[j]? = some t → args[j]? = some v → Value.okWide Tryd.prog W .any base t v := hval0
  have hW' := hW
  obtain ⟨p, q, hA0, hV, rfl, hfz, hnd⟩ := hW
  have hA : DataW.TrodAll enc Tryd.prog W 0 (fun _ => true) true Tryd.f10.params.toList args.toList ds p := hA0
  rw [Tryd.params10] at hA hval hsz
  obtain ⟨v0, vs0, d0, ds0, p0, q0, hargs, rfl, rfl, h0, r0⟩ := trodAll_cons hA
  obtain ⟨rfl, rfl, rfl⟩ := trodAll_nil r0
  obtain rfl : args = #[v0] := by cases args; simp_all
  obtain ⟨rfl, rfl⟩ := trodVars_none hV
  obtain ⟨a0, rfl, rfl, rfl, y0⟩ := open_string Tryd.underlying9 (hval 0 9 v0 rfl rfl) h0
  have w0 : a0.size ≤ 140737488351232 := by
    have z := sized_string hsz (j := 0) (t := 9) rfl rfl
    rw [Array.length_toList] at z
    exact z
  clear hA0 hval0 hsz0 hsz
  refine (PU.spoollaw02_UtfGets.walk Pure.UtfGets a0 W w0 hrG2 hrG3).mono fun e W' ⟨he, bel⟩ => ?_
  subst he
  exact ⟨_, rfl, _, _, _, [], _, [], hW', trodAll_mk1 (shut_bool Tryd.underlying4 _), (trodAll_cons_mk (shut_string Tryd.underlying9 y0) trodAll_mk0), rfl, bel.frame _, fun h => by cases h⟩
theorem over : Rows.utfGetsRow.holds Tryd.pinned (OpenSpec.ofChange Rows.utfGetsSpec) :=
  OpenClaim.holds_of_wide 10 Tryd.f10 rfl rfl rfl rfl rfl rfl rfl ⟨rfl, rfl, rfl, rfl, rfl⟩ rfl rfl rfl rfl rfl (by kernel_rfl) Tryd.func10 (by kernel_rfl)
    (of_decide_eq_true (by kernel_rfl)) (by unfold Func.isWrapper; first | (rw [if_pos (by decide +kernel)]; kernel_rfl) | (rw [if_neg (by decide +kernel)]; exact ⟨rfl, rfl⟩))
    (fun os started H enc _ => lifted os started H enc)
theorem proved : Rows.UtfGetsSaid := over
/-- The tied card. -/
theorem card_proved : Rows.UtfGetsCardSaid :=
  Claim7.holds_tied_plain_at .later [] [.data, .pinned] true (true, "0f260b81dabd291ba513772d01388746a814351e7f2e3406250d240671b419e0") false proved (fun _ h => by cases h) (by kernel_rfl) (fun _ h => by cases h) utfGets_row_tie rfl ⟨rfl, rfl⟩ (by kernel_rfl) rfl
    (fun f fn hf hfn => by
      obtain rfl : f = 10 := Option.some.inj ((show Tryd.prog.funcNamed "spool/spoollaw02.UtfGets" = some 10 by kernel_rfl).symm.trans hf) |>.symm
      obtain rfl : fn = Tryd.f10 := (Option.some.inj (Tryd.func10.symm.trans hfn)).symm
      exact ⟨by kernel_rfl, fun j t ht => by
        have hm : t ∈ Tryd.f10.params.toList := by simpa using Array.mem_of_getElem? ht
        have hall : (Tryd.f10.params.toList.all fun u => !Tryd.prog.wantsStandIn u) = true := by kernel_rfl
        exact (show Tryd.prog.wantsStandIn t = false by simpa using List.all_eq_true.1 hall t hm)⟩)
    (by kernel_rfl)
#print axioms card_proved
end Go.Proofs.YtfknoaokoncneaaDoor.utfGets
namespace Go.Proofs.YtfknoaokoncneaaDoor
/-- The row, under a short name, for the claim. -/
theorem utfGets_holds : Rows.UtfGetsCardSaid := utfGets.card_proved
end Go.Proofs.YtfknoaokoncneaaDoor

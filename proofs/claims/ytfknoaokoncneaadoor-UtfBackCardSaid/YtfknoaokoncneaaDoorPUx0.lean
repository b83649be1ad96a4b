-- WRITTEN BY A PROGRAM OF THIS SESSION (patchprint.py over the kit's print)
import Derived.Test.YtfknoaokoncneaaDoorProg
import Derived.Below
import Derived.Deep.Draws
import Derived.Deep.AppendLies
import Derived.Maps.AppendAt
import Derived.OwnWalk
import Derived.Laws.BytesArg
import Derived.Laws.MakeOwn
import Derived.Laws.OwnMore
import Derived.Deep.OwnRows
import Derived.Tactics
import Derived.Lib.ConvBytes
import Derived.Laws.Slices
import Derived.WalkKit
import Derived.KernelRfl
import Derived.RowKit3
import Derived.Deep.LoopGhost
import Derived.Deep.QuietTactic
import Derived.BigQuiet
import Derived.WideLaws
import Derived.Deep.DeepCutAuto
import Derived.Deep.CutBlock
import Derived.Deep.RegionHeld3
import Derived.Laws.Rows
import Derived.Lib.AppendStr
import Derived.ArgAppend
import Derived.Laws.IdiomCopy
import Derived.OrdersHeld
import Derived.Laws.BitsLemmas
import Derived.RowKit
import Derived.Test.YtfknoaokoncneaaDoorWWords
import Derived.Test.YtfknoaokoncneaaDoorWLast
import Derived.Test.YtfknoaokoncneaaDoorWTab
import Derived.Test.YtfknoaokoncneaaDoorWFour
import Derived.Test.YtfknoaokoncneaaDoorWQPut
import Derived.Test.YtfknoaokoncneaaDoorWApart
import Derived.Test.YtfknoaokoncneaaDoorWArr
import Derived.Test.YtfknoaokoncneaaDoorWZeros
import Derived.Test.YtfknoaokoncneaaDoorWFoot
import Derived.Test.YtfknoaokoncneaaDoorWKept
import Derived.Test.YtfknoaokoncneaaDoorWShare
import Derived.Test.YtfknoaokoncneaaDoorWN
import Derived.Test.YtfknoaokoncneaaDoorWFootNe
import Derived.Test.YtfknoaokoncneaaDoorWAt
import Derived.Test.YtfknoaokoncneaaDoorWEqStruct
import Derived.Test.YtfknoaokoncneaaDoorWRepsOne
import Derived.Test.YtfknoaokoncneaaDoorWInv
import Derived.Test.YtfknoaokoncneaaDoorWInvWords
import Derived.Test.YtfknoaokoncneaaDoorWGuard
import Derived.Test.YtfknoaokoncneaaDoorWNEv
import Derived.Test.YtfknoaokoncneaaDoorWMore
namespace Go.Proofs.YtfknoaokoncneaaDoor.PU
open Go.RowKit Go.Proofs.YtfknoaokoncneaaDoorW.PrintWords Go.Proofs.YtfknoaokoncneaaDoorW.PrintLast Go.Proofs.YtfknoaokoncneaaDoorW.PrintMore
attribute [local go_sem] max2_int min2_int max_two min_two max_three min_three max_four min_four   -- for this text's walks alone
set_option linter.unusedVariables false
set_option linter.unusedSimpArgs false



def errW : Option Int → Value
  | none => .nilIface
  | some c => .iface 0 (.int .i64 c)
theorem errW_none : errW none = .nilIface := rfl
theorem errW_some (c : Int) : errW (some c) = .iface 0 (.int .i64 c) := rfl

def tab_utf8_first : List Int := [(240 : Int), (240 : Int), (240 : Int), (240 : Int), (240 : Int), (240 : Int), (240 : Int), (240 : Int), (240 : Int), (240 : Int), (240 : Int), (240 : Int), (240 : Int), (240 : Int), (240 : Int), (240 : Int), (240 : Int), (240 : Int), (240 : Int), (240 : Int), (240 : Int), (240 : Int), (240 : Int), (240 : Int), (240 : Int), (240 : Int), (240 : Int), (240 : Int), (240 : Int), (240 : Int), (240 : Int), (240 : Int), (240 : Int), (240 : Int), (240 : Int), (240 : Int), (240 : Int), (240 : Int), (240 : Int), (240 : Int), (240 : Int), (240 : Int), (240 : Int), (240 : Int), (240 : Int), (240 : Int), (240 : Int), (240 : Int), (240 : Int), (240 : Int), (240 : Int), (240 : Int), (240 : Int), (240 : Int), (240 : Int), (240 : Int), (240 : Int), (240 : Int), (240 : Int), (240 : Int), (240 : Int), (240 : Int), (240 : Int), (240 : Int), (240 : Int), (240 : Int), (240 : Int), (240 : Int), (240 : Int), (240 : Int), (240 : Int), (240 : Int), (240 : Int), (240 : Int), (240 : Int), (240 : Int), (240 : Int), (240 : Int), (240 : Int), (240 : Int), (240 : Int), (240 : Int), (240 : Int), (240 : Int), (240 : Int), (240 : Int), (240 : Int), (240 : Int), (240 : Int), (240 : Int), (240 : Int), (240 : Int), (240 : Int), (240 : Int), (240 : Int), (240 : Int), (240 : Int), (240 : Int), (240 : Int), (240 : Int), (240 : Int), (240 : Int), (240 : Int), (240 : Int), (240 : Int), (240 : Int), (240 : Int), (240 : Int), (240 : Int), (240 : Int), (240 : Int), (240 : Int), (240 : Int), (240 : Int), (240 : Int), (240 : Int), (240 : Int), (240 : Int), (240 : Int), (240 : Int), (240 : Int), (240 : Int), (240 : Int), (240 : Int), (240 : Int), (240 : Int), (240 : Int), (240 : Int), (241 : Int), (241 : Int), (241 : Int), (241 : Int), (241 : Int), (241 : Int), (241 : Int), (241 : Int), (241 : Int), (241 : Int), (241 : Int), (241 : Int), (241 : Int), (241 : Int), (241 : Int), (241 : Int), (241 : Int), (241 : Int), (241 : Int), (241 : Int), (241 : Int), (241 : Int), (241 : Int), (241 : Int), (241 : Int), (241 : Int), (241 : Int), (241 : Int), (241 : Int), (241 : Int), (241 : Int), (241 : Int), (241 : Int), (241 : Int), (241 : Int), (241 : Int), (241 : Int), (241 : Int), (241 : Int), (241 : Int), (241 : Int), (241 : Int), (241 : Int), (241 : Int), (241 : Int), (241 : Int), (241 : Int), (241 : Int), (241 : Int), (241 : Int), (241 : Int), (241 : Int), (241 : Int), (241 : Int), (241 : Int), (241 : Int), (241 : Int), (241 : Int), (241 : Int), (241 : Int), (241 : Int), (241 : Int), (241 : Int), (241 : Int), (241 : Int), (241 : Int), (2 : Int), (2 : Int), (2 : Int), (2 : Int), (2 : Int), (2 : Int), (2 : Int), (2 : Int), (2 : Int), (2 : Int), (2 : Int), (2 : Int), (2 : Int), (2 : Int), (2 : Int), (2 : Int), (2 : Int), (2 : Int), (2 : Int), (2 : Int), (2 : Int), (2 : Int), (2 : Int), (2 : Int), (2 : Int), (2 : Int), (2 : Int), (2 : Int), (2 : Int), (2 : Int), (19 : Int), (3 : Int), (3 : Int), (3 : Int), (3 : Int), (3 : Int), (3 : Int), (3 : Int), (3 : Int), (3 : Int), (3 : Int), (3 : Int), (3 : Int), (35 : Int), (3 : Int), (3 : Int), (52 : Int), (4 : Int), (4 : Int), (4 : Int), (68 : Int), (241 : Int), (241 : Int), (241 : Int), (241 : Int), (241 : Int), (241 : Int), (241 : Int), (241 : Int), (241 : Int), (241 : Int), (241 : Int)]
theorem info3 : (Tryd.prog.info? 3).map (fun i => (i.zero, i.size, i.bytes)) = some (some (.int .i64 0), 1, 8) := by kernel_rfl
theorem info5 : (Tryd.prog.info? 5).map (fun i => (i.zero, i.size, i.bytes)) = some (some (.int .u8 0), 1, 1) := by kernel_rfl
-- the values' own types
/-! #### struct type 69 -/
structure S69 where
  f0 : Int
  f1 : Int
def z69 : S69 := ⟨(0 : Int), (0 : Int)⟩
def k69 : Kd S69 := Kd.iso (Kd.pair (Kd.int .u8) (Kd.int .u8)) (fun x : S69 => (x.f0, x.f1))
theorem k69_open {w : World} {x : S69} {cs : List Value} (h : k69.K w x cs) : cs = [.int .u8 x.f0, .int .u8 x.f1] := by
  obtain ⟨_, _, rfl, rfl, rfl⟩ := h
  exact rfl
theorem k69_openM {w : World} {base : Nat} {ok : Nat → Prop} {x : S69} {cs : List Value} (h : k69.M w base ok x cs) : cs = [.int .u8 x.f0, .int .u8 x.f1] := by
  obtain ⟨_, _, rfl, rfl, rfl⟩ := h
  exact rfl
theorem k69_mk (w : World) (x : S69)  : k69.K w x [.int .u8 x.f0, .int .u8 x.f1] := ⟨[.int .u8 x.f0], [.int .u8 x.f1], rfl, rfl, rfl⟩
theorem k69_mkM (w : World) (base : Nat) (ok : Nat → Prop) (x : S69)  : k69.M w base ok x [.int .u8 x.f0, .int .u8 x.f1] := ⟨[.int .u8 x.f0], [.int .u8 x.f1], rfl, rfl, rfl⟩
def rd_T69 (xs : List S69) (i : Int) : S69 := xs.getD i.toNat z69
theorem at_T69 {w : World} {A : Option Addr} {n : Nat} {xs : List S69} (h : Kd.C k69 w A n xs) (i : Int) (h0 : 0 ≤ i) (h1 : i < n) : ∃ ad , A = some ad ∧ w.cell? (ad.add (i.toNat * 2)) = some (.int .u8 (rd_T69 xs i).f0) ∧ w.cell? ⟨(ad.add (i.toNat * 2)).block, (ad.add (i.toNat * 2)).off + 1, none⟩ = some (.int .u8 (rd_T69 xs i).f1) := by
  obtain ⟨ad, c, e, _, hK, hc0⟩ := Kd.C_get h z69 i h0 h1
  have hc : ∀ j u, c[j]? = some u → w.cell? (ad.add (i.toNat * 2 + j)) = some u := hc0
  obtain rfl := k69_open hK
  exact ⟨ad, e, hc 0 _ rfl, by rw [← add_field _ _ 1 (by omega)]; exact hc 1 _ rfl⟩

def rd_L4 (xs : List (List Int)) (i : Int) : (List Int) := xs.getD i.toNat ([] : List Int)
theorem at_L4 {w : World} {A : Option Addr} {n : Nat} {xs : List (List Int)} (h : Kd.C (Kd.slice 3 (Kd.int .i64)) w A n xs) (i : Int) (h0 : 0 ≤ i) (h1 : i < n) : ∃ ad A0 c0, A = some ad ∧ w.cell? (ad.add i.toNat) = some (.slice A0 (rd_L4 xs i).length c0) ∧ (rd_L4 xs i).length ≤ c0 ∧ (Kd.int .i64).C w A0 (rd_L4 xs i).length (rd_L4 xs i) := by
  obtain ⟨ad, c, e, _, hK, hc0⟩ := Kd.C_get h ([] : List Int) i h0 h1
  have hc : ∀ j u, c[j]? = some u → w.cell? (ad.add (i.toNat * 1 + j)) = some u := hc0
  obtain ⟨A0, c0, rfl, l0, g0⟩ := hK
  exact ⟨ad, A0, c0, e, by have hq := hc 0 _ rfl; rwa [Nat.mul_one, Nat.add_zero] at hq, l0, g0⟩

def tab_utf8_acceptRanges : List (S69) := [(⟨(128 : Int), (191 : Int)⟩ : S69), (⟨(160 : Int), (191 : Int)⟩ : S69), (⟨(128 : Int), (159 : Int)⟩ : S69), (⟨(144 : Int), (191 : Int)⟩ : S69), (⟨(128 : Int), (143 : Int)⟩ : S69), (⟨(0 : Int), (0 : Int)⟩ : S69), (⟨(0 : Int), (0 : Int)⟩ : S69), (⟨(0 : Int), (0 : Int)⟩ : S69), (⟨(0 : Int), (0 : Int)⟩ : S69), (⟨(0 : Int), (0 : Int)⟩ : S69), (⟨(0 : Int), (0 : Int)⟩ : S69), (⟨(0 : Int), (0 : Int)⟩ : S69), (⟨(0 : Int), (0 : Int)⟩ : S69), (⟨(0 : Int), (0 : Int)⟩ : S69), (⟨(0 : Int), (0 : Int)⟩ : S69), (⟨(0 : Int), (0 : Int)⟩ : S69)]
end Go.Proofs.YtfknoaokoncneaaDoor.PU

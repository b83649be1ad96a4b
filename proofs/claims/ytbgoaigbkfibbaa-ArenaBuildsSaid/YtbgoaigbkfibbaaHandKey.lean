/- The twins' map: what a pair of numbers reads as, as a key; what the map remembers. -/
import Derived.Test.YtbgoaigbkfibbaaProg
import Derived.Test.YtbgoaigbkfibbaaWWords
import Derived.Maps.OwnOps
import Derived.Maps.OwnSet
import Derived.DeepKeys4
set_option linter.unusedSimpArgs false
set_option linter.unusedVariables false
namespace Go.Proofs.Ytbgoaigbkfibbaa.HandKey
open Go.RowKit Go.Maps Go.WideMaps Go.Proofs.YtbgoaigbkfibbaaW.PrintWords
theorem wide75 : (match Try.prog.underlying 75 with | some (.array _ _) | some (.struct _) => true | _ => false) = true := by kernel_rfl
theorem row75 : (75 : TypeId) < Try.prog.types.size := of_decide_eq_true (by kernel_rfl)
theorem law75 : KeyLaw Try.prog 75 := deep_law_laid (by kernel_rfl) (m := 4) (by omega) row75 (by kernel_rfl) wide75
theorem keyed75 : Keyed Try.prog 75 := Keyed.of_law law75
theorem zero3 (w : World) : (zeroValue 3).run Try.prog w = .ok (.int .i64 0) w := by kernel_rfl
def keyV (x y : Int) : Value := .agg #[.int .i64 x, .int .i64 y]
def keyL (x y : Int) : Lit := .string (keyBytes [.int .i64 x, .int .i64 y])
def wf (x : Int) : Prop := (Lit.int .i64 x).wf = true
theorem key_of (x y : Int) (hx : wf x) (hy : wf y) : keyOf Try.prog 75 (keyV x y) = some (keyL x y) := by
 have hk : (Try.prog.keyType 75 && (keyV x y).formed Try.prog 75) = true := by
  have h1 : Try.prog.keyType 75 = true := by kernel_rfl
  have h2 : Try.prog.cellsOf 75 = 2 := by kernel_rfl
  rw [h1, Bool.true_and]
  simp [keyV, Value.formed, Try.underlying75, h2]
 obtain ⟨n, hn⟩ : ∃ n, Try.prog.types.size = n + 1 := Nat.exists_eq_succ_of_ne_zero (Nat.ne_of_gt (Nat.lt_of_le_of_lt (Nat.zero_le _) row75))
 have h2 : Try.prog.cellsOf 75 = 2 := by kernel_rfl
 have h3 : Try.prog.cellsOf 3 = 1 := by kernel_rfl
 have hc : (keyV x y).cells.toList = [.int .i64 x, .int .i64 y] := rfl
 unfold keyOf
 rw [Try.underlying75]
 simp only
 rw [if_pos hk, hc, hn]
 unfold wf at hx hy
 simp [Program.keyLits, Try.underlying75, Try.underlying3, h2, h3, hx, hy, keyL, List.range, List.range.loop]
theorem keyL_inj {x y x' y' : Int} (hx : wf x) (hy : wf y) (hx' : wf x') (hy' : wf y') (h : keyL x y = keyL x' y') : x = x' ∧ y = y' := by
 have h1 := key_of x y hx hy
 have h2 := key_of x' y' hx' hy'
 rw [h] at h1
 have := law75.inj h1 h2
 unfold keyV at this
 simp at this
 exact this
/-- The map remembers only pairs of which that is so. -/
def Memo (T : Int → Int → Bool) (D : DataW Unit) : Prop := ∀ x y c : Int, wf x → wf y → D.atKey (keyL x y) (.lit (.int .i64 0)) = .lit (.int .i64 c) → 0 < c → T x y = true
theorem memo_nil (T : Int → Int → Bool) : Memo T (.map []) := by
 intro x y c _ _ h hc
 have : DataW.lit (H := Unit) (.int .i64 0) = .lit (.int .i64 c) := h
 simp at this
 omega
theorem memo_put {T : Int → Int → Bool} {D : DataW Unit} (hD : IsMap D) (h : Memo T D) {x y : Int} (hx : wf x) (hy : wf y) (ht : T x y = true) : Memo T (D.put (keyL x y) (.lit (.int .i64 1))) := by
 intro x' y' c hx' hy' hat hc
 by_cases e : x' = x ∧ y' = y
 ·rw [e.1, e.2]; exact ht
 ·rw [atKey_put_other (fun hk => e (keyL_inj hx' hy' hx hy hk))] at hat
  exact h x' y' c hx' hy' hat hc
end Go.Proofs.Ytbgoaigbkfibbaa.HandKey

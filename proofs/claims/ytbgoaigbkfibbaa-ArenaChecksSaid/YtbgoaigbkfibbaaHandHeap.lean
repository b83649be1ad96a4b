/- The pile of ranges under the library's heap: what each call does to it. No condition. -/
import Derived.Test.YtbgoaigbkfibbaaPAx0
import Derived.Test.YtbgoaigbkfibbaaPAx2
import Derived.Test.YtbgoaigbkfibbaaWWords
import Derived.Test.YtbgoaigbkfibbaaWMore
import Derived.Test.YtbgoaigbkfibbaaPlS
import Derived.RangeFuncBox
import Derived.Shelf.Abstract
import Derived.Laws.OwnMore
namespace Go.Proofs.Ytbgoaigbkfibbaa.Heap
open Go.RowKit Go.Shelf Go.Proofs.YtbgoaigbkfibbaaW.PrintWords Go.Proofs.YtbgoaigbkfibbaaW.PrintLast Go.Proofs.YtbgoaigbkfibbaaW.PrintMore Go.Proofs.Ytbgoaigbkfibbaa.PA Go.Proofs.Ytbgoaigbkfibbaa.Sets

/-! ### the pile's methods, out of an interface value -/
theorem fLen : Array.find? (fun x => x.name == "Len") Try.t78.methods = some { name := "Len", sig := 42, path := #[], func := some (71, false) } := by kernel_rfl
theorem fLess : Array.find? (fun x => x.name == "Less") Try.t78.methods = some { name := "Less", sig := 47, path := #[], func := some (72, false) } := by kernel_rfl
theorem fSwap : Array.find? (fun x => x.name == "Swap") Try.t78.methods = some { name := "Swap", sig := 92, path := #[], func := some (75, false) } := by kernel_rfl
theorem fPush : Array.find? (fun x => x.name == "Push") Try.t78.methods = some { name := "Push", sig := 88, path := #[], func := some (74, true) } := by kernel_rfl
theorem fPop : Array.find? (fun x => x.name == "Pop") Try.t78.methods = some { name := "Pop", sig := 94, path := #[], func := some (73, true) } := by kernel_rfl
theorem nilchk (a : Addr) (s1 s2 : ByteArray) (W : World) : (Builtin.ssaWrapNilChk_ #[78] 78 #[.pointer (some a), .string s1, .string s2]).run Try.prog W = .ok (.pointer (some a)) W := by rfl
theorem meth_len {p : Nat} {v : Value} {W : World} (hc : W.cell? ⟨p, 0, none⟩ = some v) :
    (method 212 78 (.pointer (some ⟨p, 0, none⟩)) "Len").run Try.prog W = .ok (71, v) W := by
  unfold method
  go_simp
  rw [fLen]
  go_simp
  unfold follow receiverAt
  go_simp
  unfold Place.get
  go_simp
  simp only [strVal, nilchk]
  go_simp
theorem meth_less {p : Nat} {v : Value} {W : World} (hc : W.cell? ⟨p, 0, none⟩ = some v) :
    (method 212 78 (.pointer (some ⟨p, 0, none⟩)) "Less").run Try.prog W = .ok (72, v) W := by
  unfold method
  go_simp
  rw [fLess]
  go_simp
  unfold follow receiverAt
  go_simp
  unfold Place.get
  go_simp
  simp only [strVal, nilchk]
  go_simp
theorem meth_swap {p : Nat} {v : Value} {W : World} (hc : W.cell? ⟨p, 0, none⟩ = some v) :
    (method 212 78 (.pointer (some ⟨p, 0, none⟩)) "Swap").run Try.prog W = .ok (75, v) W := by
  unfold method
  go_simp
  rw [fSwap]
  go_simp
  unfold follow receiverAt
  go_simp
  unfold Place.get
  go_simp
  simp only [strVal, nilchk]
  go_simp
theorem meth_push (p : Nat) (W : World) : (method 212 78 (.pointer (some ⟨p, 0, none⟩)) "Push").run Try.prog W = .ok (74, .pointer (some ⟨p, 0, none⟩)) W := by
  unfold method
  go_simp
  rw [fPush]
  go_simp
  unfold follow receiverAt
  go_simp
  unfold Place.get
  go_simp
theorem meth_pop (p : Nat) (W : World) : (method 212 78 (.pointer (some ⟨p, 0, none⟩)) "Pop").run Try.prog W = .ok (73, .pointer (some ⟨p, 0, none⟩)) W := by
  unfold method
  go_simp
  rw [fPop]
  go_simp
  unfold follow receiverAt
  go_simp
  unfold Place.get
  go_simp

/-! ### the pile in its box -/
/-- The block of a row's own. -/
def own (u : Value) (k : Nat) : Prop := some k = u.ownBlock
/-- The pile in its box: a row of ranges of the call's own. -/
structure PAt (w0 : World) (p : Nat) (u : Value) (l : List S55) (W : World) : Prop where
  lo : w0.heap.size ≤ p
  box : Boxed W p 79 u
  row : Kd.R k55 55 W w0.heap.size (own u) u l
  below : Below w0.heap.size w0 W
theorem R_form {W : World} {b : Nat} {P : Nat → Prop} {u : Value} {l : List S55} (h : Kd.R k55 55 W b P u l) : ∃ A c, u = .slice A l.length c ∧ l.length ≤ c ∧ Kd.C k55 W A l.length l := Kd.R_reads h
theorem empty_calls (w0 : World) (p : Nat) (u : Value) (l : List S55) (W : World) (h : PAt w0 p u l W) :
    Calls Try.prog 49 #[.iface 78 (.pointer (some ⟨p, 0, none⟩))] W fun e W' => e = .returned (.bool ((l.length : Int) == 0)) ∧ W' = W := by
  obtain ⟨A, c, rfl, _, _⟩ := R_form h.row
  have hm := meth_len h.box.cell
  clear h
  go_enter Try.func49, Try.ntmps49
  go_wp2
  go_ret
  exact ⟨rfl, rfl⟩
theorem PAt.under {w0 : World} {p : Nat} {u : Value} {l : List S55} {W W' : World} (h : PAt w0 p u l W) (hb : Below W.heap.size W W') : PAt w0 p u l W' :=
  ⟨h.lo, (hb.block p h.box.lt).trans h.box, Kd.R_below h.row hb, below_then h.below h.below.size hb⟩
theorem PAt.ne {w0 : World} {p : Nat} {u : Value} {l : List S55} {W : World} (h : PAt w0 p u l W) : ¬ own u p := Kd.R_ne h.row h.box (by decide)
theorem tight {b : Nat} {ok : Nat → Prop} {u : Value} {l : List S55} {W : World} (h : Kd.R k55 55 W b ok u l) : Kd.R k55 55 W b (own u) u l := Kd.R_tight rfl h
/-- What is written in the row alone. -/
theorem PAt.wrote {w0 : World} {p : Nat} {u : Value} {l l' : List S55} {W W' : World} {ok : Nat → Prop} (h : PAt w0 p u l W) (hr : Kd.R k55 55 W' w0.heap.size ok u l') (hb : Below w0.heap.size w0 W') (hk : Kept W W' (own u)) : PAt w0 p u l' W' :=
  ⟨h.lo, (hk.2 p h.box.lt h.ne).trans h.box, tight hr, hb⟩
theorem less_f (l : List S55) (i j : Nat) (hi : i < l.length) (hj : j < l.length) : ranges_pile_Less.f l (i : Int) (j : Int) = some (decide ((G l i).f0 < (G l j).f0)) := by
  unfold ranges_pile_Less.f
  rw [if_pos (by omega), if_pos (by omega), if_pos (by omega), if_pos (by omega)]
  rfl
theorem swap_f (l : List S55) (i j : Nat) (hi : i < l.length) (hj : j < l.length) : ranges_pile_Swap.f l (i : Int) (j : Int) = some (swap l i j) := by
  unfold ranges_pile_Swap.f
  rw [if_pos (by omega), if_pos (by omega), if_pos (by omega), if_pos (by omega)]
  rfl
def measU (v : Value) : Nat := (intOf v).toNat
end Go.Proofs.Ytbgoaigbkfibbaa.Heap

/- The pile of ranges under the library's heap: what each call does to it. No condition. -/
import Derived.Test.YtfknoaokoncneabDoorPFx0
import Derived.Test.YtfknoaokoncneabDoorPFx2
import Derived.Test.YtfknoaokoncneabDoorWWords
import Derived.Test.YtfknoaokoncneabDoorWMore
import Derived.Test.YtfknoaokoncneabDoorPlS
import Derived.RangeFuncBox
import Derived.Shelf.Abstract
import Derived.Laws.OwnMore
namespace Go.Proofs.YtfknoaokoncneabDoor.Heap
open Go.RowKit Go.Shelf Go.Proofs.YtfknoaokoncneabDoorW.PrintWords Go.Proofs.YtfknoaokoncneabDoorW.PrintLast Go.Proofs.YtfknoaokoncneabDoorW.PrintMore Go.Proofs.YtfknoaokoncneabDoor.PF Go.Proofs.YtfknoaokoncneabDoor.Sets

/-! ### the pile's methods, out of an interface value -/
theorem fLen : Array.find? (fun x => x.name == "Len") Tryd.t44.methods = some { name := "Len", sig := 56, path := #[], func := some (52, false) } := by kernel_rfl
theorem fLess : Array.find? (fun x => x.name == "Less") Tryd.t44.methods = some { name := "Less", sig := 64, path := #[], func := some (53, false) } := by kernel_rfl
theorem fSwap : Array.find? (fun x => x.name == "Swap") Tryd.t44.methods = some { name := "Swap", sig := 59, path := #[], func := some (56, false) } := by kernel_rfl
theorem fPush : Array.find? (fun x => x.name == "Push") Tryd.t44.methods = some { name := "Push", sig := 54, path := #[], func := some (55, true) } := by kernel_rfl
theorem fPop : Array.find? (fun x => x.name == "Pop") Tryd.t44.methods = some { name := "Pop", sig := 61, path := #[], func := some (54, true) } := by kernel_rfl
theorem nilchk (a : Addr) (s1 s2 : ByteArray) (W : World) : (Builtin.ssaWrapNilChk_ #[44] 44 #[.pointer (some a), .string s1, .string s2]).run Tryd.prog W = .ok (.pointer (some a)) W := by rfl
theorem meth_len {p : Nat} {v : Value} {W : World} (hc : W.cell? ⟨p, 0, none⟩ = some v) :
    (method 182 44 (.pointer (some ⟨p, 0, none⟩)) "Len").run Tryd.prog W = .ok (52, v) W := by
  unfold method
  go_simp
  rw [fLen]
  go_simp
  unfold follow receiverAt
  go_simp
  unfold Place.get
  go_simp
  simp only [strVal, nilchk]
  go_simp
theorem meth_less {p : Nat} {v : Value} {W : World} (hc : W.cell? ⟨p, 0, none⟩ = some v) :
    (method 182 44 (.pointer (some ⟨p, 0, none⟩)) "Less").run Tryd.prog W = .ok (53, v) W := by
  unfold method
  go_simp
  rw [fLess]
  go_simp
  unfold follow receiverAt
  go_simp
  unfold Place.get
  go_simp
  simp only [strVal, nilchk]
  go_simp
theorem meth_swap {p : Nat} {v : Value} {W : World} (hc : W.cell? ⟨p, 0, none⟩ = some v) :
    (method 182 44 (.pointer (some ⟨p, 0, none⟩)) "Swap").run Tryd.prog W = .ok (56, v) W := by
  unfold method
  go_simp
  rw [fSwap]
  go_simp
  unfold follow receiverAt
  go_simp
  unfold Place.get
  go_simp
  simp only [strVal, nilchk]
  go_simp
theorem meth_push (p : Nat) (W : World) : (method 182 44 (.pointer (some ⟨p, 0, none⟩)) "Push").run Tryd.prog W = .ok (55, .pointer (some ⟨p, 0, none⟩)) W := by
  unfold method
  go_simp
  rw [fPush]
  go_simp
  unfold follow receiverAt
  go_simp
  unfold Place.get
  go_simp
theorem meth_pop (p : Nat) (W : World) : (method 182 44 (.pointer (some ⟨p, 0, none⟩)) "Pop").run Tryd.prog W = .ok (54, .pointer (some ⟨p, 0, none⟩)) W := by
  unfold method
  go_simp
  rw [fPop]
  go_simp
  unfold follow receiverAt
  go_simp
  unfold Place.get
  go_simp

/-! ### the pile in its box -/
/-- The block of a row's own. -/
def own (u : Value) (k : Nat) : Prop := some k = u.ownBlock
/-- The pile in its box: a row of ranges of the call's own. -/
structure PAt (w0 : World) (p : Nat) (u : Value) (l : List S33) (W : World) : Prop where
  lo : w0.heap.size ≤ p
  box : Boxed W p 45 u
  row : Kd.R k33 33 W w0.heap.size (own u) u l
  below : Below w0.heap.size w0 W
theorem R_form {W : World} {b : Nat} {P : Nat → Prop} {u : Value} {l : List S33} (h : Kd.R k33 33 W b P u l) : ∃ A c, u = .slice A l.length c ∧ l.length ≤ c ∧ Kd.C k33 W A l.length l := Kd.R_reads h
theorem empty_calls (w0 : World) (p : Nat) (u : Value) (l : List S33) (W : World) (h : PAt w0 p u l W) :
    Calls Tryd.prog 27 #[.iface 44 (.pointer (some ⟨p, 0, none⟩))] W fun e W' => e = .returned (.bool ((l.length : Int) == 0)) ∧ W' = W := by
  obtain ⟨A, c, rfl, _, _⟩ := R_form h.row
  have hm := meth_len h.box.cell
  clear h
  go_enter Tryd.func27, Tryd.ntmps27
  go_wp2
  go_ret
  exact ⟨rfl, rfl⟩
theorem PAt.under {w0 : World} {p : Nat} {u : Value} {l : List S33} {W W' : World} (h : PAt w0 p u l W) (hb : Below W.heap.size W W') : PAt w0 p u l W' :=
  ⟨h.lo, (hb.block p h.box.lt).trans h.box, Kd.R_below h.row hb, below_then h.below h.below.size hb⟩
theorem PAt.ne {w0 : World} {p : Nat} {u : Value} {l : List S33} {W : World} (h : PAt w0 p u l W) : ¬ own u p := Kd.R_ne h.row h.box (by decide)
theorem tight {b : Nat} {ok : Nat → Prop} {u : Value} {l : List S33} {W : World} (h : Kd.R k33 33 W b ok u l) : Kd.R k33 33 W b (own u) u l := Kd.R_tight rfl h
/-- What is written in the row alone. -/
theorem PAt.wrote {w0 : World} {p : Nat} {u : Value} {l l' : List S33} {W W' : World} {ok : Nat → Prop} (h : PAt w0 p u l W) (hr : Kd.R k33 33 W' w0.heap.size ok u l') (hb : Below w0.heap.size w0 W') (hk : Kept W W' (own u)) : PAt w0 p u l' W' :=
  ⟨h.lo, (hk.2 p h.box.lt h.ne).trans h.box, tight hr, hb⟩
theorem G_eq (l : List S33) (i : Nat) : rd_T33 l (i : Int) = G l i := rfl
theorem less_f (l : List S33) (i j : Nat) (hi : i < l.length) (hj : j < l.length) : ranges_pile_Less.f l (i : Int) (j : Int) = some (decide ((G l i).f0 < (G l j).f0)) := by
  unfold ranges_pile_Less.f
  rw [if_pos (by omega), if_pos (by omega), if_pos (by omega), if_pos (by omega)]
  rfl
theorem swap_f (l : List S33) (i j : Nat) (hi : i < l.length) (hj : j < l.length) : ranges_pile_Swap.f l (i : Int) (j : Int) = some (swap l i j) := by
  unfold ranges_pile_Swap.f
  rw [if_pos (by omega), if_pos (by omega), if_pos (by omega), if_pos (by omega)]
  rfl
def measU (v : Value) : Nat := (intOf v).toNat
end Go.Proofs.YtfknoaokoncneabDoor.Heap

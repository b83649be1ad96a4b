import Derived.Test.YtlihkebmonfefaaDoorPGx0
import Derived.Test.YtlihkebmonfefaaDoorPGx2
import Derived.Test.YtlihkebmonfefaaDoorWWords
import Derived.Test.YtlihkebmonfefaaDoorWMore
import Derived.Test.YtlihkebmonfefaaDoorPlS
import Derived.RangeFuncBox
import Derived.Shelf.Abstract
import Derived.Laws.OwnMore
/- The pile of ranges under the library's heap: what each call does to it. No condition. -/
namespace Go.Proofs.YtlihkebmonfefaaDoor.Heap
open Go.RowKit Go.Shelf Go.Proofs.YtlihkebmonfefaaDoorW.PrintWords Go.Proofs.YtlihkebmonfefaaDoorW.PrintLast Go.Proofs.YtlihkebmonfefaaDoorW.PrintMore Go.Proofs.YtlihkebmonfefaaDoor.PG Go.Proofs.YtlihkebmonfefaaDoor.Sets
theorem fLen : Array.find? (fun x => x.name == "Len") Tryd.t73.methods = some { name := "Len", sig := 82, path := #[], func := some (72, false) } := by kernel_rfl
theorem fLess : Array.find? (fun x => x.name == "Less") Tryd.t73.methods = some { name := "Less", sig := 58, path := #[], func := some (73, false) } := by kernel_rfl
theorem fSwap : Array.find? (fun x => x.name == "Swap") Tryd.t73.methods = some { name := "Swap", sig := 85, path := #[], func := some (76, false) } := by kernel_rfl
theorem fPush : Array.find? (fun x => x.name == "Push") Tryd.t73.methods = some { name := "Push", sig := 80, path := #[], func := some (75, true) } := by kernel_rfl
theorem fPop : Array.find? (fun x => x.name == "Pop") Tryd.t73.methods = some { name := "Pop", sig := 87, path := #[], func := some (74, true) } := by kernel_rfl
theorem nilchk (a : Addr) (s1 s2 : ByteArray) (W : World) : (Builtin.ssaWrapNilChk_ #[73] 73 #[.pointer (some a), .string s1, .string s2]).run Tryd.prog W = .ok (.pointer (some a)) W := by rfl
theorem meth_len {p : Nat} {v : Value} {W : World} (hc : W.cell? ⟨p, 0, none⟩ = some v) :
  (method 205 73 (.pointer (some ⟨p, 0, none⟩)) "Len").run Tryd.prog W = .ok (72, v) W := by
 unfold method
 go_simp
 rw [fLen]
 go_simp
 unfold follow receiverAt
 go_simp
 unfold Place.get
 go_simp
 simp only [strVal, nilchk]
 go_simp
theorem meth_less {p : Nat} {v : Value} {W : World} (hc : W.cell? ⟨p, 0, none⟩ = some v) :
  (method 205 73 (.pointer (some ⟨p, 0, none⟩)) "Less").run Tryd.prog W = .ok (73, v) W := by
 unfold method
 go_simp
 rw [fLess]
 go_simp
 unfold follow receiverAt
 go_simp
 unfold Place.get
 go_simp
 simp only [strVal, nilchk]
 go_simp
theorem meth_swap {p : Nat} {v : Value} {W : World} (hc : W.cell? ⟨p, 0, none⟩ = some v) :
  (method 205 73 (.pointer (some ⟨p, 0, none⟩)) "Swap").run Tryd.prog W = .ok (76, v) W := by
 unfold method
 go_simp
 rw [fSwap]
 go_simp
 unfold follow receiverAt
 go_simp
 unfold Place.get
 go_simp
 simp only [strVal, nilchk]
 go_simp
theorem meth_push (p : Nat) (W : World) : (method 205 73 (.pointer (some ⟨p, 0, none⟩)) "Push").run Tryd.prog W = .ok (75, .pointer (some ⟨p, 0, none⟩)) W := by
 unfold method
 go_simp
 rw [fPush]
 go_simp
 unfold follow receiverAt
 go_simp
 unfold Place.get
 go_simp
theorem meth_pop (p : Nat) (W : World) : (method 205 73 (.pointer (some ⟨p, 0, none⟩)) "Pop").run Tryd.prog W = .ok (74, .pointer (some ⟨p, 0, none⟩)) W := by
 unfold method
 go_simp
 rw [fPop]
 go_simp
 unfold follow receiverAt
 go_simp
 unfold Place.get
 go_simp
def own (u : Value) (k : Nat) : Prop := some k = u.ownBlock
structure PAt (w0 : World) (p : Nat) (u : Value) (l : List S60) (W : World) : Prop where
 lo : w0.heap.size ≤ p
 box : Boxed W p 74 u
 row : Kd.R k60 60 W w0.heap.size (own u) u l
 below : Below w0.heap.size w0 W
theorem R_form {W : World} {b : Nat} {P : Nat → Prop} {u : Value} {l : List S60} (h : Kd.R k60 60 W b P u l) : ∃ A c, u = .slice A l.length c ∧ l.length ≤ c ∧ Kd.C k60 W A l.length l := Kd.R_reads h
theorem empty_calls (w0 : World) (p : Nat) (u : Value) (l : List S60) (W : World) (h : PAt w0 p u l W) :
  Calls Tryd.prog 51 #[.iface 73 (.pointer (some ⟨p, 0, none⟩))] W fun e W' => e = .returned (.bool ((l.length : Int) == 0)) ∧ W' = W := by
 obtain ⟨A, c, rfl, _, _⟩ := R_form h.row
 have hm := meth_len h.box.cell
 clear h
 go_enter Tryd.func51, Tryd.ntmps51
 go_wp2
 go_ret
 exact ⟨rfl, rfl⟩
theorem PAt.under {w0 : World} {p : Nat} {u : Value} {l : List S60} {W W' : World} (h : PAt w0 p u l W) (hb : Below W.heap.size W W') : PAt w0 p u l W' :=
 ⟨h.lo, (hb.block p h.box.lt).trans h.box, Kd.R_below h.row hb, below_then h.below h.below.size hb⟩
theorem PAt.ne {w0 : World} {p : Nat} {u : Value} {l : List S60} {W : World} (h : PAt w0 p u l W) : ¬ own u p := Kd.R_ne h.row h.box (by decide)
theorem tight {b : Nat} {ok : Nat → Prop} {u : Value} {l : List S60} {W : World} (h : Kd.R k60 60 W b ok u l) : Kd.R k60 60 W b (own u) u l := Kd.R_tight rfl h
theorem PAt.wrote {w0 : World} {p : Nat} {u : Value} {l l' : List S60} {W W' : World} {ok : Nat → Prop} (h : PAt w0 p u l W) (hr : Kd.R k60 60 W' w0.heap.size ok u l') (hb : Below w0.heap.size w0 W') (hk : Kept W W' (own u)) : PAt w0 p u l' W' :=
 ⟨h.lo, (hk.2 p h.box.lt h.ne).trans h.box, tight hr, hb⟩
theorem less_f (l : List S60) (i j : Nat) (hi : i < l.length) (hj : j < l.length) : ranges_pile_Less.f l (i : Int) (j : Int) = some (decide ((G l i).f0 < (G l j).f0)) := by
 unfold ranges_pile_Less.f
 rw [if_pos (by omega), if_pos (by omega), if_pos (by omega), if_pos (by omega)]
 rfl
theorem swap_f (l : List S60) (i j : Nat) (hi : i < l.length) (hj : j < l.length) : ranges_pile_Swap.f l (i : Int) (j : Int) = some (swap l i j) := by
 unfold ranges_pile_Swap.f
 rw [if_pos (by omega), if_pos (by omega), if_pos (by omega), if_pos (by omega)]
 rfl
def measU (v : Value) : Nat := (intOf v).toNat
end Go.Proofs.YtlihkebmonfefaaDoor.Heap
/- The pile of ranges under the library's heap: one goes up. No condition. -/
namespace Go.Proofs.YtlihkebmonfefaaDoor.Heap
open Go.RowKit Go.Shelf Go.Proofs.YtlihkebmonfefaaDoorW.PrintWords Go.Proofs.YtlihkebmonfefaaDoorW.PrintLast Go.Proofs.YtlihkebmonfefaaDoorW.PrintMore Go.Proofs.YtlihkebmonfefaaDoor.PG Go.Proofs.YtlihkebmonfefaaDoor.Sets
set_option maxRecDepth 100000 in
set_option maxHeartbeats 1000000 in
theorem up_calls (w0 : World) (p : Nat) (u : Value) (l : List S60) (j : Nat) (hj : j < l.length) (W : World) (h : PAt w0 p u l W) :
  Calls Tryd.prog 54 #[.iface 73 (.pointer (some ⟨p, 0, none⟩)), .int .i64 (j : Int)] W fun e W' => (∃ v, e = .returned v) ∧ PAt w0 p u (upL l.length l j) W' ∧ Kept W W' (own u) := by
 go_enter Tryd.func54, Tryd.ntmps54
 go_wp2_with fail
 go_loopw [1] (fun vj wr => ∃ (i : Nat) (l' : List S60), vj = .int .i64 (i : Int) ∧ Aside0 (i < l'.length ∧ l'.length = l.length ∧ ∃ f, i < f ∧ upL l.length l j = upL f l' i) ∧ Aside0 (PAt w0 p u l' wr) ∧ Aside0 (Kept W wr (own u)))
  (fun vj _ => measU vj)
 case atStart => exact ⟨j, l, rfl, ⟨hj, rfl, _, hj, rfl⟩, ⟨h⟩, ⟨Kept.refl _ _⟩⟩
 case round =>
  obtain ⟨i, l', rfl, HI, HA, HK⟩ := hrel
  obtain ⟨A, c, rfl, hlc, hC⟩ := R_form HA.out.row
  have hm := Aside0.mk (meth_less HA.out.box.cell)
  have hms := Aside0.mk (meth_swap HA.out.box.cell)
  have HC := Aside0.mk hC
  have HL := Aside0.mk hlc
  obtain ⟨i1, i2, f, hf, i3⟩ := HI.out
  have hlen : l'.length ≤ 9223372036854775807 := hC.2.1
  obtain ⟨g, rfl⟩ : ∃ g, f = g + 1 := ⟨f - 1, by omega⟩
  clear hC hlc HI h hj
  by_cases h0 : i = 0
  ·subst h0
   have HU : Aside0 (upL l.length l j = l') := ⟨by rw [i3, upL, if_pos (.inl rfl)]⟩
   clear i1 i2 i3 hlen hm hms
   go_wp2_with fail
   go_end0
   exact ⟨⟨_, rfl⟩, by rw [HU.out]; exact HA.out, HK.out⟩
  ·have hk : wrap64 ((wrap64 ((i : Int) - 1)).tdiv 2) = (((i - 1) / 2 : Nat) : Int) := by
    rw [show (i : Int) - 1 = ((i - 1 : Nat) : Int) by omega, show wrap64 ((i - 1 : Nat) : Int) = ((i - 1 : Nat) : Int) by unfold wrap64; omega, show Int.tdiv ((i - 1 : Nat) : Int) 2 = (((i - 1) / 2 : Nat) : Int) from rfl]
    unfold wrap64; omega
   have hki : (i - 1) / 2 < i := by omega
   have HX := Aside0.mk i3
   rw [upL] at i3
   have HN : Aside0 (¬ (i - 1) / 2 = i) := ⟨by omega⟩
   generalize (i - 1) / 2 = k at hk hki i3 HN
   have c1 : ((k : Int) == (i : Int)) = false := by rw [beq_eq_false_iff_ne]; omega
   by_cases hlt : (G l' i).f0 < (G l' k).f0
   ·have c2 : decide ((G l' i).f0 < (G l' k).f0) = true := decide_eq_true hlt
    rw [if_neg (fun hh => hh.elim (fun h1 => HN.out h1) (fun h1 => h1 hlt))] at i3
    have HI := Aside0.mk (And.intro i1 (And.intro i2 (And.intro hf (And.intro i3 hki))))
    have hm := hm.out
    clear i1 i2 i3 hf hki hlt HX
    go_wp2_with (first | (go_at_call 73; refine (ranges_pile_Less.calls A c l' _ _ _ wr HC.out HL.out (less_f l' i k HI.out.1 (Nat.lt_trans HI.out.2.2.2.2 HI.out.1))).mono ?_; rintro e W1 ⟨rfl, hd⟩; have HA1 := Aside0.mk (HA.out.under hd.below); have HK1 := Aside0.mk (HK.out.below hd.below); clear HA HK hm hms; have hms := meth_swap HA1.out.box.cell; clear hd) | (go_at_call 76; refine (ranges_pile_Swap.calls (own (.slice A l'.length c)) _ l' _ _ _ w0 _ HA1.out.below HA1.out.row (swap_f l' k i (Nat.lt_trans HI.out.2.2.2.2 HI.out.1) HI.out.1)).mono ?_; rintro e W2 ⟨rfl, hr2, hb2, hk2⟩; have HA2 := Aside0.mk (HA1.out.wrote hr2 hb2 hk2); have HK2 := Aside0.mk (HK1.out.then_ hk2 (fun _ hk => .inl hk)); clear HA1 HK1 hms hr2 hb2 hk2))
    obtain ⟨i1, i2, hf, i3, hki⟩ := HI.out
    constructor
    ·exact ⟨k, swap l' k i, rfl, ⟨by rw [swap_length]; omega, by rw [swap_length]; exact i2, g, by omega, i3⟩, HA2, HK2⟩
    ·unfold measU; simp [intOf]; omega
   ·have c2 : decide ((G l' i).f0 < (G l' k).f0) = false := decide_eq_false hlt
    rw [if_pos (.inr hlt)] at i3
    have HI := Aside0.mk (And.intro i1 (And.intro hki i3))
    have hm := hm.out
    clear i1 i2 i3 hf hki hlt HX hms
    go_wp2_with (go_at_call 73; refine (ranges_pile_Less.calls A c l' _ _ _ wr HC.out HL.out (less_f l' i k HI.out.1 (Nat.lt_trans HI.out.2.1 HI.out.1))).mono ?_; rintro e W1 ⟨rfl, hd⟩; have HA1 := Aside0.mk (HA.out.under hd.below); have HK1 := Aside0.mk (HK.out.below hd.below); clear HA HK hm hd)
    go_end0
    exact ⟨⟨_, rfl⟩, by rw [HI.out.2.2]; exact HA1.out, HK1.out⟩
end Go.Proofs.YtlihkebmonfefaaDoor.Heap
/- The pile of ranges under the library's heap: one is put in. No condition beyond a bound on the pile's length. -/
set_option linter.unusedSimpArgs false
set_option linter.unusedVariables false
set_option linter.unusedSimpArgs false
set_option linter.unusedVariables false
set_option linter.unusedSimpArgs false
set_option linter.unusedVariables false
namespace Go.Proofs.YtlihkebmonfefaaDoor.Heap
open Go.RowKit Go.Shelf Go.Proofs.YtlihkebmonfefaaDoorW.PrintWords Go.Proofs.YtlihkebmonfefaaDoorW.PrintLast Go.Proofs.YtlihkebmonfefaaDoorW.PrintMore Go.Proofs.YtlihkebmonfefaaDoor.PG Go.Proofs.YtlihkebmonfefaaDoor.Sets
theorem assert60 (a b : Value) (W : World) : (Instr.typeAssert (.iface 60 (.agg #[a, b])) 20 60 true).run Tryd.prog W = .ok (.tuple #[.agg #[a, b], .bool true]) W := by
 unfold Instr.typeAssert
 go_simp
set_option maxRecDepth 100000 in
set_option maxHeartbeats 1000000 in
theorem put_calls (w0 : World) (p : Nat) (u : Value) (l : List S60) (r : S60) (hl : l.length < 8796093022208) (W : World) (h : PAt w0 p u l W) :
  Calls Tryd.prog 75 #[.pointer (some ⟨p, 0, none⟩), .iface 60 (.agg #[.int .i64 r.f0, .int .i64 r.f1])] W fun e W' => (∃ v, e = .returned v) ∧ ∃ u', PAt w0 p u' (l ++ [r]) W' ∧ (∀ k, own u' k → own u k ∨ W.heap.size ≤ k) ∧ Kept W W' (fun k => own u k ∨ k = p) := by
 obtain ⟨A, c, rfl, hlc, hC⟩ := R_form h.row
 have hp := h.box.cell
 have hf := h.box.frozen
 have H := Aside0.mk h
 clear h hC
 have ht := assert60 (.int .i64 r.f0) (.int .i64 r.f1) W
 go_enter Tryd.func75, Tryd.ntmps75
 go_wp2_with fail
 have hbel : Below W.heap.size W (W.alloc (.cells #[.int .i64 r.f0, .int .i64 r.f1] 60)).drew := below_drew1 ((Below.refl _ W).alloc (Nat.le_refl _) _)
 have H2 := Aside0.mk (H.out.under hbel)
 have hp0 := H2.out.box.cell
 have hp1 : (W.alloc (.cells #[.int .i64 r.f0, .int .i64 r.f1] 60)).drew.cell? ⟨W.heap.size, 0, none⟩ = some (.int .i64 r.f0) := by
  have e := World.alloc_heap_new W (.cells #[.int .i64 r.f0, .int .i64 r.f1] 60)
  show (W.alloc _).cell? _ = _
  unfold World.cell?
  dsimp only
  rw [e]
  rfl
 have hp2 : (W.alloc (.cells #[.int .i64 r.f0, .int .i64 r.f1] 60)).drew.cell? ⟨W.heap.size, 1, none⟩ = some (.int .i64 r.f1) := by
  have e := World.alloc_heap_new W (.cells #[.int .i64 r.f0, .int .i64 r.f1] 60)
  show (W.alloc _).cell? _ = _
  unfold World.cell?
  dsimp only
  rw [e]
  rfl
 have hsz : (W.alloc (.cells #[.int .i64 r.f0, .int .i64 r.f1] 60)).drew.heap.size = W.heap.size + 1 := by simp
 have HBE := Aside0.mk hbel
 have HSZ := Aside0.mk hsz
 clear hbel hp hf ht hsz
 refine start_ (n := 9) (S := fun w' => w'.cell? ⟨p, 0, none⟩ = some (.slice A l.length c) ∧ w'.cell? ⟨W.heap.size, 0, none⟩ = some (.int .i64 r.f0) ∧ w'.cell? ⟨W.heap.size, 1, none⟩ = some (.int .i64 r.f1)) (ds := [6, 8]) #[false, false, false, false, false, false, false, false, false] (by kernel_rfl) rfl rfl ⟨hp0, hp1, hp2⟩ (fun hHeld => ?_)
 generalize (W.alloc (.cells #[.int .i64 r.f0, .int .i64 r.f1] 60)).drew = W2 at H2 hp0 hp1 hp2 HSZ HBE hHeld ⊢
 refine pq_ (i := 0) (n := 12) (bA 9 1) (by kernel_rfl) ?_
 refine pq_ (i := 1) (n := 13) (bA 9 3) (by kernel_rfl) ?_
 refine pq_ (i := 2) (n := 14) (bA 9 7) (by kernel_rfl) ?_
 refine tq_ (i := 3) (n := 15) (bA 9 15) (by kernel_rfl) hHeld ?_
 refine tq_ (i := 4) (n := 16) (bA 9 31) (by kernel_rfl) hHeld ?_
 refine one_ (i := 5) (N := some 17) (bA 9 63) rfl rfl (by kernel_rfl) (by decide) (fun K hK => ?_)
 refine value_ (w1 := ?_) (v := ?_) (by rfl) rfl ?_ ?_
 rotate_left 2
 ·go_simp
  constructor
  ·rfl
  ·rfl
 refine hK.out _ _ ⟨(World.cell?_alloc_lt _ _ _ H2.out.box.lt).trans hp0, (World.cell?_alloc_lt _ _ _ (by have := HSZ.out; show W.heap.size < _; omega)).trans hp1, (World.cell?_alloc_lt _ _ _ (by have := HSZ.out; show W.heap.size < _; omega)).trans hp2⟩ (fun hHeld => ?_)
 clear hK K
 refine nm_ (n := 17) ?_
 refine last_ (i := 6) (N := some 18) #[true, true, true, true, true, true, true, false, false] rfl rfl (by kernel_rfl) (by decide) (fun K hK => ?_)
 refine Kd.R_append_step k60 (w0 := w0) w0.heap.size (by rfl) (.tmp 15) (.tmp 17) 74 60 (.agg #[(.int .i64 0), (.int .i64 0)]) 16 rfl Tryd.underlying74 info60 rfl (by decide) (by omega) (.slice A l.length c) l r [.int .i64 r.f0, .int .i64 r.f1] (fun _ => True) (fun _ => False) rfl rfl (k60_mkM _ _ _ r) (fun _ hk => hk.elim) (fun _ _ => trivial) (Kd.R_mono H2.out.row (fun _ _ => trivial)) H2.out.below H2.out.below.size (by omega) ?_
 intro v1 w3 ho hb hg hat
 obtain ⟨A1, c1, e1, _, _⟩ := R_form ho
 rw [show (l ++ [r]).length = l.length + 1 by simp] at e1
 subst e1
 have hbox := H2.out.box.kept hg (fun e => H2.out.ne e)
 have hc3 := hbox.cell
 have hf3 := hbox.frozen
 have HB3 := Aside0.mk hbox
 have HO := Aside0.mk ho
 have HW := Aside0.mk (And.intro hb (And.intro hg hat))
 clear ho hb hg hat hbox
 refine hK.out _ _ ?_
 clear hK K
 refine nm_ (n := 18) ?_
 refine pq_ (i := 7) (n := 19) (bA 9 255) (by kernel_rfl) ?_
 refine last_ (i := 8) (N := none) #[true, true, true, true, true, true, true, true, true] rfl rfl (by kernel_rfl) (by decide) (fun K hK => ?_)
 refine skip_ (w1 := ?_) (by rfl) rfl ?_ ?_
 rotate_left
 ·go_simp
  rfl
 refine hK.out _ _ ?_
 clear hK K
 refine done_ (by kernel_rfl) ?_
 try go_wp2
 go_end0
 obtain ⟨hb, hg, hat⟩ := HW.out
 have hne : ¬ own (.slice A1 (l.length + 1) c1) p := Kd.R_ne HO.out HB3.out (by decide)
 refine ⟨⟨_, rfl⟩, _, ⟨H.out.lo, HB3.out.set _, Kd.R_far (p := ⟨p, 0, none⟩) (tight HO.out) (fun k hk e => hne (by cases e; exact hk)) _, below_set hb H.out.lo⟩, fun k hk => ?_, ?_⟩
 ·rcases hat with h1 | ⟨b, h1, h2⟩
  ·exact .inl (hk.trans h1)
  ·have : k = b := Option.some.inj (hk.trans h1)
   have := HSZ.out
   omega
 ·refine Kept.setCell (Kept.of_grown hg (Kept.of_below HBE.out _) (fun k hk => .inl (.inl ?_))) (.inl (.inr rfl)) _
  exact hk.symm
set_option maxRecDepth 100000 in
set_option maxHeartbeats 1000000 in
theorem push_calls (w0 : World) (p : Nat) (u : Value) (l : List S60) (r : S60) (hl : l.length < 8796093022208) (W : World) (h : PAt w0 p u l W) :
  Calls Tryd.prog 50 #[.iface 73 (.pointer (some ⟨p, 0, none⟩)), .iface 60 (.agg #[.int .i64 r.f0, .int .i64 r.f1])] W fun e W' => (∃ v, e = .returned v) ∧ ∃ u', PAt w0 p u' (pushL l r) W' ∧ (∀ k, own u' k → own u k ∨ W.heap.size ≤ k) ∧ Kept W W' (fun k => own u k ∨ k = p) := by
 have hm := meth_push p W
 have h' := Aside0.mk h
 clear h
 go_enter Tryd.func50, Tryd.ntmps50
 go_wp2_with (first | (go_at_call 75; refine (put_calls w0 p u l r hl W h'.out).mono ?_; rintro e W1 ⟨⟨v, rfl⟩, u1, hA, hO, hK⟩; obtain ⟨A1, c1, e1, hc1, hC1⟩ := R_form hA.row; rw [show (l ++ [r]).length = l.length + 1 by simp] at e1; subst e1; have hm1 := meth_len hA.box.cell; have HL := Aside0.mk (ranges_pile_Len.calls A1 c1 (l ++ [r]) _ W1 hC1 hc1 rfl); have HA := Aside0.mk hA; have HO := Aside0.mk (And.intro hO hK); clear hA hO hK hm hc1 hC1; rw [show (l ++ [r]).length = l.length + 1 by simp] at HL) | (go_at_call 72; refine HL.out.mono ?_; rintro e W2 ⟨rfl, hd⟩; have HA2 := Aside0.mk (HA.out.under hd.below); have HD := Aside0.mk hd.below; clear hd HL HA hm1) | (go_at_call 54; refine (up_calls w0 p _ (l ++ [r]) l.length (by simp) W2 HA2.out).mono ?_; rintro e W3 ⟨⟨v3, rfl⟩, hA3, hK3⟩; have HA3 := Aside0.mk hA3; have HK3 := Aside0.mk hK3; clear hA3 hK3))
 go_end0
 have h3 := HA3.out
 rw [show (l ++ [r]).length = l.length + 1 by simp] at h3
 refine ⟨⟨_, rfl⟩, _, h3, HO.out.1, (HO.out.2.below HD.out).then_ HK3.out (fun k hk => ?_)⟩
 rcases HO.out.1 k hk with h1 | h1
 ·exact .inl (.inl h1)
 ·exact .inr h1
end Go.Proofs.YtlihkebmonfefaaDoor.Heap
/- The pile of ranges under the library's heap: one goes down, and the least one is taken. No condition beyond a bound on the pile's length. -/
set_option linter.unusedSimpArgs false
set_option linter.unusedVariables false
namespace Go.Proofs.YtlihkebmonfefaaDoor.Heap
open Go.RowKit Go.Shelf Go.Proofs.YtlihkebmonfefaaDoorW.PrintWords Go.Proofs.YtlihkebmonfefaaDoorW.PrintLast Go.Proofs.YtlihkebmonfefaaDoorW.PrintMore Go.Proofs.YtlihkebmonfefaaDoor.PG Go.Proofs.YtlihkebmonfefaaDoor.Sets
theorem less_at {w0 : World} {p c : Nat} {A : Option Addr} {l : List S60} {W : World} (h : PAt w0 p (.slice A l.length c) l W) (i j : Nat) (hi : i < l.length) (hj : j < l.length) :
  Calls Tryd.prog 73 #[.slice A l.length c, .int .i64 (i : Int), .int .i64 (j : Int)] W fun e W' => e = .returned (.bool (decide ((G l i).f0 < (G l j).f0))) ∧ PAt w0 p (.slice A l.length c) l W' ∧ Below W.heap.size W W' := by
 obtain ⟨_, h1, h2⟩ := Kd.R_reads' h.row
 refine (ranges_pile_Less.calls A c l _ _ _ W h2 h1 (less_f l i j hi hj)).mono ?_
 rintro e W1 ⟨rfl, hd⟩
 exact ⟨rfl, h.under hd.below, hd.below⟩
theorem swap_at {w0 : World} {p c : Nat} {A : Option Addr} {l : List S60} {W : World} (h : PAt w0 p (.slice A l.length c) l W) (i j : Nat) (hi : i < l.length) (hj : j < l.length) :
  Calls Tryd.prog 76 #[.slice A l.length c, .int .i64 (i : Int), .int .i64 (j : Int)] W fun e W' => e = .returned (.tuple #[]) ∧ PAt w0 p (.slice A l.length c) (swap l i j) W' ∧ Kept W W' (own (.slice A l.length c)) := by
 refine (ranges_pile_Swap.calls (own (.slice A l.length c)) _ l _ _ _ w0 _ h.below h.row (swap_f l i j hi hj)).mono ?_
 rintro e W2 ⟨rfl, hr2, hb2, hk2⟩
 exact ⟨rfl, h.wrote hr2 hb2 hk2, hk2⟩
def measN (n : Nat) (v : Value) : Nat := n - (intOf v).toNat
set_option maxRecDepth 100000 in
set_option maxHeartbeats 1000000 in
theorem down_calls (w0 : World) (p : Nat) (u : Value) (l : List S60) (n : Nat) (hn : n ≤ l.length) (h0 : 0 < l.length) (hl : l.length < 8796093022208) (W : World) (h : PAt w0 p u l W) :
  Calls Tryd.prog 55 #[.iface 73 (.pointer (some ⟨p, 0, none⟩)), .int .i64 0, .int .i64 (n : Int)] W fun e W' => (∃ v, e = .returned v) ∧ PAt w0 p u (downL l.length l 0 n) W' ∧ Kept W W' (own u) := by
 go_enter Tryd.func55, Tryd.ntmps55
 go_wp2_with fail
 go_loopw [7, 8, 9, 10] (fun vi _ _ _ wr => ∃ (i : Nat) (l' : List S60), vi = .int .i64 (i : Int) ∧ Aside0 (i < l'.length ∧ l'.length = l.length ∧ ∃ f, n ≤ i + f ∧ downL l.length l 0 n = downL f l' i n) ∧ Aside0 (PAt w0 p u l' wr) ∧ Aside0 (Kept W wr (own u)))
  (fun vi _ _ _ _ => measN l.length vi)
 case atStart => exact ⟨0, l, rfl, ⟨h0, rfl, _, by omega, rfl⟩, ⟨h⟩, ⟨Kept.refl _ _⟩⟩
 case round =>
  obtain ⟨i, l', rfl, HI, HA, HK⟩ := hrel
  obtain ⟨A, c, rfl, hlc, hC⟩ := R_form HA.out.row
  have hm := meth_less HA.out.box.cell
  have hms := meth_swap HA.out.box.cell
  obtain ⟨i1, i2, f, hf, i3⟩ := HI.out
  have hk1 : wrap64 (wrap64 (2 * (i : Int)) + 1) = ((2 * i + 1 : Nat) : Int) := by unfold wrap64; omega
  have hk2 : wrap64 (((2 * i + 1 : Nat) : Int) + 1) = ((2 * i + 2 : Nat) : Int) := by unfold wrap64; omega
  have hd2 : decide (((2 * i + 1 : Nat) : Int) < 0) = false := decide_eq_false (by omega)
  have HI := Aside0.mk (And.intro i1 (And.intro i2 hn))
  clear hlc hC h
  by_cases hx : n ≤ 2 * i + 1
  ·have c1 : decide (n ≤ 2 * i + 1) = true := decide_eq_true (by omega)
   have i3 : downL l.length l 0 n = l' := by
    rw [i3]
    cases f with
    | zero => rfl
    | succ f => rw [downL, if_pos (.inl hx)]
   have HX := Aside0.mk i3
   clear i1 i2 i3 hf hx hn hl h0
   generalize 2 * i + 1 = k1 at hk1 hk2 hd2 c1
   go_wp2_with fail
   go_ret
   exact ⟨⟨_, rfl⟩, by rw [HX.out]; exact HA.out, HK.out⟩
  ·have c1 : decide (n ≤ 2 * i + 1) = false := decide_eq_false (by omega)
   obtain ⟨g, rfl⟩ : ∃ g, f = g + 1 := ⟨f - 1, by omega⟩
   rw [downL] at i3
   have HKB : Aside0 (i < 2 * i + 1 ∧ 2 * i + 1 < 2 * i + 2 ∧ ¬ n ≤ 2 * i + 1) := ⟨by omega, by omega, hx⟩
   clear hx hn hl h0 i1 i2
   by_cases hy : 2 * i + 2 < n
   ·have c3 : decide (2 * i + 2 < n) = true := decide_eq_true (by omega)
    have HK2 : Aside0 (2 * i + 1 < l'.length ∧ 2 * i + 2 < l'.length) := ⟨by have := HI.out; omega, by have := HI.out; omega⟩
    by_cases ha : (G l' (2 * i + 2)).f0 < (G l' (2 * i + 1)).f0
    ·have c4 : decide ((G l' (2 * i + 2)).f0 < (G l' (2 * i + 1)).f0) = true := decide_eq_true ha
     have hkd : kid l' i n = 2 * i + 2 := by unfold kid; rw [if_pos ⟨hy, ha⟩]
     have HY := Aside0.mk hy
     clear hy ha
     generalize 2 * i + 2 = k2 at hk2 hkd HY c3 c4 HKB HK2
     generalize 2 * i + 1 = k1 at hk1 hk2 hd2 c1 c4 HKB HK2 i3
     have hkid : kid l' i n = k2 := hkd
     have HJ : Aside0 (k2 < l'.length) := ⟨HK2.out.2⟩
     rw [hkid] at i3
     by_cases hb : (G l' k2).f0 < (G l' i).f0
     ·have c5 : decide ((G l' k2).f0 < (G l' i).f0) = true := decide_eq_true hb
      rw [if_neg (fun hh => hh.elim (fun h1 => HKB.out.2.2 h1) (fun h1 => h1 hb))] at i3
      have HX := Aside0.mk (And.intro hf i3)
      clear i3 hf hb hkid
      go_wp2_with (first | (go_at_call 73; with_reducible refine (less_at HA.out k2 k1 HK2.out.2 HK2.out.1).mono ?_; rintro e W1 ⟨rfl, hA1, hb1⟩; have HA1 := Aside0.mk hA1; have HK1 := Aside0.mk (HK.out.below hb1); have hm := meth_less hA1.box.cell; have hms := meth_swap hA1.box.cell; clear hA1 hb1) | (go_at_call 73; with_reducible refine (less_at HA1.out k2 i HJ.out HI.out.1).mono ?_; rintro e W2 ⟨rfl, hA2, hb2⟩; have HA2 := Aside0.mk hA2; have HK3 := Aside0.mk (HK1.out.below hb2); have hms2 := meth_swap hA2.box.cell; clear hA2 hb2) | (go_at_call 76; with_reducible refine (swap_at HA2.out i k2 HI.out.1 HJ.out).mono ?_; rintro e W3 ⟨rfl, hA3, hk3⟩; have HA3 := Aside0.mk hA3; have HK4 := Aside0.mk (HK3.out.then_ hk3 (fun _ hk => .inl hk)); clear hA3 hk3))
      obtain ⟨i1, i2, hn⟩ := HI.out
      obtain ⟨hf, i3⟩ := HX.out
      have hkb := HKB.out
      constructor
      ·exact ⟨k2, swap l' i k2, rfl, ⟨by rw [swap_length]; exact HJ.out, by rw [swap_length]; exact i2, g, by omega, i3⟩, HA3, HK4⟩
      ·have := HJ.out; unfold measN; simp [intOf]; omega
     ·have c5 : decide ((G l' k2).f0 < (G l' i).f0) = false := decide_eq_false hb
      rw [if_pos (.inr hb)] at i3
      have HX := Aside0.mk i3
      clear i3 hf hb hkid
      go_wp2_with (first | (go_at_call 73; with_reducible refine (less_at HA.out k2 k1 HK2.out.2 HK2.out.1).mono ?_; rintro e W1 ⟨rfl, hA1, hb1⟩; have HA1 := Aside0.mk hA1; have HK1 := Aside0.mk (HK.out.below hb1); have hm := meth_less hA1.box.cell; have hms := meth_swap hA1.box.cell; clear hA1 hb1) | (go_at_call 73; with_reducible refine (less_at HA1.out k2 i HJ.out HI.out.1).mono ?_; rintro e W2 ⟨rfl, hA2, hb2⟩; have HA2 := Aside0.mk hA2; have HK3 := Aside0.mk (HK1.out.below hb2); have hms2 := meth_swap hA2.box.cell; clear hA2 hb2))
      go_ret
      exact ⟨⟨_, rfl⟩, by rw [HX.out]; exact HA2.out, HK3.out⟩
    ·have c4 : decide ((G l' (2 * i + 2)).f0 < (G l' (2 * i + 1)).f0) = false := decide_eq_false ha
     have hkd : kid l' i n = 2 * i + 1 := by unfold kid; rw [if_neg (fun hh => ha hh.2)]
     clear hy ha
     generalize 2 * i + 2 = k2 at hk2 c3 c4 HKB HK2
     generalize 2 * i + 1 = k1 at hk1 hk2 hd2 c1 c4 HKB HK2 i3 hkd
     have hkid : kid l' i n = k1 := hkd
     have HJ : Aside0 (k1 < l'.length) := ⟨by have := HI.out; have := HKB.out; omega⟩
     rw [hkid] at i3
     by_cases hb : (G l' k1).f0 < (G l' i).f0
     ·have c5 : decide ((G l' k1).f0 < (G l' i).f0) = true := decide_eq_true hb
      rw [if_neg (fun hh => hh.elim (fun h1 => HKB.out.2.2 h1) (fun h1 => h1 hb))] at i3
      have HX := Aside0.mk (And.intro hf i3)
      clear i3 hf hb hkid
      go_wp2_with (first | (go_at_call 73; with_reducible refine (less_at HA.out k2 k1 HK2.out.2 HK2.out.1).mono ?_; rintro e W1 ⟨rfl, hA1, hb1⟩; have HA1 := Aside0.mk hA1; have HK1 := Aside0.mk (HK.out.below hb1); have hm := meth_less hA1.box.cell; have hms := meth_swap hA1.box.cell; clear hA1 hb1) | (go_at_call 73; with_reducible refine (less_at HA1.out k1 i HJ.out HI.out.1).mono ?_; rintro e W2 ⟨rfl, hA2, hb2⟩; have HA2 := Aside0.mk hA2; have HK3 := Aside0.mk (HK1.out.below hb2); have hms2 := meth_swap hA2.box.cell; clear hA2 hb2) | (go_at_call 76; with_reducible refine (swap_at HA2.out i k1 HI.out.1 HJ.out).mono ?_; rintro e W3 ⟨rfl, hA3, hk3⟩; have HA3 := Aside0.mk hA3; have HK4 := Aside0.mk (HK3.out.then_ hk3 (fun _ hk => .inl hk)); clear hA3 hk3))
      obtain ⟨i1, i2, hn⟩ := HI.out
      obtain ⟨hf, i3⟩ := HX.out
      have hkb := HKB.out
      constructor
      ·exact ⟨k1, swap l' i k1, rfl, ⟨by rw [swap_length]; exact HJ.out, by rw [swap_length]; exact i2, g, by omega, i3⟩, HA3, HK4⟩
      ·have := HJ.out; unfold measN; simp [intOf]; omega
     ·have c5 : decide ((G l' k1).f0 < (G l' i).f0) = false := decide_eq_false hb
      rw [if_pos (.inr hb)] at i3
      have HX := Aside0.mk i3
      clear i3 hf hb hkid
      go_wp2_with (first | (go_at_call 73; with_reducible refine (less_at HA.out k2 k1 HK2.out.2 HK2.out.1).mono ?_; rintro e W1 ⟨rfl, hA1, hb1⟩; have HA1 := Aside0.mk hA1; have HK1 := Aside0.mk (HK.out.below hb1); have hm := meth_less hA1.box.cell; have hms := meth_swap hA1.box.cell; clear hA1 hb1) | (go_at_call 73; with_reducible refine (less_at HA1.out k1 i HJ.out HI.out.1).mono ?_; rintro e W2 ⟨rfl, hA2, hb2⟩; have HA2 := Aside0.mk hA2; have HK3 := Aside0.mk (HK1.out.below hb2); have hms2 := meth_swap hA2.box.cell; clear hA2 hb2))
      go_ret
      exact ⟨⟨_, rfl⟩, by rw [HX.out]; exact HA2.out, HK3.out⟩
   ·have c3 : decide (2 * i + 2 < n) = false := decide_eq_false (by omega)
    have hkd : kid l' i n = 2 * i + 1 := by unfold kid; rw [if_neg (fun hh => hy hh.1)]
    clear hy
    generalize 2 * i + 2 = k2 at hk2 c3 HKB
    generalize 2 * i + 1 = k1 at hk1 hk2 hd2 c1 HKB i3 hkd
    have hkid : kid l' i n = k1 := hkd
    have HJ : Aside0 (k1 < l'.length) := ⟨by have := HI.out; have := HKB.out; omega⟩
    rw [hkid] at i3
    by_cases hb : (G l' k1).f0 < (G l' i).f0
    ·have c5 : decide ((G l' k1).f0 < (G l' i).f0) = true := decide_eq_true hb
     rw [if_neg (fun hh => hh.elim (fun h1 => HKB.out.2.2 h1) (fun h1 => h1 hb))] at i3
     have HX := Aside0.mk (And.intro hf i3)
     clear i3 hf hb hkid
     go_wp2_with (first | (go_at_call 73; with_reducible refine (less_at HA.out k1 i HJ.out HI.out.1).mono ?_; rintro e W2 ⟨rfl, hA2, hb2⟩; have HA2 := Aside0.mk hA2; have HK3 := Aside0.mk (HK.out.below hb2); have hms2 := meth_swap hA2.box.cell; clear hA2 hb2) | (go_at_call 76; with_reducible refine (swap_at HA2.out i k1 HI.out.1 HJ.out).mono ?_; rintro e W3 ⟨rfl, hA3, hk3⟩; have HA3 := Aside0.mk hA3; have HK4 := Aside0.mk (HK3.out.then_ hk3 (fun _ hk => .inl hk)); clear hA3 hk3))
     obtain ⟨i1, i2, hn⟩ := HI.out
     obtain ⟨hf, i3⟩ := HX.out
     have hkb := HKB.out
     constructor
     ·exact ⟨k1, swap l' i k1, rfl, ⟨by rw [swap_length]; exact HJ.out, by rw [swap_length]; exact i2, g, by omega, i3⟩, HA3, HK4⟩
     ·have := HJ.out; unfold measN; simp [intOf]; omega
    ·have c5 : decide ((G l' k1).f0 < (G l' i).f0) = false := decide_eq_false hb
     rw [if_pos (.inr hb)] at i3
     have HX := Aside0.mk i3
     clear i3 hf hb hkid
     go_wp2_with (first | (go_at_call 73; with_reducible refine (less_at HA.out k1 i HJ.out HI.out.1).mono ?_; rintro e W2 ⟨rfl, hA2, hb2⟩; have HA2 := Aside0.mk hA2; have HK3 := Aside0.mk (HK.out.below hb2); have hms2 := meth_swap hA2.box.cell; clear hA2 hb2))
     go_ret
     exact ⟨⟨_, rfl⟩, by rw [HX.out]; exact HA2.out, HK3.out⟩
end Go.Proofs.YtlihkebmonfefaaDoor.Heap
/- The pile of ranges under the library's heap: the least one is taken. No condition beyond a bound on the pile's length. -/
set_option linter.unusedSimpArgs false
set_option linter.unusedVariables false
namespace Go.Proofs.YtlihkebmonfefaaDoor.Heap
open Go.RowKit Go.Shelf Go.Proofs.YtlihkebmonfefaaDoorW.PrintWords Go.Proofs.YtlihkebmonfefaaDoorW.PrintLast Go.Proofs.YtlihkebmonfefaaDoorW.PrintMore Go.Proofs.YtlihkebmonfefaaDoor.PG Go.Proofs.YtlihkebmonfefaaDoor.Sets
set_option maxRecDepth 100000 in
set_option maxHeartbeats 400000 in
theorem cut_calls (w0 : World) (p : Nat) (u : Value) (l : List S60) (h0 : 0 < l.length) (W : World) (h : PAt w0 p u l W) :
  Calls Tryd.prog 74 #[.pointer (some ⟨p, 0, none⟩)] W fun e W' => (∃ v, e = .returned v) ∧ ∃ u', PAt w0 p u' (l.take (l.length - 1)) W' ∧ (∀ k, own u' k → own u k) ∧ Kept W W' (fun k => k = p) := by
 obtain ⟨A, c, rfl, hlc, hC⟩ := R_form h.row
 have hp := h.box.cell
 have hf := h.box.frozen
 obtain ⟨n, hn⟩ : ∃ n, l.length = n + 1 := ⟨l.length - 1, by omega⟩
 have hlen : l.length ≤ 9223372036854775807 := hC.2.1
 have p1 : 0 ≤ (n : Int) := by omega
 have q1 : (n : Int) < (l.length : Int) := by omega
 obtain ⟨ad, rfl, hx0, hx1⟩ := at_T60 hC (n : Int) p1 q1
 have H := Aside0.mk h
 have HN := Aside0.mk hn
 have HL := Aside0.mk hlc
 have hw : wrap64 ((l.length : Int) - 1) = (n : Int) := by unfold wrap64; omega
 simp only [Int.toNat_natCast] at hx0 hx1
 replace p1 := eq_true p1
 replace q1 := eq_true q1
 have hbel : Below W.heap.size W (W.alloc (.cells #[.int .i64 (rd_T60 l (n : Int)).f0, .int .i64 (rd_T60 l (n : Int)).f1] 60)) := (Below.refl _ W).alloc (Nat.le_refl _) _
 have H1 := Aside0.mk (h.under hbel)
 have hp1 := H1.out.box.cell
 have hf1 := H1.out.box.frozen
 have hpn : p ≠ W.heap.size := fun e => by have := h.box.lt; omega
 have hq0 : ∀ v, ((W.alloc (.cells #[.int .i64 (rd_T60 l (n : Int)).f0, .int .i64 (rd_T60 l (n : Int)).f1] 60)).setCell ⟨p, 0, none⟩ v).heap[W.heap.size]? = some (.cells #[.int .i64 (rd_T60 l (n : Int)).f0, .int .i64 (rd_T60 l (n : Int)).f1] 60) := fun v => by
  rw [Below.heap_setCell _ _ _ _ (fun e => hpn e.symm)]
  exact World.alloc_heap_new W _
 have hq1 : ∀ v, ((W.alloc (.cells #[.int .i64 (rd_T60 l (n : Int)).f0, .int .i64 (rd_T60 l (n : Int)).f1] 60)).setCell ⟨p, 0, none⟩ v).cell? ⟨W.heap.size, 0, none⟩ = some (.int .i64 (rd_T60 l (n : Int)).f0) := fun v => by
  have e := hq0 v
  unfold World.cell?
  dsimp only
  rw [e]
  rfl
 have hq2 : ∀ v, ((W.alloc (.cells #[.int .i64 (rd_T60 l (n : Int)).f0, .int .i64 (rd_T60 l (n : Int)).f1] 60)).setCell ⟨p, 0, none⟩ v).cell? ⟨W.heap.size, 1, none⟩ = some (.int .i64 (rd_T60 l (n : Int)).f1) := fun v => by
  have e := hq0 v
  unfold World.cell?
  dsimp only
  rw [e]
  rfl
 have hnc : (n : Int) ≤ (c : Int) := by omega
 replace hnc := eq_true hnc
 have HB := Aside0.mk hbel
 clear h hC hn hlc hlen hq0 hbel
 go_enter Tryd.func74, Tryd.ntmps74
 go_wp2_with fail
 go_ret
 have hk : n = l.length - 1 := by have := HN.out; omega
 have hr := Kd.R_take (m := n) H1.out.row (by have := HN.out; omega)
 rw [← hk]
 exact ⟨⟨_, rfl⟩, _, ⟨H1.out.lo, H1.out.box.set _, tight (Kd.R_far (p := ⟨p, 0, none⟩) hr (fun k hk e => H1.out.ne (by cases e; exact hk)) _), below_set H1.out.below H1.out.lo⟩, fun k hk => hk, Kept.setCell (S := fun k => k = p) (p := ⟨p, 0, none⟩) (Kept.of_below HB.out _) (.inl rfl) _⟩
theorem downL_len (f : Nat) : ∀ (l : List S60) (i n : Nat), (downL f l i n).length = l.length := by
 induction f with
 | zero => intro l i n; rfl
 | succ f ih =>
  intro l i n
  rw [downL]
  split
  ·rfl
  ·rw [ih, swap_length]
theorem swap0_at {w0 : World} {p c : Nat} {A : Option Addr} {l : List S60} {W : World} (h : PAt w0 p (.slice A l.length c) l W) (j : Nat) (hi : 0 < l.length) (hj : j < l.length) :
  Calls Tryd.prog 76 #[.slice A l.length c, .int .i64 0, .int .i64 (j : Int)] W fun e W' => e = .returned (.tuple #[]) ∧ PAt w0 p (.slice A l.length c) (swap l 0 j) W' ∧ Kept W W' (own (.slice A l.length c)) := swap_at h 0 j hi hj
set_option maxRecDepth 100000 in
set_option maxHeartbeats 1000000 in
theorem pop_calls (w0 : World) (p : Nat) (u : Value) (l : List S60) (h0 : 0 < l.length) (hl : l.length < 8796093022208) (W : World) (h : PAt w0 p u l W) :
  Calls Tryd.prog 52 #[.iface 73 (.pointer (some ⟨p, 0, none⟩))] W fun e W' => (∃ v, e = .returned v) ∧ ∃ u', PAt w0 p u' (popL l) W' ∧ (∀ k, own u' k → own u k) ∧ Kept W W' (fun k => own u k ∨ k = p) := by
 obtain ⟨A, c, rfl, hlc, hC⟩ := R_form h.row
 have hm := meth_len h.box.cell
 obtain ⟨n, hn⟩ : ∃ n, l.length = n + 1 := ⟨l.length - 1, by omega⟩
 have hw : wrap64 ((l.length : Int) - 1) = (n : Int) := by unfold wrap64; omega
 have HN := Aside0.mk (And.intro hn (And.intro h0 hl))
 have HL := Aside0.mk (ranges_pile_Len.calls A c l _ W hC hlc rfl)
 have HA := Aside0.mk h
 clear h hC hlc hn h0 hl
 go_enter Tryd.func52, Tryd.ntmps52
 go_wp2_with (first | (go_at_call 72; with_reducible refine HL.out.mono ?_; rintro e W1 ⟨rfl, hd⟩; have HA1 := Aside0.mk (HA.out.under hd.below); have HB1 := Aside0.mk hd.below; have hm1 := meth_swap HA1.out.box.cell; clear hd hm HL) | (go_at_call 76; with_reducible refine (swap0_at HA1.out n HN.out.2.1 (by have := HN.out; omega)).mono ?_; rintro e W2 ⟨rfl, hA2, hk2⟩; have HA2 := Aside0.mk hA2; have HK2 := Aside0.mk hk2; clear hA2 hk2 hm1) | (go_at_call 55; with_reducible refine (down_calls w0 p _ (swap l 0 n) n (by rw [swap_length]; have := HN.out; omega) (by rw [swap_length]; exact HN.out.2.1) (by rw [swap_length]; exact HN.out.2.2) _ HA2.out).mono ?_; rintro e W3 ⟨⟨v3, rfl⟩, hA3, hk3⟩; rw [swap_length] at hA3; have HA3 := Aside0.mk hA3; have HK3 := Aside0.mk hk3; clear hA3 hk3; have hm3 := meth_pop p W3) | (go_at_call 74; with_reducible refine (cut_calls w0 p _ (downL l.length (swap l 0 n) 0 n) (by rw [downL_len, swap_length]; exact HN.out.2.1) W3 HA3.out).mono ?_; rintro e W4 ⟨⟨v4, rfl⟩, u4, hA4, ho4, hk4⟩; have HA4 := Aside0.mk hA4; have HK4 := Aside0.mk (And.intro ho4 hk4); clear hA4 ho4 hk4 hm3))
 go_ret
 obtain ⟨hn, h0, hl⟩ := HN.out
 have h4 := HA4.out
 rw [downL_len, swap_length] at h4
 refine ⟨⟨_, rfl⟩, _, ?_, HK4.out.1, ?_⟩
 ·rw [popL]
  rw [show l.length - 1 = n by omega] at h4 ⊢
  exact h4
 ·exact (((Kept.of_below HB1.out _).then_ HK2.out (fun k hk => .inl (.inl hk))).then_ HK3.out (fun k hk => .inl (.inl hk))).then_ HK4.out.2 (fun k hk => .inl (.inr hk))
end Go.Proofs.YtlihkebmonfefaaDoor.Heap
/- The set of any ranges: what ranges.Of makes. No condition beyond a bound on how many ranges there are. -/
set_option linter.unusedSimpArgs false
set_option linter.unusedVariables false
namespace Go.Proofs.YtlihkebmonfefaaDoor.HandOf
open Go.RowKit Go.Shelf Go.Proofs.YtlihkebmonfefaaDoorW.PrintWords Go.Proofs.YtlihkebmonfefaaDoorW.PrintLast Go.Proofs.YtlihkebmonfefaaDoorW.PrintMore Go.Proofs.YtlihkebmonfefaaDoor.PG Go.Proofs.YtlihkebmonfefaaDoor.Sets Go.Proofs.YtlihkebmonfefaaDoor.Heap
attribute [local go_sem] max2_int min2_int max_two min_two max_three min_three max_four min_four   -- for this text's walks alone
theorem start_row (w : World) : Kd.R k60 60 (w.alloc (.cells #[] 60)) w.heap.size (own (.slice (some ⟨w.heap.size, 0, none⟩) 0 0)) (.slice (some ⟨w.heap.size, 0, none⟩) 0 0) [] :=
 ⟨fun k hk => hk.symm, [], World.ownsRow_lit w #[] 0 (Nat.le_refl _) (by unfold maxLen; omega) rfl, Reps.none _ _⟩
theorem start_at (w : World) : PAt w (w.heap.size + 1) (.slice (some ⟨w.heap.size, 0, none⟩) 0 0) [] ((w.alloc (.cells #[] 60)).alloc (.cells #[.slice (some ⟨w.heap.size, 0, none⟩) 0 0] 74)) := by
 refine ⟨by omega, ?_, Kd.R_alloc (start_row w) _, ((Below.refl _ w).alloc (Nat.le_refl _) _).alloc (by simp) _⟩
 have := Boxed.new (w.alloc (.cells #[] 60)) 74 (.slice (some ⟨w.heap.size, 0, none⟩) 0 0)
 rwa [World.size_alloc] at this
theorem upL_len (f : Nat) : ∀ (l : List S60) (j : Nat), (upL f l j).length = l.length := by
 induction f with
 | zero => intro l j; rfl
 | succ f ih =>
  intro l j
  rw [upL]
  split
  ·rfl
  ·rw [ih, swap_length]
theorem pushL_len (l : List S60) (r : S60) : (pushL l r).length = l.length + 1 := by rw [pushL, upL_len]; simp
theorem popL_len (l : List S60) : (popL l).length = l.length - 1 := by rw [popL, List.length_take, downL_len, swap_length]; omega
theorem drop_G (l : List S60) (j : Nat) (h : j < l.length) : l.drop j = G l j :: l.drop (j + 1) := by
 rw [List.drop_eq_getElem_cons h, G, List.getD_eq_getElem?_getD, List.getElem?_eq_getElem h]
 rfl
theorem fillL_cons (x : S60) (l p : List S60) : fillL (x :: l) p = fillL l (if (clamp x).f0 ≤ (clamp x).f1 then pushL p (clamp x) else p) := rfl
theorem head_at {w0 : World} {p : Nat} {u : Value} {q : List S60} {W : World} (h : PAt w0 p u q W) (h0 : 0 < q.length) :
  ∃ g c, u = .slice (some ⟨g, 0, none⟩) q.length c ∧ W.cell? ⟨g, 0, none⟩ = some (.int .i64 (G q 0).f0) ∧ W.cell? ⟨g, 1, none⟩ = some (.int .i64 (G q 0).f1) := by
 obtain ⟨g, c, rfl, _⟩ := Kd.R_form h.row h0
 obtain ⟨ce, _, hM, hcc, _⟩ := Kd.R_elem h.row z60 0 (Int.le_refl _) (by omega)
 obtain rfl := k60_openM hM
 exact ⟨g, c, rfl, hcc 0 _ rfl, hcc 1 _ rfl⟩
theorem last_at {b : Nat} {ok : Nat → Prop} {g c m : Nat} {o : List S60} {W : World} (h : Kd.R k60 60 W b ok (.slice (some ⟨g, 0, none⟩) o.length c) o) (hm : o.length = m + 1) :
  W.cell? ⟨g, m * 2 + 1, none⟩ = some (.int .i64 (G o m).f1) ∧ W.frozen? ⟨g, m * 2 + 1, none⟩ = false ∧
  ∀ x : Int, Kd.R k60 60 (W.setCell ⟨g, m * 2 + 1, none⟩ (.int .i64 x)) b ok (.slice (some ⟨g, 0, none⟩) o.length c) (o.set m ⟨(G o m).f0, x⟩) := by
 obtain ⟨ce, hcl, hM, hcc, hfr⟩ := Kd.R_elem h z60 (m : Int) (by omega) (by omega)
 obtain rfl := k60_openM hM
 refine ⟨hcc 1 _ rfl, hfr 1, fun x => ?_⟩
 exact (Kd.R_seg h (m : Int) (by omega) (by omega) (seg := [.int .i64 x]) (j := 1) hcl hcc (show 1 + 1 ≤ 2 by decide) (x' := ⟨(G o m).f0, x⟩) (k60_mkM _ _ _ ⟨(G o m).f0, x⟩) (fun _ hk => hk)).1
theorem after_pop {w0 : World} {p : Nat} {u v : Value} {q o : List S60} {W W2 : World} {a b : Value} (h : PAt w0 p u q W) (ho : Kd.R k60 60 W w0.heap.size (own v) v o) (hd : ∀ k, own u k → ¬ own v k)
  (hk : Kept (W.alloc (.cells #[a, b] 60)) W2 (fun k => own u k ∨ k = p)) :
  Kd.R k60 60 W2 w0.heap.size (own v) v o ∧ W2.cell? ⟨W.heap.size, 0, none⟩ = some a ∧ W2.cell? ⟨W.heap.size, 1, none⟩ = some b := by
 have hne : ¬ own v p := Kd.R_ne ho h.box (by decide)
 refine ⟨Kd.R_kept (Kd.R_alloc ho _) hk (fun k k1 k2 => ?_), ?_⟩
 ·rcases k2 with k2 | rfl
  ·exact hd k k2 k1
  ·exact hne k1
 ·have e : W2.heap[W.heap.size]? = some (.cells #[a, b] 60) := by
   refine (hk.2 W.heap.size (by simp) ?_).trans (World.alloc_heap_new W _)
   rintro (k1 | k1)
   ·have := Kd.R_lt h.row _ k1.symm; omega
   ·have := h.box.lt; omega
  exact ⟨by unfold World.cell?; dsimp only; rw [e]; rfl, by unfold World.cell?; dsimp only; rw [e]; rfl⟩
theorem grown_at {w0 : World} {p : Nat} {u v : Value} {l : List S60} {W W' : World} (h : PAt w0 p u l W) (hg : W.grownBy W' v.ownBlock) (hp : ¬ own v p) (hd : ∀ k, own u k → ¬ own v k) (hb : Below w0.heap.size w0 W') : PAt w0 p u l W' :=
 ⟨h.lo, h.box.kept hg (fun e => hp e), Kd.R_grown h.row hg (fun k hk e => hd k hk e), hb⟩
theorem set_at {w0 : World} {p g i : Nat} {u v : Value} {l : List S60} {W : World} (h : PAt w0 p u l W) (hg0 : w0.heap.size ≤ g) (hp : p ≠ g) (hd : ¬ own u g) : PAt w0 p u l (W.setCell ⟨g, i, none⟩ v) :=
 ⟨h.lo, (Below.heap_setCell _ _ _ _ (show p ≠ g from hp)).trans h.box, Kd.R_far (p := ⟨g, i, none⟩) h.row (fun k hk e => hd (by cases e; exact hk)) _, below_set h.below hg0⟩
def measJ (n : Nat) (v : Value) : Nat := n - (intOf v).toNat
def measW (p : Nat) (w : World) : Nat := match w.cell? ⟨p, 0, none⟩ with | some (.slice _ n _) => n | _ => 0
structure Two (l0 q o : List S60) : Prop where
 len : q.length + o.length ≤ l0.length
 qok : ∀ x, x ∈ q → Ok x
 ook : ∀ x, x ∈ o → Ok x
 heap : Hp q q.length
 rt : Rt 0 o
 le : ∀ x, x ∈ o → ∀ y, y ∈ q → x.f0 ≤ y.f0
 run : ∃ f, q.length ≤ f ∧ ofL l0 = Sets.drain f q o
theorem mergeL_len (o : List S60) (r : S60) : (mergeL o r).length ≤ o.length + 1 := by
 unfold mergeL
 split <;> simp
theorem Two.next {l0 q o : List S60} (h : Two l0 q o) (h0 : 0 < q.length) : Two l0 (popL q) (mergeL o (G q 0)) := by
 obtain ⟨h1, h2, h3, h4, h5, h6, f, h7, h8⟩ := h
 obtain ⟨p1, p2, p3⟩ := popL_spec q h4 h0
 have g0 : G q 0 ∈ q := (mem_G q _).mpr ⟨0, h0, rfl⟩
 obtain ⟨m1, m2, m3, m4⟩ := mergeL_spec o (G q 0) h5 h3 (h2 _ g0) (fun x hx => h6 x hx _ g0)
 obtain ⟨g, rfl⟩ : ∃ g, f = g + 1 := ⟨f - 1, by omega⟩
 refine ⟨?_, fun x hx => h2 x ((p3 x).mpr (.inr hx)), m2, p1, m1, fun x hx y hy => ?_, g, ?_, ?_⟩
 ·have := mergeL_len o (G q 0); rw [p2]; omega
 ·have := m3 x hx
  obtain ⟨i, i1, i2⟩ := (mem_G q y).mp ((p3 y).mpr (.inr hy))
  have := h4.root i i1
  rw [i2] at this
  omega
 ·rw [p2]; omega
 ·rw [h8, Sets.drain, if_neg (by omega)]
theorem Two.start (l0 : List S60) (hl : (fillL l0 []).length ≤ l0.length) : Two l0 (fillL l0 []) [] := by
 obtain ⟨f1, f2, f3⟩ := fillL_spec l0 [] (fun k _ h => absurd h (Nat.not_lt_zero _)) (fun x hx => absurd hx (by simp))
 exact ⟨by simpa using hl, f2, fun x hx => absurd hx (by simp), f1, trivial, fun x hx => absurd hx (by simp), _, Nat.le_refl _, rfl⟩
set_option maxRecDepth 100000 in
set_option maxHeartbeats 1000000 in
theorem of_calls (A0 : Option Addr) (c0 : Nat) (l0 : List S60) (w : World) (hl : l0.length < 8796093022208) (hr0 : Kd.C k60 w A0 l0.length l0) (hc0 : l0.length ≤ c0) :
  Calls Tryd.prog 45 #[.slice A0 l0.length c0] w fun e w' => ∃ v0_ : Value, e = .returned v0_ ∧ Kd.R k60 60 w' w.heap.size (fun _ => True) v0_ (ofL l0) ∧ Below w.heap.size w w' := by
 have HR := Aside0.mk hr0
 have HC := Aside0.mk hc0
 have HL := Aside0.mk hl
 clear hr0 hc0 hl
 go_enter Tryd.func45, Tryd.ntmps45
 go_wp2_with fail
 go_loopw [13] (fun vj wr => ∃ (j : Nat) (u : Value) (q : List S60), vj = .int .i64 (j : Int) ∧ Aside0 (j ≤ l0.length ∧ q.length ≤ j ∧ fillL l0 [] = fillL (l0.drop j) q) ∧ Aside0 (PAt w (w.heap.size + 1) u q wr))
  (fun vj _ => measJ l0.length vj)
 case atStart => exact ⟨0, _, [], rfl, ⟨by omega, by simp, rfl⟩, ⟨start_at w⟩⟩
 case round =>
  obtain ⟨j, u, q, rfl, HJ, HA⟩ := hrel
  by_cases hj : j < l0.length
  ·have hC := Kd.C_below HR.out HA.out.below
   have p1 : 0 ≤ (j : Int) := by omega
   have q1 : (j : Int) < (l0.length : Int) := by omega
   obtain ⟨ad, e1, hx0, hx1⟩ := at_T60 hC (j : Int) p1 q1
   simp only [Int.toNat_natCast] at hx0 hx1
   subst e1
   have c1 : decide (j < l0.length) = true := decide_eq_true hj
   have hj1 : wrap64 ((j : Int) + 1) = ((j + 1 : Nat) : Int) := by have := HL.out; unfold wrap64; omega
   obtain ⟨a, ha⟩ : ∃ a, a = max (rd_T60 l0 (j : Int)).f0 0 := ⟨_, rfl⟩
   obtain ⟨b, hb⟩ : ∃ b, b = min (rd_T60 l0 (j : Int)).f1 1114111 := ⟨_, rfl⟩
   have hmx : (if (rd_T60 l0 (j : Int)).f0 < 0 then 0 else (rd_T60 l0 (j : Int)).f0) = a := by rw [ha]; split <;> omega
   have hmn : (if 1114111 < (rd_T60 l0 (j : Int)).f1 then 1114111 else (rd_T60 l0 (j : Int)).f1) = b := by rw [hb]; split <;> omega
   have hcl : clamp (G l0 j) = ⟨a, b⟩ := by rw [ha, hb]; rfl
   obtain ⟨j1, j2, j3⟩ := HJ.out
   rw [drop_G l0 j hj, fillL_cons, hcl] at j3
   replace p1 := eq_true p1
   replace q1 := eq_true q1
   clear HJ
   by_cases hab : a ≤ b
   ·have c2 : decide (a ≤ b) = true := decide_eq_true hab
    rw [if_pos hab] at j3
    have HJ := Aside0.mk (And.intro hj (And.intro j2 j3))
    clear hj hC j1 j2 j3 ha hb hcl hab
    go_wp2_with (go_at_call 50; with_reducible refine (push_calls w (w.heap.size + 1) u q ⟨a, b⟩ (by have := HJ.out; have := HL.out; omega) _ (HA.out.under ((Below.refl _ wr).alloc (Nat.le_refl _) _))).mono ?_; rintro e W1 ⟨⟨v1, rfl⟩, u1, hA1, _, _⟩; have HA1 := Aside0.mk hA1; clear hA1)
    obtain ⟨hj, j2, j3⟩ := HJ.out
    constructor
    ·exact ⟨j + 1, u1, _, congrArg (Value.int .i64) hj1, ⟨by omega, by rw [pushL_len]; omega, j3⟩, HA1⟩
    ·rw [hj1]; unfold measJ; simp [intOf]; omega
   ·have c2 : decide (a ≤ b) = false := decide_eq_false hab
    rw [if_neg hab] at j3
    have HJ := Aside0.mk (And.intro hj (And.intro j2 j3))
    clear hj hC j1 j2 j3 ha hb hcl hab
    go_wp2_with fail
    obtain ⟨hj, j2, j3⟩ := HJ.out
    constructor
    ·exact ⟨j + 1, u, _, congrArg (Value.int .i64) hj1, ⟨by omega, by omega, j3⟩, ⟨HA.out.under ((Below.refl _ wr).alloc (Nat.le_refl _) _)⟩⟩
    ·rw [hj1]; unfold measJ; simp [intOf]; omega
  ·have c1 : decide (j < l0.length) = false := decide_eq_false hj
   obtain ⟨j1, j2, j3⟩ := HJ.out
   rw [List.drop_of_length_le (by omega)] at j3
   have e2 : fillL l0 [] = q := j3
   have HT := Aside0.mk (Two.start l0 (by rw [e2]; omega))
   rw [e2] at HT
   clear HJ hj j1 j2 j3 e2
   go_wp2_with fail
   go_loopw [6] (fun v6 wr => ∃ (u : Value) (q o : List S60), Aside0 (Two l0 q o) ∧ Aside0 (PAt w (w.heap.size + 1) u q wr) ∧ Aside0 (Kd.R k60 60 wr w.heap.size (own v6) v6 o) ∧ Aside0 (∀ k, own u k → ¬ own v6 k))
    (fun _ wr => measW (w.heap.size + 1) wr)
   case atStart => exact ⟨u, q, [], HT, HA, ⟨Kd.R_nil _ _ _ _ _⟩, ⟨fun k _ hk => by cases hk⟩⟩
   case round =>
    obtain ⟨u2, q2, o, HT2, HA2, HO, HD⟩ := hrel
    clear HA HT
    by_cases hq : q2.length = 0
    ·have c3 : ((q2.length : Int) == 0) = true := by rw [hq]; rfl
     have HX : Aside0 (ofL l0 = o) := ⟨by
      obtain ⟨f, f1, f2⟩ := HT2.out.run
      rw [f2]
      cases f with
      | zero => rfl
      | succ f => rw [Sets.drain, if_pos hq]⟩
     clear hq
     go_wp2_with (go_at_call 51; with_reducible refine (empty_calls w _ _ q2 wr HA2.out).mono ?_; rintro e W1 ⟨rfl, hW⟩; obtain rfl := hW.symm)
     go_ret
     exact ⟨_, rfl, by rw [HX.out]; exact Kd.R_mono HO.out (fun _ _ => trivial), HA2.out.below⟩
    ·have c3 : ((q2.length : Int) == 0) = false := by rw [beq_eq_false_iff_ne]; omega
     have h0 : 0 < q2.length := by omega
     obtain ⟨g2, c2, rfl, hx0, hx1⟩ := head_at HA2.out h0
     have hp := HA2.out.box.cell
     have HQ : Aside0 (0 < q2.length ∧ q2.length < 8796093022208) := ⟨h0, by have := HT2.out.len; have := HL.out; omega⟩
     have q1 : (0 < q2.length) = True := eq_true h0
     have HM : Aside0 (measW (w.heap.size + 1) wr = q2.length) := ⟨by unfold measW; rw [hp]⟩
     have HN := Aside0.mk (HT2.out.next h0)
     clear hq h0
     cases hm : o.length with
     | zero =>
      obtain rfl : o = [] := List.length_eq_zero_iff.mp hm
      obtain ⟨Ao, co, rfl, _, _⟩ := R_form HO.out
      clear hm
      go_wp2_with (first | (go_at_call 51; with_reducible refine (empty_calls w _ _ q2 wr HA2.out).mono ?_; rintro e W1 ⟨rfl, hW⟩; obtain rfl := hW.symm) | (go_at_call 52; with_reducible refine (pop_calls w _ _ q2 HQ.out.1 HQ.out.2 _ (HA2.out.under ((Below.refl _ _).alloc (Nat.le_refl _) _))).mono ?_; rintro e W2 ⟨⟨v_, rfl⟩, u3, hA3, ho3, hk3⟩; obtain ⟨hO2, hr0, hr1⟩ := after_pop HA2.out HO.out HD.out hk3; have HA3 := Aside0.mk hA3; have HO2 := Aside0.mk hO2; have HD3 := Aside0.mk (fun k hk => HD.out k (ho3 k hk)); clear hA3 hO2 ho3 hk3; skip))
      go_quiet (fail)
      have hA4 := HA3.out.under (pw_below_drewN (Below.refl _ W2) nq)
      have hO4 := Kd.R_drewN HO2.out nq
      have hr4 : (W2.drewN nq).cell? ⟨wr.heap.size, 0, none⟩ = some (.int .i64 (G q2 0).f0) := hr0
      have hr5 : (W2.drewN nq).cell? ⟨wr.heap.size, 1, none⟩ = some (.int .i64 (G q2 0).f1) := hr1
      clear HA3 HO2 hr0 hr1
      generalize W2.drewN nq = W3 at hA4 hO4 hr4 hr5 ⊢
      have HA3 := Aside0.mk hA4
      have HO2 := Aside0.mk hO4
      clear hA4 hO4
      go_wp2_with ((with_reducible refine gate_builtin (b := .append) (xs := #[.tmp 75, .tmp 77]) rfl ?_); (try (refine gate_guard (by rfl) ?_; dsimp only)); at_builtin; refine Kd.R_append k60 (w0 := w) w.heap.size rfl (.tmp 75) (.tmp 77) 44 60 (.agg #[(.int .i64 0), (.int .i64 0)]) 16 rfl Tryd.underlying44 info60 rfl (by decide) (by omega) (.slice Ao 0 co) [] (G q2 0) [.int .i64 (G q2 0).f0, .int .i64 (G q2 0).f1] (fun _ => True) (fun _ => False) rfl rfl (k60_mkM _ _ _ (G q2 0)) (fun _ hk => hk.elim) (fun _ _ => trivial) (Kd.R_mono HO2.out (fun _ _ => trivial)) HA3.out.below HA3.out.below.size (by simp) ?_; intro v9 w9 ho hb hg hat; have HF := Aside0.mk (And.intro ho (And.intro hb (And.intro hg hat))); clear ho hb hg hat)
      obtain ⟨ho, hb, hg, hat⟩ := HF.out
      have hpo : ¬ own (.slice Ao ([] : List S60).length co) (w.heap.size + 1) := Kd.R_ne HO2.out HA3.out.box (by decide)
      have hA9 := grown_at HA3.out hg hpo HD3.out hb
      constructor
      ·refine ⟨u3, popL q2, mergeL [] (G q2 0), HN, ⟨hA9⟩, ⟨Heap.tight ho⟩, ⟨fun k hk1 hk2 => ?_⟩⟩
       rcases hat with h1 | ⟨b, h1, h2⟩
       ·exact HD3.out k hk1 (hk2.trans h1)
       ·have e := Option.some.inj (hk2.trans h1)
        have := Kd.R_lt HA3.out.row _ hk1.symm
        omega
      ·have hM9 : measW (w.heap.size + 1) w9 = (popL q2).length := by
        obtain ⟨A9, c9, e9, _⟩ := R_form hA9.row
        unfold measW
        rw [hA9.box.cell, e9]
       rw [hM9, HM.out, popL_len]
       have := HQ.out.1
       omega
     | succ m =>
      obtain ⟨g6, c6, rfl, hg6, _⟩ := Kd.R_form HO.out (by omega)
      have hook : Ok (G o m) := HT2.out.ook _ ((mem_G o _).mpr ⟨m, by omega, rfl⟩)
      have hk : wrap64 ((o.length : Int) - 1) = (m : Int) := by have := HT2.out.len; have := HL.out; unfold wrap64; omega
      have hw : wrap64 ((G o m).f1 + 1) = (G o m).f1 + 1 := by obtain ⟨_, _, _⟩ := hook; unfold wrap64; omega
      have d0 : decide (0 ≤ (m : Int)) = true := decide_eq_true (by omega)
      have p1 : (0 ≤ (m : Int)) = True := eq_true (by omega)
      have q3 : ((m : Int) < (o.length : Int)) = True := eq_true (by omega)
      have q4 : (m < o.length) = True := eq_true (by omega)
      have HM2 := Aside0.mk hm
      have HGB := Aside0.mk hg6
      clear hook hm hg6
      by_cases hc : (G q2 0).f0 ≤ (G o m).f1 + 1
      ·have c5 : decide ((G q2 0).f0 ≤ (G o m).f1 + 1) = true := decide_eq_true hc
       have hmg : mergeL o (G q2 0) = o.set m ⟨(G o m).f0, max (G o m).f1 (G q2 0).f1⟩ := by
        rw [mergeL, show o.length - 1 = m by have := HM2.out; omega, if_pos ⟨by have := HM2.out; omega, hc⟩]
       obtain ⟨x, hx⟩ : ∃ x, x = max (G o m).f1 (G q2 0).f1 := ⟨_, rfl⟩
       have hmx : (if (G o m).f1 < (G q2 0).f1 then (G q2 0).f1 else (G o m).f1) = x := by rw [hx]; split <;> omega
       rw [← hx] at hmg
       have HG := Aside0.mk hmg
       clear hc hx hmg
       go_wp2_with (first | (go_at_call 51; with_reducible refine (empty_calls w _ _ q2 wr HA2.out).mono ?_; rintro e W1 ⟨rfl, hW⟩; obtain rfl := hW.symm) | (go_at_call 52; with_reducible refine (pop_calls w _ _ q2 HQ.out.1 HQ.out.2 _ (HA2.out.under ((Below.refl _ _).alloc (Nat.le_refl _) _))).mono ?_; rintro e W2 ⟨⟨v_, rfl⟩, u3, hA3, ho3, hk3⟩; obtain ⟨hO2, hr0, hr1⟩ := after_pop HA2.out HO.out HD.out hk3; have HA3 := Aside0.mk hA3; have HO2 := Aside0.mk hO2; have HD3 := Aside0.mk (fun k hk => HD.out k (ho3 k hk)); clear hA3 hO2 ho3 hk3; obtain ⟨hl0, hl1, _⟩ := last_at HO2.out HM2.out))
       go_quiet (fail)
       have hA4 := HA3.out.under (pw_below_drewN (Below.refl _ W2) nq)
       have hO4 := Kd.R_drewN HO2.out nq
       have hr4 : (W2.drewN nq).cell? ⟨wr.heap.size, 0, none⟩ = some (.int .i64 (G q2 0).f0) := hr0
       have hr5 : (W2.drewN nq).cell? ⟨wr.heap.size, 1, none⟩ = some (.int .i64 (G q2 0).f1) := hr1
       clear HA3 HO2 hr0 hr1 hl0 hl1
       generalize W2.drewN nq = W3 at hA4 hO4 hr4 hr5 ⊢
       have HA3 := Aside0.mk hA4
       have HO2 := Aside0.mk hO4
       clear hA4 hO4
       obtain ⟨hl0, hl1, hl2⟩ := last_at HO2.out HM2.out
       go_wp2_with fail
       have hA5 := HA3.out.under (below_drew1 (Below.refl _ W3))
       have hO5 := Kd.R_drew HO2.out
       clear HA3 HO2 hl0 hl1 hl2 hr4
       have HA3 := Aside0.mk hA5
       have HO2 := Aside0.mk hO5
       clear hA5 hO5
       obtain ⟨hl0, hl1, hl2⟩ := last_at HO2.out HM2.out
       have HL2 := Aside0.mk hl2
       clear hl2
       replace hr5 : W3.drew.cell? ⟨wr.heap.size, 1, none⟩ = some (.int .i64 (G q2 0).f1) := hr5
       refine start_ (n := 13) (S := fun w' => w'.cell? ⟨g6, m * 2 + 1, none⟩ = some (.int .i64 (G o m).f1) ∧ w'.cell? ⟨wr.heap.size, 1, none⟩ = some (.int .i64 (G q2 0).f1)) (ds := [12]) #[false, false, false, false, false, false, false, false, false, false, false, false, false] (by kernel_rfl) rfl rfl ⟨hl0, hr5⟩ (fun hHeld => ?_)
       generalize W3.drew = W4 at HA3 HO2 hr5 hl0 hl1 HL2 hHeld ⊢
       refine pq_ (i := 0) (n := 63) (bA 13 1) (by kernel_rfl) ?_
       refine pq_ (i := 1) (n := 64) (bA 13 3) (by kernel_rfl) ?_
       refine pq_ (i := 2) (n := 65) (bA 13 7) (by kernel_rfl) ?_
       refine pq_ (i := 3) (n := 66) (bA 13 15) (by kernel_rfl) ?_
       refine pq_ (i := 4) (n := 67) (bA 13 31) (by kernel_rfl) ?_
       refine pq_ (i := 5) (n := 68) (bA 13 63) (by kernel_rfl) ?_
       refine pq_ (i := 7) (n := 70) (bA 13 191) (by kernel_rfl) ?_
       refine tq_ (i := 6) (n := 69) (bA 13 255) (by kernel_rfl) hHeld ?_
       refine tq_ (i := 8) (n := 71) (bA 13 511) (by kernel_rfl) hHeld ?_
       refine pq_ (i := 9) (n := 72) (bA 13 1023) (by kernel_rfl) ?_
       refine pq_ (i := 10) (n := 73) (bA 13 2047) (by kernel_rfl) ?_
       refine pq_ (i := 11) (n := 74) (bA 13 4095) (by kernel_rfl) ?_
       refine last_ (i := 12) (N := none) #[true, true, true, true, true, true, true, true, true, true, true, true, true] rfl rfl (by kernel_rfl) (by decide) (fun K hK => ?_)
       refine skip_ (w1 := ?_) (by rfl) rfl ?_ ?_
       rotate_left
       ·go_simp
        rfl
       refine hK.out _ _ ?_
       clear hK K
       refine done_ (by kernel_rfl) ?_
   
       try go_wp2
       have hpo : w.heap.size + 1 ≠ g6 := fun e => Kd.R_ne HO2.out HA3.out.box (by decide) (by rw [e]; rfl)
       have hA9 : PAt w (w.heap.size + 1) u3 (popL q2) (W4.setCell ⟨g6, m * 2 + 1, none⟩ (.int .i64 x)) := set_at HA3.out HGB.out hpo (fun hk => HD3.out g6 hk rfl)
       constructor
       ·exact ⟨u3, popL q2, mergeL o (G q2 0), HN, ⟨hA9⟩, ⟨by rw [HG.out]; exact HL2.out x⟩, HD3⟩
       ·have hM9 : measW (w.heap.size + 1) (W4.setCell ⟨g6, m * 2 + 1, none⟩ (.int .i64 x)) = (popL q2).length := by
         obtain ⟨A9, c9, e9, _⟩ := R_form hA9.row
         unfold measW
         rw [hA9.box.cell, e9]
        rw [hM9, HM.out, popL_len]
        have := HQ.out.1
        omega
      ·have c5 : decide ((G q2 0).f0 ≤ (G o m).f1 + 1) = false := decide_eq_false hc
       have hmg : mergeL o (G q2 0) = o ++ [G q2 0] := by
        rw [mergeL, show o.length - 1 = m by have := HM2.out; omega, if_neg (fun hh => hc hh.2)]
       have HG := Aside0.mk hmg
       clear hc hmg
       go_wp2_with (first | (go_at_call 51; with_reducible refine (empty_calls w _ _ q2 wr HA2.out).mono ?_; rintro e W1 ⟨rfl, hW⟩; obtain rfl := hW.symm) | (go_at_call 52; with_reducible refine (pop_calls w _ _ q2 HQ.out.1 HQ.out.2 _ (HA2.out.under ((Below.refl _ _).alloc (Nat.le_refl _) _))).mono ?_; rintro e W2 ⟨⟨v_, rfl⟩, u3, hA3, ho3, hk3⟩; obtain ⟨hO2, hr0, hr1⟩ := after_pop HA2.out HO.out HD.out hk3; have HA3 := Aside0.mk hA3; have HO2 := Aside0.mk hO2; have HD3 := Aside0.mk (fun k hk => HD.out k (ho3 k hk)); clear hA3 hO2 ho3 hk3; obtain ⟨hl0, hl1, _⟩ := last_at HO2.out HM2.out))
       go_quiet (fail)
       have hA4 := HA3.out.under (pw_below_drewN (Below.refl _ W2) nq)
       have hO4 := Kd.R_drewN HO2.out nq
       have hr4 : (W2.drewN nq).cell? ⟨wr.heap.size, 0, none⟩ = some (.int .i64 (G q2 0).f0) := hr0
       have hr5 : (W2.drewN nq).cell? ⟨wr.heap.size, 1, none⟩ = some (.int .i64 (G q2 0).f1) := hr1
       clear HA3 HO2 hr0 hr1 hl0 hl1
       generalize W2.drewN nq = W3 at hA4 hO4 hr4 hr5 ⊢
       have HA3 := Aside0.mk hA4
       have HO2 := Aside0.mk hO4
       clear hA4 hO4
       go_wp2_with ((with_reducible refine gate_builtin (b := .append) (xs := #[.tmp 75, .tmp 77]) rfl ?_); (try (refine gate_guard (by rfl) ?_; dsimp only)); at_builtin; refine Kd.R_append k60 (w0 := w) w.heap.size rfl (.tmp 75) (.tmp 77) 44 60 (.agg #[(.int .i64 0), (.int .i64 0)]) 16 rfl Tryd.underlying44 info60 rfl (by decide) (by omega) (.slice (some ⟨g6, 0, none⟩) o.length c6) o (G q2 0) [.int .i64 (G q2 0).f0, .int .i64 (G q2 0).f1] (fun _ => True) (fun _ => False) rfl rfl (k60_mkM _ _ _ (G q2 0)) (fun _ hk => hk.elim) (fun _ _ => trivial) (Kd.R_mono HO2.out (fun _ _ => trivial)) HA3.out.below HA3.out.below.size (by have := HT2.out.len; have := HL.out; have := HQ.out; omega) ?_; intro v9 w9 ho hb hg hat; have HF := Aside0.mk (And.intro ho (And.intro hb (And.intro hg hat))); clear ho hb hg hat)
       obtain ⟨ho, hb, hg, hat⟩ := HF.out
       have hpo : ¬ own (.slice (some ⟨g6, 0, none⟩) o.length c6) (w.heap.size + 1) := Kd.R_ne HO2.out HA3.out.box (by decide)
       have hA9 := grown_at HA3.out hg hpo HD3.out hb
       constructor
       ·refine ⟨u3, popL q2, mergeL o (G q2 0), HN, ⟨hA9⟩, ⟨by rw [HG.out]; exact Heap.tight ho⟩, ⟨fun k hk1 hk2 => ?_⟩⟩
        rcases hat with h1 | ⟨b, h1, h2⟩
        ·exact HD3.out k hk1 (hk2.trans h1)
        ·have e := Option.some.inj (hk2.trans h1)
         have := Kd.R_lt HA3.out.row _ hk1.symm
         omega
       ·have hM9 : measW (w.heap.size + 1) w9 = (popL q2).length := by
         obtain ⟨A9, c9, e9, _⟩ := R_form hA9.row
         unfold measW
         rw [hA9.box.cell, e9]
        rw [hM9, HM.out, popL_len]
        have := HQ.out.1
        omega
def ranges_Of.f (l : List S60) : Option (List S60) := if l.length < 8796093022208 then some (ofL l) else none
theorem ranges_Of.calls (A0 : Option Addr) (c0 : Nat) (l0 : List S60) (r : List S60) (w : World) (hr0 : Kd.C k60 w A0 l0.length l0) (hc0 : l0.length ≤ c0) (h : ranges_Of.f l0 = some r) :
  Calls Tryd.prog 45 #[.slice A0 l0.length c0] w fun e w' => ∃ v0_ : Value, e = .returned (v0_) ∧ Kd.R k60 60 w' w.heap.size (fun _ => True) v0_ r ∧ Below w.heap.size w w' := by
 unfold ranges_Of.f at h
 split at h
 ·obtain rfl := Option.some.inj h
  exact of_calls A0 c0 l0 w (by assumption) hr0 hc0
 ·cases h
end Go.Proofs.YtlihkebmonfefaaDoor.HandOf

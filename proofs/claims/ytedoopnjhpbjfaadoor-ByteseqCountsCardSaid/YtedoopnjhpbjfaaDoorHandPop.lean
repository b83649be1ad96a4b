import Derived.Test.YtedoopnjhpbjfaaDoorPBx0
import Derived.Test.YtedoopnjhpbjfaaDoorPBx1
import Derived.Test.YtedoopnjhpbjfaaDoorWWords
import Derived.Test.YtedoopnjhpbjfaaDoorWMore
import Derived.Test.YtedoopnjhpbjfaaDoorPlS
import Derived.RangeFuncBox
import Derived.Shelf.Abstract
import Derived.Laws.OwnMore
/- The pile of ranges under the library's heap: what each call does to it. No condition. -/
namespace Go.Proofs.YtedoopnjhpbjfaaDoor.Heap
open Go.RowKit Go.Shelf Go.Proofs.YtedoopnjhpbjfaaDoorW.PrintWords Go.Proofs.YtedoopnjhpbjfaaDoorW.PrintLast Go.Proofs.YtedoopnjhpbjfaaDoorW.PrintMore Go.Proofs.YtedoopnjhpbjfaaDoor.PB Go.Proofs.YtedoopnjhpbjfaaDoor.Sets

/-! ### the pile's methods, out of an interface value -/
theorem fLen : Array.find? (fun x => x.name == "Len") Tryd.t57.methods = some { name := "Len", sig := 68, path := #[], func := some (60, false) } := by kernel_rfl
theorem fLess : Array.find? (fun x => x.name == "Less") Tryd.t57.methods = some { name := "Less", sig := 75, path := #[], func := some (61, false) } := by kernel_rfl
theorem fSwap : Array.find? (fun x => x.name == "Swap") Tryd.t57.methods = some { name := "Swap", sig := 71, path := #[], func := some (64, false) } := by kernel_rfl
theorem fPush : Array.find? (fun x => x.name == "Push") Tryd.t57.methods = some { name := "Push", sig := 66, path := #[], func := some (63, true) } := by kernel_rfl
theorem fPop : Array.find? (fun x => x.name == "Pop") Tryd.t57.methods = some { name := "Pop", sig := 73, path := #[], func := some (62, true) } := by kernel_rfl
theorem nilchk (a : Addr) (s1 s2 : ByteArray) (W : World) : (Builtin.ssaWrapNilChk_ #[57] 57 #[.pointer (some a), .string s1, .string s2]).run Tryd.prog W = .ok (.pointer (some a)) W := by rfl
theorem meth_len {p : Nat} {v : Value} {W : World} (hc : W.cell? ⟨p, 0, none⟩ = some v) :
    (method 194 57 (.pointer (some ⟨p, 0, none⟩)) "Len").run Tryd.prog W = .ok (60, v) W := by
  unfold method
  go_simp
  rw [fLen]
  go_simp
  unfold follow receiverAt
  go_simp
  unfold Place.get
  go_simp
  simp only [strVal, nilchk]
  go_simp
theorem meth_less {p : Nat} {v : Value} {W : World} (hc : W.cell? ⟨p, 0, none⟩ = some v) :
    (method 194 57 (.pointer (some ⟨p, 0, none⟩)) "Less").run Tryd.prog W = .ok (61, v) W := by
  unfold method
  go_simp
  rw [fLess]
  go_simp
  unfold follow receiverAt
  go_simp
  unfold Place.get
  go_simp
  simp only [strVal, nilchk]
  go_simp
theorem meth_swap {p : Nat} {v : Value} {W : World} (hc : W.cell? ⟨p, 0, none⟩ = some v) :
    (method 194 57 (.pointer (some ⟨p, 0, none⟩)) "Swap").run Tryd.prog W = .ok (64, v) W := by
  unfold method
  go_simp
  rw [fSwap]
  go_simp
  unfold follow receiverAt
  go_simp
  unfold Place.get
  go_simp
  simp only [strVal, nilchk]
  go_simp
theorem meth_push (p : Nat) (W : World) : (method 194 57 (.pointer (some ⟨p, 0, none⟩)) "Push").run Tryd.prog W = .ok (63, .pointer (some ⟨p, 0, none⟩)) W := by
  unfold method
  go_simp
  rw [fPush]
  go_simp
  unfold follow receiverAt
  go_simp
  unfold Place.get
  go_simp
theorem meth_pop (p : Nat) (W : World) : (method 194 57 (.pointer (some ⟨p, 0, none⟩)) "Pop").run Tryd.prog W = .ok (62, .pointer (some ⟨p, 0, none⟩)) W := by
  unfold method
  go_simp
  rw [fPop]
  go_simp
  unfold follow receiverAt
  go_simp
  unfold Place.get
  go_simp

/-! ### the pile in its box -/
/-- The block of a row's own. -/
def own (u : Value) (k : Nat) : Prop := some k = u.ownBlock
/-- The pile in its box: a row of ranges of the call's own. -/
structure PAt (w0 : World) (p : Nat) (u : Value) (l : List S35) (W : World) : Prop where
  lo : w0.heap.size ≤ p
  box : Boxed W p 58 u
  row : Kd.R k35 35 W w0.heap.size (own u) u l
  below : Below w0.heap.size w0 W
theorem R_form {W : World} {b : Nat} {P : Nat → Prop} {u : Value} {l : List S35} (h : Kd.R k35 35 W b P u l) : ∃ A c, u = .slice A l.length c ∧ l.length ≤ c ∧ Kd.C k35 W A l.length l := Kd.R_reads h
theorem empty_calls (w0 : World) (p : Nat) (u : Value) (l : List S35) (W : World) (h : PAt w0 p u l W) :
    Calls Tryd.prog 34 #[.iface 57 (.pointer (some ⟨p, 0, none⟩))] W fun e W' => e = .returned (.bool ((l.length : Int) == 0)) ∧ W' = W := by
  obtain ⟨A, c, rfl, _, _⟩ := R_form h.row
  have hm := meth_len h.box.cell
  clear h
  go_enter Tryd.func34, Tryd.ntmps34
  go_wp2
  go_ret
  exact ⟨rfl, rfl⟩
theorem PAt.under {w0 : World} {p : Nat} {u : Value} {l : List S35} {W W' : World} (h : PAt w0 p u l W) (hb : Below W.heap.size W W') : PAt w0 p u l W' :=
  ⟨h.lo, (hb.block p h.box.lt).trans h.box, Kd.R_below h.row hb, below_then h.below h.below.size hb⟩
theorem PAt.ne {w0 : World} {p : Nat} {u : Value} {l : List S35} {W : World} (h : PAt w0 p u l W) : ¬ own u p := Kd.R_ne h.row h.box (by decide)
theorem tight {b : Nat} {ok : Nat → Prop} {u : Value} {l : List S35} {W : World} (h : Kd.R k35 35 W b ok u l) : Kd.R k35 35 W b (own u) u l := Kd.R_tight rfl h
/-- What is written in the row alone. -/
theorem PAt.wrote {w0 : World} {p : Nat} {u : Value} {l l' : List S35} {W W' : World} {ok : Nat → Prop} (h : PAt w0 p u l W) (hr : Kd.R k35 35 W' w0.heap.size ok u l') (hb : Below w0.heap.size w0 W') (hk : Kept W W' (own u)) : PAt w0 p u l' W' :=
  ⟨h.lo, (hk.2 p h.box.lt h.ne).trans h.box, tight hr, hb⟩
theorem less_f (l : List S35) (i j : Nat) (hi : i < l.length) (hj : j < l.length) : ranges_pile_Less.f l (i : Int) (j : Int) = some (decide ((G l i).f0 < (G l j).f0)) := by
  unfold ranges_pile_Less.f
  rw [if_pos (by omega), if_pos (by omega), if_pos (by omega), if_pos (by omega)]
  rfl
theorem swap_f (l : List S35) (i j : Nat) (hi : i < l.length) (hj : j < l.length) : ranges_pile_Swap.f l (i : Int) (j : Int) = some (swap l i j) := by
  unfold ranges_pile_Swap.f
  rw [if_pos (by omega), if_pos (by omega), if_pos (by omega), if_pos (by omega)]
  rfl
def measU (v : Value) : Nat := (intOf v).toNat
end Go.Proofs.YtedoopnjhpbjfaaDoor.Heap

/- The pile of ranges under the library's heap: one goes up. No condition. -/
namespace Go.Proofs.YtedoopnjhpbjfaaDoor.Heap
open Go.RowKit Go.Shelf Go.Proofs.YtedoopnjhpbjfaaDoorW.PrintWords Go.Proofs.YtedoopnjhpbjfaaDoorW.PrintLast Go.Proofs.YtedoopnjhpbjfaaDoorW.PrintMore Go.Proofs.YtedoopnjhpbjfaaDoor.PB Go.Proofs.YtedoopnjhpbjfaaDoor.Sets
set_option maxRecDepth 100000 in
set_option maxHeartbeats 1000000 in
theorem up_calls (w0 : World) (p : Nat) (u : Value) (l : List S35) (j : Nat) (hj : j < l.length) (W : World) (h : PAt w0 p u l W) :
    Calls Tryd.prog 40 #[.iface 57 (.pointer (some ⟨p, 0, none⟩)), .int .i64 (j : Int)] W fun e W' => (∃ v, e = .returned v) ∧ PAt w0 p u (upL l.length l j) W' ∧ Kept W W' (own u) := by
  go_enter Tryd.func40, Tryd.ntmps40
  go_wp2_with fail
  go_loopw [1] (fun vj wr => ∃ (i : Nat) (l' : List S35), vj = .int .i64 (i : Int) ∧ Aside0 (i < l'.length ∧ l'.length = l.length ∧ ∃ f, i < f ∧ upL l.length l j = upL f l' i) ∧ Aside0 (PAt w0 p u l' wr) ∧ Aside0 (Kept W wr (own u)))
    (fun vj _ => measU vj)
  case atStart => exact ⟨j, l, rfl, ⟨hj, rfl, _, hj, rfl⟩, ⟨h⟩, ⟨Kept.refl _ _⟩⟩
  case round =>
    obtain ⟨i, l', rfl, HI, HA, HK⟩ := hrel
    obtain ⟨A, c, rfl, hlc, hC⟩ := R_form HA.out.row
    have hm := Aside0.mk (meth_less HA.out.box.cell)
    have hms := Aside0.mk (meth_swap HA.out.box.cell)
    have HC := Aside0.mk hC
    have HL := Aside0.mk hlc
    obtain ⟨i1, i2, f, hf, i3⟩ := HI.out
    have hlen : l'.length ≤ 9223372036854775807 := hC.2.1
    obtain ⟨g, rfl⟩ : ∃ g, f = g + 1 := ⟨f - 1, by omega⟩
    clear hC hlc HI h hj
    by_cases h0 : i = 0
    · subst h0
      have HU : Aside0 (upL l.length l j = l') := ⟨by rw [i3, upL, if_pos (.inl rfl)]⟩
      clear i1 i2 i3 hlen hm hms
      go_wp2_with fail
      go_end0
      exact ⟨⟨_, rfl⟩, by rw [HU.out]; exact HA.out, HK.out⟩
    · have hk : wrap64 ((wrap64 ((i : Int) - 1)).tdiv 2) = (((i - 1) / 2 : Nat) : Int) := by
        rw [show (i : Int) - 1 = ((i - 1 : Nat) : Int) by omega, show wrap64 ((i - 1 : Nat) : Int) = ((i - 1 : Nat) : Int) by unfold wrap64; omega, show Int.tdiv ((i - 1 : Nat) : Int) 2 = (((i - 1) / 2 : Nat) : Int) from rfl]
        unfold wrap64; omega
      have hki : (i - 1) / 2 < i := by omega
      have HX := Aside0.mk i3
      rw [upL] at i3
      have HN : Aside0 (¬ (i - 1) / 2 = i) := ⟨by omega⟩
      generalize (i - 1) / 2 = k at hk hki i3 HN
      have c1 : ((k : Int) == (i : Int)) = false := by rw [beq_eq_false_iff_ne]; omega
      by_cases hlt : (G l' i).f0 < (G l' k).f0
      · have c2 : decide ((G l' i).f0 < (G l' k).f0) = true := decide_eq_true hlt
        rw [if_neg (fun hh => hh.elim (fun h1 => HN.out h1) (fun h1 => h1 hlt))] at i3
        have HI := Aside0.mk (And.intro i1 (And.intro i2 (And.intro hf (And.intro i3 hki))))
        have hm := hm.out
        clear i1 i2 i3 hf hki hlt HX
        go_wp2_with (first | (go_at_call 61; refine (ranges_pile_Less.calls A c l' _ _ _ wr HC.out HL.out (less_f l' i k HI.out.1 (Nat.lt_trans HI.out.2.2.2.2 HI.out.1))).mono ?_; rintro e W1 ⟨rfl, hd⟩; have HA1 := Aside0.mk (HA.out.under hd.below); have HK1 := Aside0.mk (HK.out.below hd.below); clear HA HK hm hms; have hms := meth_swap HA1.out.box.cell; clear hd) | (go_at_call 64; refine (ranges_pile_Swap.calls (own (.slice A l'.length c)) _ l' _ _ _ w0 _ HA1.out.below HA1.out.row (swap_f l' k i (Nat.lt_trans HI.out.2.2.2.2 HI.out.1) HI.out.1)).mono ?_; rintro e W2 ⟨rfl, hr2, hb2, hk2⟩; have HA2 := Aside0.mk (HA1.out.wrote hr2 hb2 hk2); have HK2 := Aside0.mk (HK1.out.then_ hk2 (fun _ hk => .inl hk)); clear HA1 HK1 hms hr2 hb2 hk2))
        obtain ⟨i1, i2, hf, i3, hki⟩ := HI.out
        constructor
        · exact ⟨k, swap l' k i, rfl, ⟨by rw [swap_length]; omega, by rw [swap_length]; exact i2, g, by omega, i3⟩, HA2, HK2⟩
        · unfold measU; simp [intOf]; omega
      · have c2 : decide ((G l' i).f0 < (G l' k).f0) = false := decide_eq_false hlt
        rw [if_pos (.inr hlt)] at i3
        have HI := Aside0.mk (And.intro i1 (And.intro hki i3))
        have hm := hm.out
        clear i1 i2 i3 hf hki hlt HX hms
        go_wp2_with (go_at_call 61; refine (ranges_pile_Less.calls A c l' _ _ _ wr HC.out HL.out (less_f l' i k HI.out.1 (Nat.lt_trans HI.out.2.1 HI.out.1))).mono ?_; rintro e W1 ⟨rfl, hd⟩; have HA1 := Aside0.mk (HA.out.under hd.below); have HK1 := Aside0.mk (HK.out.below hd.below); clear HA HK hm hd)
        go_end0
        exact ⟨⟨_, rfl⟩, by rw [HI.out.2.2]; exact HA1.out, HK1.out⟩
end Go.Proofs.YtedoopnjhpbjfaaDoor.Heap

/- The pile of ranges under the library's heap: one is put in. No condition beyond a bound on the pile's length. -/
set_option linter.unusedSimpArgs false
set_option linter.unusedVariables false
set_option linter.unusedSimpArgs false
set_option linter.unusedVariables false
set_option linter.unusedSimpArgs false
set_option linter.unusedVariables false
namespace Go.Proofs.YtedoopnjhpbjfaaDoor.Heap
open Go.RowKit Go.Shelf Go.Proofs.YtedoopnjhpbjfaaDoorW.PrintWords Go.Proofs.YtedoopnjhpbjfaaDoorW.PrintLast Go.Proofs.YtedoopnjhpbjfaaDoorW.PrintMore Go.Proofs.YtedoopnjhpbjfaaDoor.PB Go.Proofs.YtedoopnjhpbjfaaDoor.Sets
theorem assert35 (a b : Value) (W : World) : (Instr.typeAssert (.iface 35 (.agg #[a, b])) 20 35 true).run Tryd.prog W = .ok (.tuple #[.agg #[a, b], .bool true]) W := by
  unfold Instr.typeAssert
  go_simp
set_option maxRecDepth 100000 in
set_option maxHeartbeats 1000000 in
theorem put_calls (w0 : World) (p : Nat) (u : Value) (l : List S35) (r : S35) (hl : l.length < 8796093022208) (W : World) (h : PAt w0 p u l W) :
    Calls Tryd.prog 63 #[.pointer (some ⟨p, 0, none⟩), .iface 35 (.agg #[.int .i64 r.f0, .int .i64 r.f1])] W fun e W' => (∃ v, e = .returned v) ∧ ∃ u', PAt w0 p u' (l ++ [r]) W' ∧ (∀ k, own u' k → own u k ∨ W.heap.size ≤ k) ∧ Kept W W' (fun k => own u k ∨ k = p) := by
  obtain ⟨A, c, rfl, hlc, hC⟩ := R_form h.row
  have hp := h.box.cell
  have hf := h.box.frozen
  have H := Aside0.mk h
  clear h hC
  have ht := assert35 (.int .i64 r.f0) (.int .i64 r.f1) W
  go_enter Tryd.func63, Tryd.ntmps63
  go_wp2_with fail
  have hbel : Below W.heap.size W (W.alloc (.cells #[.int .i64 r.f0, .int .i64 r.f1] 35)).drew := below_drew1 ((Below.refl _ W).alloc (Nat.le_refl _) _)
  have H2 := Aside0.mk (H.out.under hbel)
  have hp0 := H2.out.box.cell
  have hp1 : (W.alloc (.cells #[.int .i64 r.f0, .int .i64 r.f1] 35)).drew.cell? ⟨W.heap.size, 0, none⟩ = some (.int .i64 r.f0) := by
    have e := World.alloc_heap_new W (.cells #[.int .i64 r.f0, .int .i64 r.f1] 35)
    show (W.alloc _).cell? _ = _
    unfold World.cell?
    dsimp only
    rw [e]
    rfl
  have hp2 : (W.alloc (.cells #[.int .i64 r.f0, .int .i64 r.f1] 35)).drew.cell? ⟨W.heap.size, 1, none⟩ = some (.int .i64 r.f1) := by
    have e := World.alloc_heap_new W (.cells #[.int .i64 r.f0, .int .i64 r.f1] 35)
    show (W.alloc _).cell? _ = _
    unfold World.cell?
    dsimp only
    rw [e]
    rfl
  have hsz : (W.alloc (.cells #[.int .i64 r.f0, .int .i64 r.f1] 35)).drew.heap.size = W.heap.size + 1 := by simp
  have HBE := Aside0.mk hbel
  have HSZ := Aside0.mk hsz
  clear hbel hp hf ht hsz
  refine start_ (n := 9) (S := fun w' => w'.cell? ⟨p, 0, none⟩ = some (.slice A l.length c) ∧ w'.cell? ⟨W.heap.size, 0, none⟩ = some (.int .i64 r.f0) ∧ w'.cell? ⟨W.heap.size, 1, none⟩ = some (.int .i64 r.f1)) (ds := [6, 8]) #[false, false, false, false, false, false, false, false, false] (by kernel_rfl) rfl rfl ⟨hp0, hp1, hp2⟩ (fun hHeld => ?_)
  generalize (W.alloc (.cells #[.int .i64 r.f0, .int .i64 r.f1] 35)).drew = W2 at H2 hp0 hp1 hp2 HSZ HBE hHeld ⊢
  refine pure_ (i := 0) (N := some 12) (v := ?_) (a' := ?_) #[true, false, false, false, false, false, false, false, false] rfl rfl (by kernel_rfl) (fun _ _ _ h => h) (Or.inl ⟨by rfl, ?_⟩) ?_ ?_
  rotate_left
  · intro w'
    go_simp
    with_reducible rfl
  rotate_left
  · simp only [Act.put, List.setIfInBounds_toArray, List.set_cons_zero, List.set_cons_succ, i64_w, i32_w]
    rfl
  refine pure_ (i := 1) (N := some 13) (v := ?_) (a' := ?_) #[true, true, false, false, false, false, false, false, false] rfl rfl (by kernel_rfl) (fun _ _ _ h => h) (Or.inl ⟨by rfl, ?_⟩) ?_ ?_
  rotate_left
  · intro w'
    go_simp
    with_reducible rfl
  rotate_left
  · simp only [Act.put, List.setIfInBounds_toArray, List.set_cons_zero, List.set_cons_succ, i64_w, i32_w]
    rfl
  refine pure_ (i := 2) (N := some 14) (v := ?_) (a' := ?_) #[true, true, true, false, false, false, false, false, false] rfl rfl (by kernel_rfl) (fun _ _ _ h => h) (Or.inl ⟨by rfl, ?_⟩) ?_ ?_
  rotate_left
  · intro w'
    go_simp
    with_reducible rfl
  rotate_left
  · simp only [Act.put, List.setIfInBounds_toArray, List.set_cons_zero, List.set_cons_succ, i64_w, i32_w]
    rfl
  refine take_ (i := 3) (N := some 15) (v := ?_) (a' := ?_) #[true, true, true, true, false, false, false, false, false] rfl rfl (by kernel_rfl) (fun _ _ _ h => h) (Or.inl ⟨by rfl, ?_⟩) hHeld ?_ ?_
  rotate_left
  · rintro w' ⟨s0, s1, s2⟩
    go_simp
    with_reducible rfl
  rotate_left
  · simp only [Act.put, List.setIfInBounds_toArray, List.set_cons_zero, List.set_cons_succ, i64_w, i32_w]
    rfl
  refine take_ (i := 4) (N := some 16) (v := ?_) (a' := ?_) #[true, true, true, true, true, false, false, false, false] rfl rfl (by kernel_rfl) (fun _ _ _ h => h) (Or.inl ⟨by rfl, ?_⟩) hHeld ?_ ?_
  rotate_left
  · rintro w' ⟨s0, s1, s2⟩
    go_simp
    with_reducible rfl
  rotate_left
  · simp only [Act.put, List.setIfInBounds_toArray, List.set_cons_zero, List.set_cons_succ, i64_w, i32_w]
    rfl
  refine one_ (i := 5) (N := some 17) #[true, true, true, true, true, true, false, false, false] rfl rfl (by kernel_rfl) (by decide) (fun K hK => ?_)
  refine value_ (w1 := ?_) (v := ?_) (by rfl) rfl ?_ ?_
  rotate_left 2
  · go_simp
    constructor
    · rfl
    · rfl
  refine hK.out _ _ ⟨(World.cell?_alloc_lt _ _ _ H2.out.box.lt).trans hp0, (World.cell?_alloc_lt _ _ _ (by have := HSZ.out; show W.heap.size < _; omega)).trans hp1, (World.cell?_alloc_lt _ _ _ (by have := HSZ.out; show W.heap.size < _; omega)).trans hp2⟩ (fun hHeld => ?_)
  clear hK K
  refine norm_ (a' := ?_) ?_ ?_
  rotate_left
  · show Act.put _ (some 17) _ = _
    simp only [Act.put, List.setIfInBounds_toArray, List.set_cons_zero, List.set_cons_succ, i64_w, i32_w]
    rfl
  refine last_ (i := 6) (N := some 18) #[true, true, true, true, true, true, true, false, false] rfl rfl (by kernel_rfl) (by decide) (fun K hK => ?_)
  refine Kd.R_append_step k35 (w0 := w0) w0.heap.size (by rfl) (.tmp 15) (.tmp 17) 58 35 (.agg #[(.int .i64 0), (.int .i64 0)]) 16 rfl Tryd.underlying58 info35 rfl (by decide) (by omega) (.slice A l.length c) l r [.int .i64 r.f0, .int .i64 r.f1] (fun _ => True) (fun _ => False) rfl rfl (k35_mkM _ _ _ r) (fun _ hk => hk.elim) (fun _ _ => trivial) (Kd.R_mono H2.out.row (fun _ _ => trivial)) H2.out.below H2.out.below.size (by omega) ?_
  intro v1 w3 ho hb hg hat
  obtain ⟨A1, c1, e1, _, _⟩ := R_form ho
  rw [show (l ++ [r]).length = l.length + 1 by simp] at e1
  subst e1
  have hbox := H2.out.box.kept hg (fun e => H2.out.ne e)
  have hc3 := hbox.cell
  have hf3 := hbox.frozen
  have HB3 := Aside0.mk hbox
  have HO := Aside0.mk ho
  have HW := Aside0.mk (And.intro hb (And.intro hg hat))
  clear ho hb hg hat hbox
  refine hK.out _ _ ?_
  clear hK K
  refine norm_ (a' := ?_) ?_ ?_
  rotate_left
  · show Act.put _ (some 18) _ = _
    simp only [Act.put, List.setIfInBounds_toArray, List.set_cons_zero, List.set_cons_succ, i64_w, i32_w]
    rfl
  refine pure_ (i := 7) (N := some 19) (v := ?_) (a' := ?_) #[true, true, true, true, true, true, true, true, false] rfl rfl (by kernel_rfl) (fun _ _ _ h => h) (Or.inl ⟨by rfl, ?_⟩) ?_ ?_
  rotate_left
  · intro w'
    go_simp
    with_reducible rfl
  rotate_left
  · simp only [Act.put, List.setIfInBounds_toArray, List.set_cons_zero, List.set_cons_succ, i64_w, i32_w]
    rfl
  refine last_ (i := 8) (N := none) #[true, true, true, true, true, true, true, true, true] rfl rfl (by kernel_rfl) (by decide) (fun K hK => ?_)
  refine skip_ (w1 := ?_) (by rfl) rfl ?_ ?_
  rotate_left
  · go_simp
    rfl
  refine hK.out _ _ ?_
  clear hK K
  refine done_ (by kernel_rfl) ?_

  try go_wp2
  go_end0
  obtain ⟨hb, hg, hat⟩ := HW.out
  have hne : ¬ own (.slice A1 (l.length + 1) c1) p := Kd.R_ne HO.out HB3.out (by decide)
  refine ⟨⟨_, rfl⟩, _, ⟨H.out.lo, HB3.out.set _, Kd.R_far (p := ⟨p, 0, none⟩) (tight HO.out) (fun k hk e => hne (by cases e; exact hk)) _, below_set hb H.out.lo⟩, fun k hk => ?_, ?_⟩
  · rcases hat with h1 | ⟨b, h1, h2⟩
    · exact .inl (hk.trans h1)
    · have : k = b := Option.some.inj (hk.trans h1)
      have := HSZ.out
      omega
  · refine Kept.setCell (Kept.of_grown hg (Kept.of_below HBE.out _) (fun k hk => .inl (.inl ?_))) (.inl (.inr rfl)) _
    exact hk.symm
set_option maxRecDepth 100000 in
set_option maxHeartbeats 1000000 in
theorem push_calls (w0 : World) (p : Nat) (u : Value) (l : List S35) (r : S35) (hl : l.length < 8796093022208) (W : World) (h : PAt w0 p u l W) :
    Calls Tryd.prog 33 #[.iface 57 (.pointer (some ⟨p, 0, none⟩)), .iface 35 (.agg #[.int .i64 r.f0, .int .i64 r.f1])] W fun e W' => (∃ v, e = .returned v) ∧ ∃ u', PAt w0 p u' (pushL l r) W' ∧ (∀ k, own u' k → own u k ∨ W.heap.size ≤ k) ∧ Kept W W' (fun k => own u k ∨ k = p) := by
  have hm := meth_push p W
  have h' := Aside0.mk h
  clear h
  go_enter Tryd.func33, Tryd.ntmps33
  go_wp2_with (first | (go_at_call 63; refine (put_calls w0 p u l r hl W h'.out).mono ?_; rintro e W1 ⟨⟨v, rfl⟩, u1, hA, hO, hK⟩; obtain ⟨A1, c1, e1, hc1, hC1⟩ := R_form hA.row; rw [show (l ++ [r]).length = l.length + 1 by simp] at e1; subst e1; have hm1 := meth_len hA.box.cell; have HL := Aside0.mk (ranges_pile_Len.calls A1 c1 (l ++ [r]) _ W1 hC1 hc1 rfl); have HA := Aside0.mk hA; have HO := Aside0.mk (And.intro hO hK); clear hA hO hK hm hc1 hC1; rw [show (l ++ [r]).length = l.length + 1 by simp] at HL) | (go_at_call 60; refine HL.out.mono ?_; rintro e W2 ⟨rfl, hd⟩; have HA2 := Aside0.mk (HA.out.under hd.below); have HD := Aside0.mk hd.below; clear hd HL HA hm1) | (go_at_call 40; refine (up_calls w0 p _ (l ++ [r]) l.length (by simp) W2 HA2.out).mono ?_; rintro e W3 ⟨⟨v3, rfl⟩, hA3, hK3⟩; have HA3 := Aside0.mk hA3; have HK3 := Aside0.mk hK3; clear hA3 hK3))
  go_end0
  have h3 := HA3.out
  rw [show (l ++ [r]).length = l.length + 1 by simp] at h3
  refine ⟨⟨_, rfl⟩, _, h3, HO.out.1, (HO.out.2.below HD.out).then_ HK3.out (fun k hk => ?_)⟩
  rcases HO.out.1 k hk with h1 | h1
  · exact .inl (.inl h1)
  · exact .inr h1
end Go.Proofs.YtedoopnjhpbjfaaDoor.Heap

/- The pile of ranges under the library's heap: one goes down, and the least one is taken. No condition beyond a bound on the pile's length. -/
set_option linter.unusedSimpArgs false
set_option linter.unusedVariables false
namespace Go.Proofs.YtedoopnjhpbjfaaDoor.Heap
open Go.RowKit Go.Shelf Go.Proofs.YtedoopnjhpbjfaaDoorW.PrintWords Go.Proofs.YtedoopnjhpbjfaaDoorW.PrintLast Go.Proofs.YtedoopnjhpbjfaaDoorW.PrintMore Go.Proofs.YtedoopnjhpbjfaaDoor.PB Go.Proofs.YtedoopnjhpbjfaaDoor.Sets
theorem less_at {w0 : World} {p c : Nat} {A : Option Addr} {l : List S35} {W : World} (h : PAt w0 p (.slice A l.length c) l W) (i j : Nat) (hi : i < l.length) (hj : j < l.length) :
    Calls Tryd.prog 61 #[.slice A l.length c, .int .i64 (i : Int), .int .i64 (j : Int)] W fun e W' => e = .returned (.bool (decide ((G l i).f0 < (G l j).f0))) ∧ PAt w0 p (.slice A l.length c) l W' ∧ Below W.heap.size W W' := by
  obtain ⟨_, h1, h2⟩ := Kd.R_reads' h.row
  refine (ranges_pile_Less.calls A c l _ _ _ W h2 h1 (less_f l i j hi hj)).mono ?_
  rintro e W1 ⟨rfl, hd⟩
  exact ⟨rfl, h.under hd.below, hd.below⟩
theorem swap_at {w0 : World} {p c : Nat} {A : Option Addr} {l : List S35} {W : World} (h : PAt w0 p (.slice A l.length c) l W) (i j : Nat) (hi : i < l.length) (hj : j < l.length) :
    Calls Tryd.prog 64 #[.slice A l.length c, .int .i64 (i : Int), .int .i64 (j : Int)] W fun e W' => e = .returned (.tuple #[]) ∧ PAt w0 p (.slice A l.length c) (swap l i j) W' ∧ Kept W W' (own (.slice A l.length c)) := by
  refine (ranges_pile_Swap.calls (own (.slice A l.length c)) _ l _ _ _ w0 _ h.below h.row (swap_f l i j hi hj)).mono ?_
  rintro e W2 ⟨rfl, hr2, hb2, hk2⟩
  exact ⟨rfl, h.wrote hr2 hb2 hk2, hk2⟩
def measN (n : Nat) (v : Value) : Nat := n - (intOf v).toNat
set_option maxRecDepth 100000 in
set_option maxHeartbeats 1000000 in
theorem down_calls (w0 : World) (p : Nat) (u : Value) (l : List S35) (n : Nat) (hn : n ≤ l.length) (h0 : 0 < l.length) (hl : l.length < 8796093022208) (W : World) (h : PAt w0 p u l W) :
    Calls Tryd.prog 41 #[.iface 57 (.pointer (some ⟨p, 0, none⟩)), .int .i64 0, .int .i64 (n : Int)] W fun e W' => (∃ v, e = .returned v) ∧ PAt w0 p u (downL l.length l 0 n) W' ∧ Kept W W' (own u) := by
  go_enter Tryd.func41, Tryd.ntmps41
  go_wp2_with fail
  go_loopw [7, 8, 9, 10] (fun vi _ _ _ wr => ∃ (i : Nat) (l' : List S35), vi = .int .i64 (i : Int) ∧ Aside0 (i < l'.length ∧ l'.length = l.length ∧ ∃ f, n ≤ i + f ∧ downL l.length l 0 n = downL f l' i n) ∧ Aside0 (PAt w0 p u l' wr) ∧ Aside0 (Kept W wr (own u)))
    (fun vi _ _ _ _ => measN l.length vi)
  case atStart => exact ⟨0, l, rfl, ⟨h0, rfl, _, by omega, rfl⟩, ⟨h⟩, ⟨Kept.refl _ _⟩⟩
  case round =>
    obtain ⟨i, l', rfl, HI, HA, HK⟩ := hrel
    obtain ⟨A, c, rfl, hlc, hC⟩ := R_form HA.out.row
    have hm := meth_less HA.out.box.cell
    have hms := meth_swap HA.out.box.cell
    obtain ⟨i1, i2, f, hf, i3⟩ := HI.out
    have hk1 : wrap64 (wrap64 (2 * (i : Int)) + 1) = ((2 * i + 1 : Nat) : Int) := by unfold wrap64; omega
    have hk2 : wrap64 (((2 * i + 1 : Nat) : Int) + 1) = ((2 * i + 2 : Nat) : Int) := by unfold wrap64; omega
    have hd2 : decide (((2 * i + 1 : Nat) : Int) < 0) = false := decide_eq_false (by omega)
    have HI := Aside0.mk (And.intro i1 (And.intro i2 hn))
    clear hlc hC h
    by_cases hx : n ≤ 2 * i + 1
    · have c1 : decide (n ≤ 2 * i + 1) = true := decide_eq_true (by omega)
      have i3 : downL l.length l 0 n = l' := by
        rw [i3]
        cases f with
        | zero => rfl
        | succ f => rw [downL, if_pos (.inl hx)]
      have HX := Aside0.mk i3
      clear i1 i2 i3 hf hx hn hl h0
      generalize 2 * i + 1 = k1 at hk1 hk2 hd2 c1
      go_wp2_with fail
      go_ret
      exact ⟨⟨_, rfl⟩, by rw [HX.out]; exact HA.out, HK.out⟩
    · have c1 : decide (n ≤ 2 * i + 1) = false := decide_eq_false (by omega)
      obtain ⟨g, rfl⟩ : ∃ g, f = g + 1 := ⟨f - 1, by omega⟩
      rw [downL] at i3
      have HKB : Aside0 (i < 2 * i + 1 ∧ 2 * i + 1 < 2 * i + 2 ∧ ¬ n ≤ 2 * i + 1) := ⟨by omega, by omega, hx⟩
      clear hx hn hl h0 i1 i2
      by_cases hy : 2 * i + 2 < n
      · have c3 : decide (2 * i + 2 < n) = true := decide_eq_true (by omega)
        have HK2 : Aside0 (2 * i + 1 < l'.length ∧ 2 * i + 2 < l'.length) := ⟨by have := HI.out; omega, by have := HI.out; omega⟩
        by_cases ha : (G l' (2 * i + 2)).f0 < (G l' (2 * i + 1)).f0
        · have c4 : decide ((G l' (2 * i + 2)).f0 < (G l' (2 * i + 1)).f0) = true := decide_eq_true ha
          have hkd : kid l' i n = 2 * i + 2 := by unfold kid; rw [if_pos ⟨hy, ha⟩]
          have HY := Aside0.mk hy
          clear hy ha
          generalize 2 * i + 2 = k2 at hk2 hkd HY c3 c4 HKB HK2
          generalize 2 * i + 1 = k1 at hk1 hk2 hd2 c1 c4 HKB HK2 i3
          have hkid : kid l' i n = k2 := hkd
          have HJ : Aside0 (k2 < l'.length) := ⟨HK2.out.2⟩
          rw [hkid] at i3
          by_cases hb : (G l' k2).f0 < (G l' i).f0
          · have c5 : decide ((G l' k2).f0 < (G l' i).f0) = true := decide_eq_true hb
            rw [if_neg (fun hh => hh.elim (fun h1 => HKB.out.2.2 h1) (fun h1 => h1 hb))] at i3
            have HX := Aside0.mk (And.intro hf i3)
            clear i3 hf hb hkid
            go_wp2_with (first | (go_at_call 61; with_reducible refine (less_at HA.out k2 k1 HK2.out.2 HK2.out.1).mono ?_; rintro e W1 ⟨rfl, hA1, hb1⟩; have HA1 := Aside0.mk hA1; have HK1 := Aside0.mk (HK.out.below hb1); have hm := meth_less hA1.box.cell; have hms := meth_swap hA1.box.cell; clear hA1 hb1) | (go_at_call 61; with_reducible refine (less_at HA1.out k2 i HJ.out HI.out.1).mono ?_; rintro e W2 ⟨rfl, hA2, hb2⟩; have HA2 := Aside0.mk hA2; have HK3 := Aside0.mk (HK1.out.below hb2); have hms2 := meth_swap hA2.box.cell; clear hA2 hb2) | (go_at_call 64; with_reducible refine (swap_at HA2.out i k2 HI.out.1 HJ.out).mono ?_; rintro e W3 ⟨rfl, hA3, hk3⟩; have HA3 := Aside0.mk hA3; have HK4 := Aside0.mk (HK3.out.then_ hk3 (fun _ hk => .inl hk)); clear hA3 hk3))
            obtain ⟨i1, i2, hn⟩ := HI.out
            obtain ⟨hf, i3⟩ := HX.out
            have hkb := HKB.out
            constructor
            · exact ⟨k2, swap l' i k2, rfl, ⟨by rw [swap_length]; exact HJ.out, by rw [swap_length]; exact i2, g, by omega, i3⟩, HA3, HK4⟩
            · have := HJ.out; unfold measN; simp [intOf]; omega
          · have c5 : decide ((G l' k2).f0 < (G l' i).f0) = false := decide_eq_false hb
            rw [if_pos (.inr hb)] at i3
            have HX := Aside0.mk i3
            clear i3 hf hb hkid
            go_wp2_with (first | (go_at_call 61; with_reducible refine (less_at HA.out k2 k1 HK2.out.2 HK2.out.1).mono ?_; rintro e W1 ⟨rfl, hA1, hb1⟩; have HA1 := Aside0.mk hA1; have HK1 := Aside0.mk (HK.out.below hb1); have hm := meth_less hA1.box.cell; have hms := meth_swap hA1.box.cell; clear hA1 hb1) | (go_at_call 61; with_reducible refine (less_at HA1.out k2 i HJ.out HI.out.1).mono ?_; rintro e W2 ⟨rfl, hA2, hb2⟩; have HA2 := Aside0.mk hA2; have HK3 := Aside0.mk (HK1.out.below hb2); have hms2 := meth_swap hA2.box.cell; clear hA2 hb2))
            go_ret
            exact ⟨⟨_, rfl⟩, by rw [HX.out]; exact HA2.out, HK3.out⟩
        · have c4 : decide ((G l' (2 * i + 2)).f0 < (G l' (2 * i + 1)).f0) = false := decide_eq_false ha
          have hkd : kid l' i n = 2 * i + 1 := by unfold kid; rw [if_neg (fun hh => ha hh.2)]
          clear hy ha
          generalize 2 * i + 2 = k2 at hk2 c3 c4 HKB HK2
          generalize 2 * i + 1 = k1 at hk1 hk2 hd2 c1 c4 HKB HK2 i3 hkd
          have hkid : kid l' i n = k1 := hkd
          have HJ : Aside0 (k1 < l'.length) := ⟨by have := HI.out; have := HKB.out; omega⟩
          rw [hkid] at i3
          by_cases hb : (G l' k1).f0 < (G l' i).f0
          · have c5 : decide ((G l' k1).f0 < (G l' i).f0) = true := decide_eq_true hb
            rw [if_neg (fun hh => hh.elim (fun h1 => HKB.out.2.2 h1) (fun h1 => h1 hb))] at i3
            have HX := Aside0.mk (And.intro hf i3)
            clear i3 hf hb hkid
            go_wp2_with (first | (go_at_call 61; with_reducible refine (less_at HA.out k2 k1 HK2.out.2 HK2.out.1).mono ?_; rintro e W1 ⟨rfl, hA1, hb1⟩; have HA1 := Aside0.mk hA1; have HK1 := Aside0.mk (HK.out.below hb1); have hm := meth_less hA1.box.cell; have hms := meth_swap hA1.box.cell; clear hA1 hb1) | (go_at_call 61; with_reducible refine (less_at HA1.out k1 i HJ.out HI.out.1).mono ?_; rintro e W2 ⟨rfl, hA2, hb2⟩; have HA2 := Aside0.mk hA2; have HK3 := Aside0.mk (HK1.out.below hb2); have hms2 := meth_swap hA2.box.cell; clear hA2 hb2) | (go_at_call 64; with_reducible refine (swap_at HA2.out i k1 HI.out.1 HJ.out).mono ?_; rintro e W3 ⟨rfl, hA3, hk3⟩; have HA3 := Aside0.mk hA3; have HK4 := Aside0.mk (HK3.out.then_ hk3 (fun _ hk => .inl hk)); clear hA3 hk3))
            obtain ⟨i1, i2, hn⟩ := HI.out
            obtain ⟨hf, i3⟩ := HX.out
            have hkb := HKB.out
            constructor
            · exact ⟨k1, swap l' i k1, rfl, ⟨by rw [swap_length]; exact HJ.out, by rw [swap_length]; exact i2, g, by omega, i3⟩, HA3, HK4⟩
            · have := HJ.out; unfold measN; simp [intOf]; omega
          · have c5 : decide ((G l' k1).f0 < (G l' i).f0) = false := decide_eq_false hb
            rw [if_pos (.inr hb)] at i3
            have HX := Aside0.mk i3
            clear i3 hf hb hkid
            go_wp2_with (first | (go_at_call 61; with_reducible refine (less_at HA.out k2 k1 HK2.out.2 HK2.out.1).mono ?_; rintro e W1 ⟨rfl, hA1, hb1⟩; have HA1 := Aside0.mk hA1; have HK1 := Aside0.mk (HK.out.below hb1); have hm := meth_less hA1.box.cell; have hms := meth_swap hA1.box.cell; clear hA1 hb1) | (go_at_call 61; with_reducible refine (less_at HA1.out k1 i HJ.out HI.out.1).mono ?_; rintro e W2 ⟨rfl, hA2, hb2⟩; have HA2 := Aside0.mk hA2; have HK3 := Aside0.mk (HK1.out.below hb2); have hms2 := meth_swap hA2.box.cell; clear hA2 hb2))
            go_ret
            exact ⟨⟨_, rfl⟩, by rw [HX.out]; exact HA2.out, HK3.out⟩
      · have c3 : decide (2 * i + 2 < n) = false := decide_eq_false (by omega)
        have hkd : kid l' i n = 2 * i + 1 := by unfold kid; rw [if_neg (fun hh => hy hh.1)]
        clear hy
        generalize 2 * i + 2 = k2 at hk2 c3 HKB
        generalize 2 * i + 1 = k1 at hk1 hk2 hd2 c1 HKB i3 hkd
        have hkid : kid l' i n = k1 := hkd
        have HJ : Aside0 (k1 < l'.length) := ⟨by have := HI.out; have := HKB.out; omega⟩
        rw [hkid] at i3
        by_cases hb : (G l' k1).f0 < (G l' i).f0
        · have c5 : decide ((G l' k1).f0 < (G l' i).f0) = true := decide_eq_true hb
          rw [if_neg (fun hh => hh.elim (fun h1 => HKB.out.2.2 h1) (fun h1 => h1 hb))] at i3
          have HX := Aside0.mk (And.intro hf i3)
          clear i3 hf hb hkid
          go_wp2_with (first | (go_at_call 61; with_reducible refine (less_at HA.out k1 i HJ.out HI.out.1).mono ?_; rintro e W2 ⟨rfl, hA2, hb2⟩; have HA2 := Aside0.mk hA2; have HK3 := Aside0.mk (HK.out.below hb2); have hms2 := meth_swap hA2.box.cell; clear hA2 hb2) | (go_at_call 64; with_reducible refine (swap_at HA2.out i k1 HI.out.1 HJ.out).mono ?_; rintro e W3 ⟨rfl, hA3, hk3⟩; have HA3 := Aside0.mk hA3; have HK4 := Aside0.mk (HK3.out.then_ hk3 (fun _ hk => .inl hk)); clear hA3 hk3))
          obtain ⟨i1, i2, hn⟩ := HI.out
          obtain ⟨hf, i3⟩ := HX.out
          have hkb := HKB.out
          constructor
          · exact ⟨k1, swap l' i k1, rfl, ⟨by rw [swap_length]; exact HJ.out, by rw [swap_length]; exact i2, g, by omega, i3⟩, HA3, HK4⟩
          · have := HJ.out; unfold measN; simp [intOf]; omega
        · have c5 : decide ((G l' k1).f0 < (G l' i).f0) = false := decide_eq_false hb
          rw [if_pos (.inr hb)] at i3
          have HX := Aside0.mk i3
          clear i3 hf hb hkid
          go_wp2_with (first | (go_at_call 61; with_reducible refine (less_at HA.out k1 i HJ.out HI.out.1).mono ?_; rintro e W2 ⟨rfl, hA2, hb2⟩; have HA2 := Aside0.mk hA2; have HK3 := Aside0.mk (HK.out.below hb2); have hms2 := meth_swap hA2.box.cell; clear hA2 hb2))
          go_ret
          exact ⟨⟨_, rfl⟩, by rw [HX.out]; exact HA2.out, HK3.out⟩
end Go.Proofs.YtedoopnjhpbjfaaDoor.Heap

/- The pile of ranges under the library's heap: the least one is taken. No condition beyond a bound on the pile's length. -/
set_option linter.unusedSimpArgs false
set_option linter.unusedVariables false
namespace Go.Proofs.YtedoopnjhpbjfaaDoor.Heap
open Go.RowKit Go.Shelf Go.Proofs.YtedoopnjhpbjfaaDoorW.PrintWords Go.Proofs.YtedoopnjhpbjfaaDoorW.PrintLast Go.Proofs.YtedoopnjhpbjfaaDoorW.PrintMore Go.Proofs.YtedoopnjhpbjfaaDoor.PB Go.Proofs.YtedoopnjhpbjfaaDoor.Sets
set_option maxRecDepth 100000 in
set_option maxHeartbeats 400000 in
theorem cut_calls (w0 : World) (p : Nat) (u : Value) (l : List S35) (h0 : 0 < l.length) (W : World) (h : PAt w0 p u l W) :
    Calls Tryd.prog 62 #[.pointer (some ⟨p, 0, none⟩)] W fun e W' => (∃ v, e = .returned v) ∧ ∃ u', PAt w0 p u' (l.take (l.length - 1)) W' ∧ (∀ k, own u' k → own u k) ∧ Kept W W' (fun k => k = p) := by
  obtain ⟨A, c, rfl, hlc, hC⟩ := R_form h.row
  have hp := h.box.cell
  have hf := h.box.frozen
  obtain ⟨n, hn⟩ : ∃ n, l.length = n + 1 := ⟨l.length - 1, by omega⟩
  have hlen : l.length ≤ 9223372036854775807 := hC.2.1
  have p1 : 0 ≤ (n : Int) := by omega
  have q1 : (n : Int) < (l.length : Int) := by omega
  obtain ⟨ad, rfl, hx0, hx1⟩ := at_T35 hC (n : Int) p1 q1
  have H := Aside0.mk h
  have HN := Aside0.mk hn
  have HL := Aside0.mk hlc
  have hw : wrap64 ((l.length : Int) - 1) = (n : Int) := by unfold wrap64; omega
  simp only [Int.toNat_natCast] at hx0 hx1
  replace p1 := eq_true p1
  replace q1 := eq_true q1
  have hbel : Below W.heap.size W (W.alloc (.cells #[.int .i64 (rd_T35 l (n : Int)).f0, .int .i64 (rd_T35 l (n : Int)).f1] 35)) := (Below.refl _ W).alloc (Nat.le_refl _) _
  have H1 := Aside0.mk (h.under hbel)
  have hp1 := H1.out.box.cell
  have hf1 := H1.out.box.frozen
  have hpn : p ≠ W.heap.size := fun e => by have := h.box.lt; omega
  have hq0 : ∀ v, ((W.alloc (.cells #[.int .i64 (rd_T35 l (n : Int)).f0, .int .i64 (rd_T35 l (n : Int)).f1] 35)).setCell ⟨p, 0, none⟩ v).heap[W.heap.size]? = some (.cells #[.int .i64 (rd_T35 l (n : Int)).f0, .int .i64 (rd_T35 l (n : Int)).f1] 35) := fun v => by
    rw [Below.heap_setCell _ _ _ _ (fun e => hpn e.symm)]
    exact World.alloc_heap_new W _
  have hq1 : ∀ v, ((W.alloc (.cells #[.int .i64 (rd_T35 l (n : Int)).f0, .int .i64 (rd_T35 l (n : Int)).f1] 35)).setCell ⟨p, 0, none⟩ v).cell? ⟨W.heap.size, 0, none⟩ = some (.int .i64 (rd_T35 l (n : Int)).f0) := fun v => by
    have e := hq0 v
    unfold World.cell?
    dsimp only
    rw [e]
    rfl
  have hq2 : ∀ v, ((W.alloc (.cells #[.int .i64 (rd_T35 l (n : Int)).f0, .int .i64 (rd_T35 l (n : Int)).f1] 35)).setCell ⟨p, 0, none⟩ v).cell? ⟨W.heap.size, 1, none⟩ = some (.int .i64 (rd_T35 l (n : Int)).f1) := fun v => by
    have e := hq0 v
    unfold World.cell?
    dsimp only
    rw [e]
    rfl
  have hnc : (n : Int) ≤ (c : Int) := by omega
  replace hnc := eq_true hnc
  have HB := Aside0.mk hbel
  clear h hC hn hlc hlen hq0 hbel
  go_enter Tryd.func62, Tryd.ntmps62
  go_wp2_with fail
  go_ret
  have hk : n = l.length - 1 := by have := HN.out; omega
  have hr := Kd.R_take (m := n) H1.out.row (by have := HN.out; omega)
  rw [← hk]
  exact ⟨⟨_, rfl⟩, _, ⟨H1.out.lo, H1.out.box.set _, tight (Kd.R_far (p := ⟨p, 0, none⟩) hr (fun k hk e => H1.out.ne (by cases e; exact hk)) _), below_set H1.out.below H1.out.lo⟩, fun k hk => hk, Kept.setCell (S := fun k => k = p) (p := ⟨p, 0, none⟩) (Kept.of_below HB.out _) (.inl rfl) _⟩
theorem downL_len (f : Nat) : ∀ (l : List S35) (i n : Nat), (downL f l i n).length = l.length := by
  induction f with
  | zero => intro l i n; rfl
  | succ f ih =>
    intro l i n
    rw [downL]
    split
    · rfl
    · rw [ih, swap_length]
theorem swap0_at {w0 : World} {p c : Nat} {A : Option Addr} {l : List S35} {W : World} (h : PAt w0 p (.slice A l.length c) l W) (j : Nat) (hi : 0 < l.length) (hj : j < l.length) :
    Calls Tryd.prog 64 #[.slice A l.length c, .int .i64 0, .int .i64 (j : Int)] W fun e W' => e = .returned (.tuple #[]) ∧ PAt w0 p (.slice A l.length c) (swap l 0 j) W' ∧ Kept W W' (own (.slice A l.length c)) := swap_at h 0 j hi hj
set_option maxRecDepth 100000 in
set_option maxHeartbeats 1000000 in
theorem pop_calls (w0 : World) (p : Nat) (u : Value) (l : List S35) (h0 : 0 < l.length) (hl : l.length < 8796093022208) (W : World) (h : PAt w0 p u l W) :
    Calls Tryd.prog 35 #[.iface 57 (.pointer (some ⟨p, 0, none⟩))] W fun e W' => (∃ v, e = .returned v) ∧ ∃ u', PAt w0 p u' (popL l) W' ∧ (∀ k, own u' k → own u k) ∧ Kept W W' (fun k => own u k ∨ k = p) := by
  obtain ⟨A, c, rfl, hlc, hC⟩ := R_form h.row
  have hm := meth_len h.box.cell
  obtain ⟨n, hn⟩ : ∃ n, l.length = n + 1 := ⟨l.length - 1, by omega⟩
  have hw : wrap64 ((l.length : Int) - 1) = (n : Int) := by unfold wrap64; omega
  have HN := Aside0.mk (And.intro hn (And.intro h0 hl))
  have HL := Aside0.mk (ranges_pile_Len.calls A c l _ W hC hlc rfl)
  have HA := Aside0.mk h
  clear h hC hlc hn h0 hl
  go_enter Tryd.func35, Tryd.ntmps35
  go_wp2_with (first | (go_at_call 60; with_reducible refine HL.out.mono ?_; rintro e W1 ⟨rfl, hd⟩; have HA1 := Aside0.mk (HA.out.under hd.below); have HB1 := Aside0.mk hd.below; have hm1 := meth_swap HA1.out.box.cell; clear hd hm HL) | (go_at_call 64; with_reducible refine (swap0_at HA1.out n HN.out.2.1 (by have := HN.out; omega)).mono ?_; rintro e W2 ⟨rfl, hA2, hk2⟩; have HA2 := Aside0.mk hA2; have HK2 := Aside0.mk hk2; clear hA2 hk2 hm1) | (go_at_call 41; with_reducible refine (down_calls w0 p _ (swap l 0 n) n (by rw [swap_length]; have := HN.out; omega) (by rw [swap_length]; exact HN.out.2.1) (by rw [swap_length]; exact HN.out.2.2) _ HA2.out).mono ?_; rintro e W3 ⟨⟨v3, rfl⟩, hA3, hk3⟩; rw [swap_length] at hA3; have HA3 := Aside0.mk hA3; have HK3 := Aside0.mk hk3; clear hA3 hk3; have hm3 := meth_pop p W3) | (go_at_call 62; with_reducible refine (cut_calls w0 p _ (downL l.length (swap l 0 n) 0 n) (by rw [downL_len, swap_length]; exact HN.out.2.1) W3 HA3.out).mono ?_; rintro e W4 ⟨⟨v4, rfl⟩, u4, hA4, ho4, hk4⟩; have HA4 := Aside0.mk hA4; have HK4 := Aside0.mk (And.intro ho4 hk4); clear hA4 ho4 hk4 hm3))
  go_ret
  obtain ⟨hn, h0, hl⟩ := HN.out
  have h4 := HA4.out
  rw [downL_len, swap_length] at h4
  refine ⟨⟨_, rfl⟩, _, ?_, HK4.out.1, ?_⟩
  · rw [popL]
    rw [show l.length - 1 = n by omega] at h4 ⊢
    exact h4
  · exact (((Kept.of_below HB1.out _).then_ HK2.out (fun k hk => .inl (.inl hk))).then_ HK3.out (fun k hk => .inl (.inl hk))).then_ HK4.out.2 (fun k hk => .inl (.inr hk))
end Go.Proofs.YtedoopnjhpbjfaaDoor.Heap

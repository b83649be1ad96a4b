import Derived.Test.YtlihkebmonfefaaDoorWLast
import Derived.Test.YtlihkebmonfefaaDoorWWords
import Derived.Test.YtlihkebmonfefaaDoorPGx0
import Derived.Test.YtlihkebmonfefaaDoorPGx3
import Derived.Test.YtlihkebmonfefaaDoorPGx4
import Derived.Test.YtlihkebmonfefaaDoorPGx5
import Derived.Test.YtlihkebmonfefaaDoorPGx7
import Derived.Test.YtlihkebmonfefaaDoorHandRight
/- A call through a slot that holds a function, in a region that draws its order (a step of the walk). -/
set_option linter.unusedSimpArgs false
namespace Go.Proofs.YtlihkebmonfefaaDoor.HandGo
open Go.RowKit Go.Proofs.YtlihkebmonfefaaDoorW.PrintWords Go.Proofs.YtlihkebmonfefaaDoorW.PrintLast
section
variable {P : Program} {ops : Array Oper} {Q : Exit → Act → World → Prop}
theorem goesF_ {oi : Oper} {N : Option Tmp} {a : Act} {w : World} {K : Act → World → Prop} {f : FuncId} {fn : Func} {o : Operand} {ars : Array Operand} {ts : Array TypeId} (x : Value) (hf : P.funcs[f]? = some fn) (hname : (fn.name == "runtime.NumGoroutine") = false) (hb : fn.body.isSome = true) (args : Array Value)
  (hw : Region.wanted oi (yielded ops a.tmps) = true) (hN : oi.dst = N) (hop : oi.op = .call { callee := .value o, args := ars, argTypes := ts }) (ho : a.eval o = .func (.func f) #[x] #[]) (hargs : #[x] ++ Array.map a.eval ars = args)
  (h : Calls P f args w fun e w' => ∃ v, e = .returned v ∧ K (a.put N v) w') : if Region.wanted oi (yielded ops a.tmps) = true then Oper.wp P oi a w K Q else K (a.put N undef) w := by
 refine call_ f args hw hN ?_ h
 have he := enters_ hf hname hb args w
 unfold execOp
 simp [hop, resolve, Deferred.ofValue, invoke, ho, hargs, he]
end
end Go.Proofs.YtlihkebmonfefaaDoor.HandGo
/- What the printer writes: put appends a text, as long as there is room. Condition: the printer lies in a block of its own. -/
set_option linter.unusedSimpArgs false
set_option linter.unusedVariables false
namespace Go.Proofs.YtlihkebmonfefaaDoor.HandPut
open Go.RowKit Go.Proofs.YtlihkebmonfefaaDoorW.PrintWords Go.Proofs.YtlihkebmonfefaaDoorW.PrintLast Go.Proofs.YtlihkebmonfefaaDoorW.PrintMore Go.Proofs.YtlihkebmonfefaaDoor.PG Go.Proofs.YtlihkebmonfefaaDoor.HandGo
theorem info5u : (Tryd.prog.info? 5).map (fun i => (i.zero, i.size, i.bytes)) = some (some (.int .u8 0), 1, 1) := by kernel_rfl
structure Pv where
 w0 : World
 g : Nat
 A0 : Option Addr
 c0 : Nat
 la : List S48
 A1 : Option Addr
 c1 : Nat
 sa : List (List S60)
 ra : Int
def Pv.obj (V : Pv) (v : Value) (full : Bool) : Obj := .cells #[.slice V.A0 V.la.length V.c0, .slice V.A1 V.sa.length V.c1, .int .i64 V.ra, v, .bool full, .func (.func 15) #[.pointer (some ⟨V.g, 0, none⟩)] #[]] 41 (0, 0)
structure Pst (V : Pv) (W : World) (v : Value) (out : List Int) (full : Bool) : Prop where
 lo : V.w0.heap.size ≤ V.g
 box : W.heap[V.g]? = some (V.obj v full)
 own : W.ownsRow V.w0.heap.size 5 1 v out.length (nums .u8 out)
 below : Below V.w0.heap.size V.w0 W
 few : out.length ≤ 4096
def Keep5 (V : Pv) (W W' : World) : Prop := W.heap.size ≤ W'.heap.size ∧ ∀ (i : Nat) (cs : Array Value) (t : TypeId), W.heap[i]? = some (.cells cs t (0, 0)) → i ≠ V.g → t ≠ 5 → W'.heap[i]? = some (.cells cs t (0, 0))
theorem Keep5.refl (V : Pv) (W : World) : Keep5 V W W := ⟨Nat.le_refl _, fun _ _ _ h _ _ => h⟩
theorem Keep5.trans {V : Pv} {W W1 W2 : World} (h : Keep5 V W W1) (k : Keep5 V W1 W2) : Keep5 V W W2 := ⟨Nat.le_trans h.1 k.1, fun i cs t a b c => k.2 i cs t (h.2 i cs t a b c) b c⟩
theorem Keep5.of_below {V : Pv} {W W1 : World} (h : Below W.heap.size W W1) : Keep5 V W W1 := ⟨h.size, fun i cs t a _ _ => blk_below a h⟩
theorem Pst.step {V : Pv} {W W1 : World} {v : Value} {out : List Int} {full : Bool} (h : Pst V W v out full) (hb : Below W.heap.size W W1) : Pst V W1 v out full :=
 ⟨h.lo, blk_below h.box hb, pw_own_below h.own hb, below_then h.below h.below.size hb, h.few⟩
def After (out : List Int) (full : Bool) (l : List Int) (out' : List Int) (full' : Bool) : Prop := (full = false ∧ out.length + l.length ≤ 4096 ∧ full' = false ∧ out' = out ++ l) ∨ ((full = true ∨ 4096 < out.length + l.length) ∧ full' = true)
theorem After.trans {o o1 o2 l l2 : List Int} {f f1 f2 : Bool} (h : After o f l o1 f1) (k : After o1 f1 l2 o2 f2) : After o f (l ++ l2) o2 f2 := by
 rcases h with ⟨h0, h1, h2, h3⟩ | ⟨h0, h1⟩
 ·rcases k with ⟨k0, k1, k2, k3⟩ | ⟨k0, k1⟩
  ·subst h3
   rw [List.length_append] at k1
   exact .inl ⟨h0, by rw [List.length_append]; omega, k2, by rw [k3, List.append_assoc]⟩
  ·refine .inr ⟨.inr ?_, k1⟩
   rcases k0 with k0 | k0
   ·rw [h2] at k0; cases k0
   ·subst h3
    rw [List.length_append] at k0 ⊢
    omega
 ·rcases k with ⟨k0, k1, k2, k3⟩ | ⟨k0, k1⟩
  ·rw [h1] at k0; cases k0
  ·refine .inr ⟨?_, k1⟩
   rcases h0 with h0 | h0
   ·exact .inl h0
   ·right; rw [List.length_append]; omega
theorem After.nil (o : List Int) (f : Bool) (h : o.length ≤ 4096) : After o f [] o f := by
 cases f with
 | false => exact .inl ⟨rfl, h, rfl, by simp⟩
 | true => exact .inr ⟨.inl rfl, rfl⟩
def Fin (V : Pv) (W : World) (out : List Int) (full : Bool) (l : List Int) (W' : World) : Prop := ∃ v' out' full', After out full l out' full' ∧ Pst V W' v' out' full' ∧ Keep5 V W W'
theorem Fin.mk_ {V : Pv} {W W' : World} {out l : List Int} {full : Bool} (v' : Value) (out' : List Int) (full' : Bool) (h1 : After out full l out' full') (h2 : Pst V W' v' out' full') (h3 : Keep5 V W W') : Fin V W out full l W' := ⟨v', out', full', h1, h2, h3⟩
theorem Pst.full_ {V : Pv} {W : World} {v : Value} {out : List Int} {full : Bool} (h : Pst V W v out full) (b : Bool) : Pst V (W.setCell ⟨V.g, 4, none⟩ (.bool b)) v out b :=
 ⟨h.lo, blk_put h.box 4 _ rfl, own_setCell h.own (own_ne h.own h.box (by decide)) _, h.below.setCell h.lo _, h.few⟩
theorem keep_set (V : Pv) (W : World) (j : Nat) (u : Value) : Keep5 V W (W.setCell ⟨V.g, j, none⟩ u) := ⟨by simp, fun i cs t a b _ => blk_far a (p := ⟨V.g, j, none⟩) b u⟩
set_option maxRecDepth 100000 in
set_option maxHeartbeats 1000000 in
theorem put_calls (V : Pv) (W : World) (v : Value) (out : List Int) (full : Bool) (h : Pst V W v out full) (s : ByteArray) (hs : s.size ≤ 140737488351232) :
  Calls Tryd.prog 15 #[.pointer (some ⟨V.g, 0, none⟩), .string s] W fun e W' => e = .returned (.tuple #[]) ∧ Fin V W out full (bytesOf s) W' := by
 obtain ⟨A, c, rfl⟩ := own_slice h.own
 have hc3 : W.cell? ⟨V.g, 3, none⟩ = some (.slice A out.length c) := (blk_cell h.box 3).trans rfl
 have hc4 : W.cell? ⟨V.g, 4, none⟩ = some (.bool full) := (blk_cell h.box 4).trans rfl
 have hf3 := blk_frozen h.box 3
 have hf4 := blk_frozen h.box 4
 have hfew := h.few
 cases full with
 | true =>
  have HF : Aside0 (Fin V W out true (bytesOf s) (W.setCell ⟨V.g, 4, none⟩ (.bool true))) := ⟨Fin.mk_ _ out true (.inr ⟨.inl rfl, rfl⟩) (h.full_ true) (keep_set V W 4 _)⟩
  clear h hfew
  go_enter Tryd.func15, Tryd.ntmps15
  go_wp2_with fail
  refine bodyPost_ret (results_none rfl _ _ _) rfl ?_
  exact ⟨rfl, HF.out⟩
 | false =>
  have hw : wrap64 (4096 - (out.length : Int)) = 4096 - (out.length : Int) := by unfold wrap64; omega
  by_cases hl : out.length + s.size ≤ 4096
  ·have hg : decide ((s.size : Int) > 4096 - (out.length : Int)) = false := decide_eq_false (by omega)
   have hg' : decide (4096 - (out.length : Int) < (s.size : Int)) = false := decide_eq_false (by omega)
   have H := Aside0.mk h
   have HL := Aside0.mk hl
   clear h hl hfew
   go_enter Tryd.func15, Tryd.ntmps15
   go_wp2_with (at_builtin; refine print_append_str (w0 := V.w0) V.w0.heap.size rfl (.tmp 26) _ 38 9 5 rfl Tryd.underlying38 Tryd.underlying9 info5u (.slice A out.length c) out s rfl rfl ?aO ?aB ?aS ?aL ?_; (case aO => exact H.out.own); (case aB => exact H.out.below); (case aS => exact H.out.below.size); (case aL => have := HL.out; omega); intro v1 w1 ho hb hg1; obtain ⟨A1, c1, rfl⟩ := own_slice ho; have hbox : w1.heap[V.g]? = some (V.obj (.slice A out.length c) false) := blk_grown H.out.box hg1 (own_ne H.out.own H.out.box (by decide)); have hf := blk_frozen hbox 3; have hc : w1.cell? ⟨V.g, 3, none⟩ = some (.slice A out.length c) := (blk_cell hbox 3).trans rfl; have HO := Aside0.mk ho; have HB := Aside0.mk hb; have HX := Aside0.mk hbox; have HG := Aside0.mk hg1; clear ho hb hbox hg1)
   have HF : Aside0 (Fin V W out false (bytesOf s) (w1.setCell ⟨V.g, 3, none⟩ (.slice A1 (out ++ bytesOf s).length c1))) := ⟨Fin.mk_ _ (out ++ bytesOf s) false (.inl ⟨rfl, by rw [bytesOf_length]; exact HL.out, rfl, rfl⟩) ⟨H.out.lo, blk_put HX.out 3 _ rfl, own_setCell HO.out (own_ne HO.out HX.out (by decide)) _, HB.out.setCell H.out.lo _, by rw [List.length_append, bytesOf_length]; exact HL.out⟩
    ⟨by have : W.heap.size ≤ w1.heap.size := HG.out.size; simpa using this, fun i cs t a b k => blk_far (blk_grown a HG.out (own_ne H.out.own a (Ne.symm k))) (p := ⟨V.g, 3, none⟩) b _⟩⟩
   have HL2 := HF.out
   rw [show (out ++ bytesOf s).length = out.length + (bytesOf s).length from List.length_append] at HL2
   go_end0
   exact ⟨rfl, HL2⟩
  ·have hg : decide ((s.size : Int) > 4096 - (out.length : Int)) = true := decide_eq_true (by omega)
   have hg' : decide (4096 - (out.length : Int) < (s.size : Int)) = true := decide_eq_true (by omega)
   have HF : Aside0 (Fin V W out false (bytesOf s) (W.setCell ⟨V.g, 4, none⟩ (.bool true))) := ⟨Fin.mk_ _ out true (.inr ⟨.inr (by rw [bytesOf_length]; omega), rfl⟩) (h.full_ true) (keep_set V W 4 _)⟩
   clear h hl hfew
   go_enter Tryd.func15, Tryd.ntmps15
   go_wp2_with fail
   refine bodyPost_ret (results_none rfl _ _ _) rfl ?_
   exact ⟨rfl, HF.out⟩
end Go.Proofs.YtlihkebmonfefaaDoor.HandPut
/- The printer's set: a set is written as a sign, or as a class. Conditions: the printer lies in a block of its own; what the text's makers tell. -/
set_option linter.unusedSimpArgs false
set_option linter.unusedVariables false
namespace Go.Proofs.YtlihkebmonfefaaDoor.HandSet
open Go.RowKit Go.Proofs.YtlihkebmonfefaaDoorW.PrintWords Go.Proofs.YtlihkebmonfefaaDoorW.PrintLast Go.Proofs.YtlihkebmonfefaaDoorW.PrintMore Go.Proofs.YtlihkebmonfefaaDoor.PG Go.Proofs.YtlihkebmonfefaaDoor.HandGo Go.Proofs.YtlihkebmonfefaaDoor.HandPut
theorem cell_al {W : World} {p : Addr} {u : Value} (h : W.cell? p = some u) (o1 : Obj) : (W.alloc o1).cell? p = some u := ((below_alloc (Below.refl _ W) o1).cell (World.block_lt_of_cell? W _ h)).trans h
theorem one_size (x : Int) : (strOfNums [x]).size ≤ 140737488351232 := by show 1 ≤ 140737488351232; decide
def SetT (k : Nat) (l : List S60) (t : ByteArray) : Prop := ∃ x is, escape_One.f k l = some (x, is) ∧ ((is = true ∧ 0 ≤ x ∧ x < 128 ∧ escape_Plain.f x = some true ∧ t = strOfNums [x]) ∨ ((is = false ∨ 128 ≤ x ∨ (0 ≤ x ∧ x < 128 ∧ escape_Plain.f x = some false)) ∧ bracket_Text.f k l = some t))
theorem fin_of {V : Pv} {W W1 W' : World} {out l : List Int} {full : Bool} (hk : Keep5 V W W1) (h : Fin V W1 out full l W') : Fin V W out full l W' := by
 obtain ⟨v', o', f', a, b, c⟩ := h
 exact ⟨v', o', f', a, b, hk.trans c⟩
set_option maxRecDepth 100000 in
set_option maxHeartbeats 2000000 in
theorem set_plain (V : Pv) (W : World) (v : Value) (out : List Int) (full : Bool) (h : Pst V W v out full) (k : Nat) (A : Option Addr) (c : Nat) (l : List S60) (hr : Kd.C k60 W A l.length l) (hc : l.length ≤ c) (x : Int) (h1 : escape_One.f k l = some (x, true)) (x0 : 0 ≤ x) (x1 : x < 128) (hp : escape_Plain.f x = some true) :
  Calls Tryd.prog 26 #[.pointer (some ⟨V.g, 0, none⟩), .slice A l.length c] W fun e W' => e = .returned (.tuple #[]) ∧ Fin V W out full (bytesOf (strOfNums [x])) W' := by
 have H := Aside0.mk h
 have HR := Aside0.mk hr
 have HC := Aside0.mk hc
 have H1' := Aside0.mk h1
 have HP := Aside0.mk hp
 have w8 : IntKind.u8.wrap x = x := IntWalk.u8_in x ⟨x0, by omega⟩
 have w8' : x % 256 = x := by omega
 have c0 : decide (x < 128) = true := decide_eq_true x1
 clear h hr hc h1 hp
 go_enter Tryd.func26, Tryd.ntmps26
 go_wp2_with (first | (go_at_call 37; (with_reducible refine (escape_One.calls k A c l x true _ HR.out HC.out H1'.out).mono ?_); rintro e W2 ⟨rfl, hb⟩; have HB2 := Aside0.mk hb; clear hb) | (go_at_call 38; (with_reducible refine (escape_Plain.calls x true _ HP.out).mono ?_); rintro e W1 ⟨rfl, hd⟩; have HB1 := Aside0.mk (below_then HB2.out HB2.out.size hd.below); clear hd HB2))
 ·have H1 := Aside0.mk (H.out.step HB1.out)
  have hc5 : W1.cell? ⟨V.g, 5, none⟩ = some (.func (.func 15) #[.pointer (some ⟨V.g, 0, none⟩)] #[]) := (blk_cell H1.out.box 5).trans rfl
  refine start_ (n := 9) (S := fun w' => w'.cell? ⟨V.g, 5, none⟩ = some (.func (.func 15) #[.pointer (some ⟨V.g, 0, none⟩)] #[])) (ds := [8]) #[false, false, false, false, false, false, false, false, false] (by kernel_rfl) rfl rfl (hc5) (fun hHeld => ?_)
  refine pq_ (i := 0) (n := 21) (bA 9 1) (by kernel_rfl) ?_
  refine pq_ (i := 1) (n := 22) (bA 9 3) (by kernel_rfl) ?_
  refine pq_ (i := 2) (n := 23) (bA 9 7) (by kernel_rfl) ?_
  refine pq_ (i := 4) (n := 25) (bA 9 23) (by kernel_rfl) ?_
  refine pq_ (i := 5) (n := 26) (bA 9 55) (by kernel_rfl) ?_
  refine tq_ (i := 3) (n := 24) (bA 9 63) (by kernel_rfl) hHeld ?_
  refine one_ (i := 6) (N := some 27) (bA 9 127) rfl rfl (by kernel_rfl) (by decide) (fun K hK => ?_)
  refine value_ (w1 := ?_) (v := ?_) (by rfl) rfl ?_ ?_
  rotate_left 2
  ·go_simp
   constructor
   ·rfl
   ·rfl
  have hcv : (convert 38 9 (.slice (some ⟨W1.heap.size, 0, none⟩) 1 1)).run Tryd.prog (W1.alloc (.cells #[.int .u8 x] 5)).drew = .ok (.string (strOfNums [x])) (W1.alloc (.cells #[.int .u8 x] 5)).drew := own_string (P := Tryd.prog) Tryd.underlying38 Tryd.underlying5 Tryd.underlying9 (own_lit W1.drew W1.drew.heap.size 5 .u8 [x] (Nat.le_refl _) (by simp))
  refine hK.out _ _ ((cell_al (W := W1.drew) hc5 _)) (fun hHeld => ?_)
  clear hK K
  refine nm_ (n := 27) ?_
  refine one_ (i := 7) (N := some 28) (bA 9 255) rfl rfl (by kernel_rfl) (by decide) (fun K hK => ?_)
  refine value_ (w1 := ?_) (v := ?_) (by rfl) rfl ?_ ?_
  rotate_left 2
  ·go_simp
   constructor
   ·rfl
   ·rfl
  refine hK.out _ _ (hHeld) (fun hHeld => ?_)
  clear hK K
  refine nm_ (n := 28) ?_
  refine last_ (i := 8) (N := some 29) #[true, true, true, true, true, true, true, true, true] rfl rfl (by kernel_rfl) (by decide) (fun K hK => ?_)
  refine goesF_ (.pointer (some ⟨V.g, 0, none⟩)) Tryd.func15 (by kernel_rfl) rfl #[.pointer (some ⟨V.g, 0, none⟩), .string (strOfNums [x])] (by rfl) rfl rfl (by rfl) (by simp only [List.map_toArray, List.map_cons, List.map_nil]; rfl) ?_
  with_reducible refine (put_calls V _ _ out full (H1.out.step (below_drew1 (below_alloc (Below.refl _ W1) _))) (strOfNums [x]) (one_size x)).mono ?_
  rintro e w4 ⟨rfl, hf⟩
  refine ⟨_, rfl, ?_⟩
  refine hK.out _ _ ?_
  clear hK K
  refine nm_ (n := 29) ?_
  refine done_ (by kernel_rfl) ?_
  have HF : Aside0 (Fin V W out full (bytesOf (strOfNums [x])) w4) := ⟨fin_of (Keep5.of_below (below_then HB1.out HB1.out.size (below_drew1 (below_alloc (Below.refl _ W1) _)))) hf⟩
  clear hf
  go_wp2_with fail
  refine bodyPost_ret (results_none rfl _ _ _) rfl ?_
  exact ⟨rfl, HF.out⟩
set_option maxRecDepth 100000 in
set_option maxHeartbeats 2000000 in
theorem set_class_a (V : Pv) (W : World) (v : Value) (out : List Int) (full : Bool) (h : Pst V W v out full) (k : Nat) (A : Option Addr) (c : Nat) (l : List S60) (hr : Kd.C k60 W A l.length l) (hc : l.length ≤ c) (hg : Kd.C (Kd.int .u8) W (some ⟨0, 0, none⟩) tab_digit_signs.length tab_digit_signs) (x : Int) (h1 : escape_One.f k l = some (x, false)) (t : ByteArray) (ht : bracket_Text.f k l = some t) (hs : t.size ≤ 140737488351232) :
  Calls Tryd.prog 26 #[.pointer (some ⟨V.g, 0, none⟩), .slice A l.length c] W fun e W' => e = .returned (.tuple #[]) ∧ Fin V W out full (bytesOf t) W' := by
 have H := Aside0.mk h
 have HR := Aside0.mk hr
 have HC := Aside0.mk hc
 have HG := Aside0.mk hg
 have H1' := Aside0.mk h1
 have HT := Aside0.mk ht
 have HS := Aside0.mk hs
 clear h hr hc h1 hg ht hs
 go_enter Tryd.func26, Tryd.ntmps26
 go_wp2_with (first | (go_at_call 37; (with_reducible refine (escape_One.calls k A c l x _ _ HR.out HC.out H1'.out).mono ?_); rintro e W2 ⟨rfl, hb⟩; have HB2 := Aside0.mk hb; clear hb))
 ·obtain ⟨W1, hW1⟩ : ∃ W1, W1 = W2 := ⟨_, rfl⟩
  subst hW1
  have HB1 := HB2
  have H1 := Aside0.mk (H.out.step HB1.out)
  have hc5 : W1.cell? ⟨V.g, 5, none⟩ = some (.func (.func 15) #[.pointer (some ⟨V.g, 0, none⟩)] #[]) := (blk_cell H1.out.box 5).trans rfl
  refine start_ (n := 7) (S := fun w' => w'.cell? ⟨V.g, 5, none⟩ = some (.func (.func 15) #[.pointer (some ⟨V.g, 0, none⟩)] #[])) (ds := [6]) #[false, false, false, false, false, false, false] (by kernel_rfl) rfl rfl (hc5) (fun hHeld => ?_)
  refine pq_ (i := 0) (n := 30) (bA 7 1) (by kernel_rfl) ?_
  refine pq_ (i := 1) (n := 31) (bA 7 3) (by kernel_rfl) ?_
  refine pq_ (i := 2) (n := 32) (bA 7 7) (by kernel_rfl) ?_
  refine pq_ (i := 4) (n := 34) (bA 7 23) (by kernel_rfl) ?_
  refine tq_ (i := 3) (n := 33) (bA 7 31) (by kernel_rfl) hHeld ?_
  refine one_ (i := 5) (N := some 35) (bA 7 63) rfl rfl (by kernel_rfl) (by decide) (fun K hK => ?_)
  refine goes_ Tryd.func39 (by kernel_rfl) rfl #[.slice A l.length c] (by rfl) rfl rfl (by simp only [List.map_toArray, List.map_cons, List.map_nil]; rfl) ?_
  with_reducible refine (bracket_Text.calls k A c l t _ (Kd.C_drew (Kd.C_below HR.out HB1.out)) HC.out (Kd.C_drew (Kd.C_below HG.out HB1.out)) HT.out).mono ?_
  rintro e w4 ⟨rfl, hb⟩
  refine ⟨_, rfl, ?_⟩
  refine hK.out _ _ ((pw_cell_below hb hc5)) (fun hHeld => ?_)
  clear hK K
  refine nm_ (n := 35) ?_
  refine last_ (i := 6) (N := some 36) #[true, true, true, true, true, true, true] rfl rfl (by kernel_rfl) (by decide) (fun K hK => ?_)
  refine goesF_ (.pointer (some ⟨V.g, 0, none⟩)) Tryd.func15 (by kernel_rfl) rfl #[.pointer (some ⟨V.g, 0, none⟩), .string t] (by rfl) rfl rfl (by rfl) (by simp only [List.map_toArray, List.map_cons, List.map_nil]; rfl) ?_
  with_reducible refine (put_calls V _ _ out full (H1.out.step (below_then (below_drew1 (Below.refl _ W1)) (Nat.le_refl _) hb)) t HS.out).mono ?_
  rintro e w5 ⟨rfl, hf⟩
  refine ⟨_, rfl, ?_⟩
  refine hK.out _ _ ?_
  clear hK K
  refine nm_ (n := 36) ?_
  refine done_ (by kernel_rfl) ?_
  have HF : Aside0 (Fin V W out full (bytesOf t) w5) := ⟨fin_of (Keep5.of_below (below_then HB1.out HB1.out.size (below_then (below_drew1 (Below.refl _ W1)) (Nat.le_refl _) hb))) hf⟩
  clear hf
  go_end0
  exact ⟨rfl, HF.out⟩
set_option maxRecDepth 100000 in
set_option maxHeartbeats 2000000 in
theorem set_class_b (V : Pv) (W : World) (v : Value) (out : List Int) (full : Bool) (h : Pst V W v out full) (k : Nat) (A : Option Addr) (c : Nat) (l : List S60) (hr : Kd.C k60 W A l.length l) (hc : l.length ≤ c) (hg : Kd.C (Kd.int .u8) W (some ⟨0, 0, none⟩) tab_digit_signs.length tab_digit_signs) (x : Int) (h1 : escape_One.f k l = some (x, true)) (x1 : 128 ≤ x) (t : ByteArray) (ht : bracket_Text.f k l = some t) (hs : t.size ≤ 140737488351232) :
  Calls Tryd.prog 26 #[.pointer (some ⟨V.g, 0, none⟩), .slice A l.length c] W fun e W' => e = .returned (.tuple #[]) ∧ Fin V W out full (bytesOf t) W' := by
 have H := Aside0.mk h
 have HR := Aside0.mk hr
 have HC := Aside0.mk hc
 have HG := Aside0.mk hg
 have H1' := Aside0.mk h1
 have HT := Aside0.mk ht
 have HS := Aside0.mk hs
 have c0 : decide (x < 128) = false := decide_eq_false (by omega)
 clear h hr hc h1 hg ht hs
 go_enter Tryd.func26, Tryd.ntmps26
 go_wp2_with (first | (go_at_call 37; (with_reducible refine (escape_One.calls k A c l x _ _ HR.out HC.out H1'.out).mono ?_); rintro e W2 ⟨rfl, hb⟩; have HB2 := Aside0.mk hb; clear hb))
 ·obtain ⟨W1, hW1⟩ : ∃ W1, W1 = W2 := ⟨_, rfl⟩
  subst hW1
  have HB1 := HB2
  have H1 := Aside0.mk (H.out.step HB1.out)
  have hc5 : W1.cell? ⟨V.g, 5, none⟩ = some (.func (.func 15) #[.pointer (some ⟨V.g, 0, none⟩)] #[]) := (blk_cell H1.out.box 5).trans rfl
  refine start_ (n := 7) (S := fun w' => w'.cell? ⟨V.g, 5, none⟩ = some (.func (.func 15) #[.pointer (some ⟨V.g, 0, none⟩)] #[])) (ds := [6]) #[false, false, false, false, false, false, false] (by kernel_rfl) rfl rfl (hc5) (fun hHeld => ?_)
  refine pq_ (i := 0) (n := 30) (bA 7 1) (by kernel_rfl) ?_
  refine pq_ (i := 1) (n := 31) (bA 7 3) (by kernel_rfl) ?_
  refine pq_ (i := 2) (n := 32) (bA 7 7) (by kernel_rfl) ?_
  refine pq_ (i := 4) (n := 34) (bA 7 23) (by kernel_rfl) ?_
  refine tq_ (i := 3) (n := 33) (bA 7 31) (by kernel_rfl) hHeld ?_
  refine one_ (i := 5) (N := some 35) (bA 7 63) rfl rfl (by kernel_rfl) (by decide) (fun K hK => ?_)
  refine goes_ Tryd.func39 (by kernel_rfl) rfl #[.slice A l.length c] (by rfl) rfl rfl (by simp only [List.map_toArray, List.map_cons, List.map_nil]; rfl) ?_
  with_reducible refine (bracket_Text.calls k A c l t _ (Kd.C_drew (Kd.C_below HR.out HB1.out)) HC.out (Kd.C_drew (Kd.C_below HG.out HB1.out)) HT.out).mono ?_
  rintro e w4 ⟨rfl, hb⟩
  refine ⟨_, rfl, ?_⟩
  refine hK.out _ _ ((pw_cell_below hb hc5)) (fun hHeld => ?_)
  clear hK K
  refine nm_ (n := 35) ?_
  refine last_ (i := 6) (N := some 36) #[true, true, true, true, true, true, true] rfl rfl (by kernel_rfl) (by decide) (fun K hK => ?_)
  refine goesF_ (.pointer (some ⟨V.g, 0, none⟩)) Tryd.func15 (by kernel_rfl) rfl #[.pointer (some ⟨V.g, 0, none⟩), .string t] (by rfl) rfl rfl (by rfl) (by simp only [List.map_toArray, List.map_cons, List.map_nil]; rfl) ?_
  with_reducible refine (put_calls V _ _ out full (H1.out.step (below_then (below_drew1 (Below.refl _ W1)) (Nat.le_refl _) hb)) t HS.out).mono ?_
  rintro e w5 ⟨rfl, hf⟩
  refine ⟨_, rfl, ?_⟩
  refine hK.out _ _ ?_
  clear hK K
  refine nm_ (n := 36) ?_
  refine done_ (by kernel_rfl) ?_
  have HF : Aside0 (Fin V W out full (bytesOf t) w5) := ⟨fin_of (Keep5.of_below (below_then HB1.out HB1.out.size (below_then (below_drew1 (Below.refl _ W1)) (Nat.le_refl _) hb))) hf⟩
  clear hf
  go_end0
  exact ⟨rfl, HF.out⟩
set_option maxRecDepth 100000 in
set_option maxHeartbeats 2000000 in
theorem set_class_c (V : Pv) (W : World) (v : Value) (out : List Int) (full : Bool) (h : Pst V W v out full) (k : Nat) (A : Option Addr) (c : Nat) (l : List S60) (hr : Kd.C k60 W A l.length l) (hc : l.length ≤ c) (hg : Kd.C (Kd.int .u8) W (some ⟨0, 0, none⟩) tab_digit_signs.length tab_digit_signs) (x : Int) (h1 : escape_One.f k l = some (x, true)) (x0 : 0 ≤ x) (x1 : x < 128) (hp : escape_Plain.f x = some false) (t : ByteArray) (ht : bracket_Text.f k l = some t) (hs : t.size ≤ 140737488351232) :
  Calls Tryd.prog 26 #[.pointer (some ⟨V.g, 0, none⟩), .slice A l.length c] W fun e W' => e = .returned (.tuple #[]) ∧ Fin V W out full (bytesOf t) W' := by
 have H := Aside0.mk h
 have HR := Aside0.mk hr
 have HC := Aside0.mk hc
 have HG := Aside0.mk hg
 have H1' := Aside0.mk h1
 have HT := Aside0.mk ht
 have HS := Aside0.mk hs
 have HP := Aside0.mk hp
 have w8 : IntKind.u8.wrap x = x := IntWalk.u8_in x ⟨x0, by omega⟩
 have w8' : x % 256 = x := by omega
 have c0 : decide (x < 128) = true := decide_eq_true x1
 clear hp
 clear h hr hc h1 hg ht hs
 go_enter Tryd.func26, Tryd.ntmps26
 go_wp2_with (first | (go_at_call 37; (with_reducible refine (escape_One.calls k A c l x _ _ HR.out HC.out H1'.out).mono ?_); rintro e W2 ⟨rfl, hb⟩; have HB2 := Aside0.mk hb; clear hb) | (go_at_call 38; (with_reducible refine (escape_Plain.calls x false _ HP.out).mono ?_); rintro e W1 ⟨rfl, hd⟩; have HB1 := Aside0.mk (below_then HB2.out HB2.out.size hd.below); clear hd HB2))
 ·have H1 := Aside0.mk (H.out.step HB1.out)
  have hc5 : W1.cell? ⟨V.g, 5, none⟩ = some (.func (.func 15) #[.pointer (some ⟨V.g, 0, none⟩)] #[]) := (blk_cell H1.out.box 5).trans rfl
  refine start_ (n := 7) (S := fun w' => w'.cell? ⟨V.g, 5, none⟩ = some (.func (.func 15) #[.pointer (some ⟨V.g, 0, none⟩)] #[])) (ds := [6]) #[false, false, false, false, false, false, false] (by kernel_rfl) rfl rfl (hc5) (fun hHeld => ?_)
  refine pq_ (i := 0) (n := 30) (bA 7 1) (by kernel_rfl) ?_
  refine pq_ (i := 1) (n := 31) (bA 7 3) (by kernel_rfl) ?_
  refine pq_ (i := 2) (n := 32) (bA 7 7) (by kernel_rfl) ?_
  refine pq_ (i := 4) (n := 34) (bA 7 23) (by kernel_rfl) ?_
  refine tq_ (i := 3) (n := 33) (bA 7 31) (by kernel_rfl) hHeld ?_
  refine one_ (i := 5) (N := some 35) (bA 7 63) rfl rfl (by kernel_rfl) (by decide) (fun K hK => ?_)
  refine goes_ Tryd.func39 (by kernel_rfl) rfl #[.slice A l.length c] (by rfl) rfl rfl (by simp only [List.map_toArray, List.map_cons, List.map_nil]; rfl) ?_
  with_reducible refine (bracket_Text.calls k A c l t _ (Kd.C_drew (Kd.C_below HR.out HB1.out)) HC.out (Kd.C_drew (Kd.C_below HG.out HB1.out)) HT.out).mono ?_
  rintro e w4 ⟨rfl, hb⟩
  refine ⟨_, rfl, ?_⟩
  refine hK.out _ _ ((pw_cell_below hb hc5)) (fun hHeld => ?_)
  clear hK K
  refine nm_ (n := 35) ?_
  refine last_ (i := 6) (N := some 36) #[true, true, true, true, true, true, true] rfl rfl (by kernel_rfl) (by decide) (fun K hK => ?_)
  refine goesF_ (.pointer (some ⟨V.g, 0, none⟩)) Tryd.func15 (by kernel_rfl) rfl #[.pointer (some ⟨V.g, 0, none⟩), .string t] (by rfl) rfl rfl (by rfl) (by simp only [List.map_toArray, List.map_cons, List.map_nil]; rfl) ?_
  with_reducible refine (put_calls V _ _ out full (H1.out.step (below_then (below_drew1 (Below.refl _ W1)) (Nat.le_refl _) hb)) t HS.out).mono ?_
  rintro e w5 ⟨rfl, hf⟩
  refine ⟨_, rfl, ?_⟩
  refine hK.out _ _ ?_
  clear hK K
  refine nm_ (n := 36) ?_
  refine done_ (by kernel_rfl) ?_
  have HF : Aside0 (Fin V W out full (bytesOf t) w5) := ⟨fin_of (Keep5.of_below (below_then HB1.out HB1.out.size (below_then (below_drew1 (Below.refl _ W1)) (Nat.le_refl _) hb))) hf⟩
  clear hf
  go_end0
  exact ⟨rfl, HF.out⟩
theorem set_calls (V : Pv) (W : World) (v : Value) (out : List Int) (full : Bool) (h : Pst V W v out full) (k : Nat) (A : Option Addr) (c : Nat) (l : List S60) (hr : Kd.C k60 W A l.length l) (hc : l.length ≤ c) (hg : Kd.C (Kd.int .u8) W (some ⟨0, 0, none⟩) tab_digit_signs.length tab_digit_signs) (t : ByteArray) (ht : SetT k l t) (hs : t.size ≤ 140737488351232) :
  Calls Tryd.prog 26 #[.pointer (some ⟨V.g, 0, none⟩), .slice A l.length c] W fun e W' => e = .returned (.tuple #[]) ∧ Fin V W out full (bytesOf t) W' := by
 obtain ⟨x, is, h1, ⟨e, x0, x1, hp, rfl⟩ | ⟨hc', hb⟩⟩ := ht
 ·subst e
  exact set_plain V W v out full h k A c l hr hc x h1 x0 x1 hp
 ·cases is with
  | false => exact set_class_a V W v out full h k A c l hr hc hg x h1 t hb hs
  | true =>
   rcases hc' with e | x1 | ⟨x0, x1, hp⟩
   ·cases e
   ·exact set_class_b V W v out full h k A c l hr hc hg x h1 x1 t hb hs
   ·exact set_class_c V W v out full h k A c l hr hc hg x h1 x0 x1 hp t hb hs
end Go.Proofs.YtlihkebmonfefaaDoor.HandSet
/- A part is written, in brackets if it is of some kinds: within. Conditions: the printer lies in a block of its own; what the node's writing does. -/
set_option linter.unusedSimpArgs false
set_option linter.unusedVariables false
namespace Go.Proofs.YtlihkebmonfefaaDoor.HandWithin
open Go.RowKit Go.Proofs.YtlihkebmonfefaaDoorW.PrintWords Go.Proofs.YtlihkebmonfefaaDoorW.PrintLast Go.Proofs.YtlihkebmonfefaaDoorW.PrintMore Go.Proofs.YtlihkebmonfefaaDoor.PG Go.Proofs.YtlihkebmonfefaaDoor.HandGo Go.Proofs.YtlihkebmonfefaaDoor.HandPut
def par (is : Bool) (t : List Int) : List Int := if is then 40 :: (t ++ [41]) else t
def NodeC (V : Pv) (i : Int) (t : List Int) : Prop := ∀ (W : World) (v : Value) (out : List Int) (full : Bool), Pst V W v out full →
 Calls Tryd.prog 16 #[.pointer (some ⟨V.g, 0, none⟩), .int .i64 i] W fun e W' => e = .returned (.tuple #[]) ∧ Fin V W out full t W'
theorem put_fin (V : Pv) (W : World) (v : Value) (out : List Int) (full : Bool) (h : Pst V W v out full) (s : ByteArray) (hs : s.size ≤ 140737488351232) (l : List Int) (hl : bytesOf s = l) :
  Calls Tryd.prog 15 #[.pointer (some ⟨V.g, 0, none⟩), .string s] W fun e W' => e = .returned (.tuple #[]) ∧ Fin V W out full l W' := by
 subst hl
 exact put_calls V W v out full h s hs
theorem ten_bd {n : Nat} (h : n ≤ 30) : n ≤ 140737488351232 := by omega
set_option maxRecDepth 100000 in
set_option maxHeartbeats 2000000 in
theorem within_calls (V : Pv) (hV : Kd.C k48 V.w0 V.A0 V.la.length V.la) (i : Int) (h0 : 0 ≤ i) (h1 : i < (V.la.length : Int)) (t : List Int) (hn : NodeC V i t) (W : World) (v : Value) (out : List Int) (full : Bool) (h : Pst V W v out full)
  (B : Option Addr) (c : Nat) (ks : List Int) (hk : Kd.C (Kd.int .i64) W B ks.length ks) (hl : ks.length < 100) (is : Bool) (his : ks.any (fun k => (rd_T48 V.la i).f0 == k) = is) :
  Calls Tryd.prog 27 #[.pointer (some ⟨V.g, 0, none⟩), .int .i64 i, .slice B ks.length c] W fun e W' => e = .returned (.tuple #[]) ∧ Fin V W out full (par is t) W' := by
 obtain ⟨ad, eA, x0, _, _, _, _, _⟩ := at_T48 (Kd.C_below hV h.below) i h0 h1
 obtain ⟨op, hop⟩ : ∃ op, (rd_T48 V.la i).f0 = op := ⟨_, rfl⟩
 rw [hop] at x0 his
 have hc0 : W.cell? ⟨V.g, 0, none⟩ = some (.slice (some ad) V.la.length V.c0) := by rw [← eA]; exact (blk_cell h.box 0).trans rfl
 have hc5 : W.cell? ⟨V.g, 5, none⟩ = some (.func (.func 15) #[.pointer (some ⟨V.g, 0, none⟩)] #[]) := (blk_cell h.box 5).trans rfl
 have p0 : (0 ≤ i) = True := eq_true h0
 have p1 : (i < (V.la.length : Int)) = True := eq_true h1
 have H := Aside0.mk h
 have HN := Aside0.mk hn
 have HK := Aside0.mk hk
 have HL := Aside0.mk hl
 have HI := Aside0.mk his
 clear h h0 h1 hn hk hl his hop eA hV
 go_enter Tryd.func27, Tryd.ntmps27
 go_wp2
 go_loop [6, 11] (fun v6 v11 => ∃ (b : Bool) (x : Int) (j : Nat), v6 = .bool b ∧ v11 = .int .i64 x ∧ Aside0 (x = (j : Int)) ∧ Aside0 (j ≤ ks.length) ∧ Aside0 ((ks.take j).any (fun k => op == k) = !b)) (fun _ v11 => ks.length - (intOf v11).toNat)
 case atStart => exact ⟨true, 0, 0, rfl, rfl, ⟨rfl⟩, ⟨Nat.zero_le _⟩, ⟨rfl⟩⟩
 case round =>
  obtain ⟨b, x, j, rfl, rfl, HX, HJ, HB⟩ := hrel
  by_cases cj : j < ks.length
  ·have hx := HX.out
   obtain ⟨kd, eB, y0⟩ := Kd.at_int HK.out x (by omega) (by omega)
   subst eB
   obtain ⟨kv, hkv⟩ : ∃ kv, rd ks x = kv := ⟨_, rfl⟩
   rw [hkv] at y0
   have q0 : (0 ≤ x) = True := eq_true (by omega)
   have q1 : (x < (ks.length : Int)) = True := eq_true (by omega)
   have q1' : decide (x < (ks.length : Int)) = true := decide_eq_true (by omega)
   have hLL := HL.out
   have hw : wrap64 (x + 1) = x + 1 := by unfold wrap64; omega
   have HT : Aside0 ((ks.take (j + 1)).any (fun k => op == k) = (!b || (op == kv))) := ⟨by
    have hg : ks[j]'cj = kv := by rw [← hkv]; simp [rd, hx, List.getD_eq_getElem?_getD, cj]
    rw [List.take_succ_eq_append_getElem cj, List.any_append, HB.out, hg]; simp⟩
   have HC := Aside0.mk cj
   clear hkv HB cj hLL hx
   cases b with
   | false =>
    go_wp2
    go_round
    case rel => exact ⟨false, _, j + 1, rfl, rfl, ⟨by have := HX.out; omega⟩, ⟨HC.out⟩, ⟨by rw [HT.out]; rfl⟩⟩
    case measure => have := HX.out; have := HC.out; simp [intOf]; omega
   | true =>
    by_cases ek : op = kv
    ·have e1 : decide (op = kv) = true := decide_eq_true ek
     have e2 : (op != kv) = false := by simp [ek]
     have HE := Aside0.mk ek
     clear ek
     go_wp2
     go_round
     case rel => exact ⟨false, _, j + 1, rfl, rfl, ⟨by have := HX.out; omega⟩, ⟨HC.out⟩, ⟨by rw [HT.out]; simp [HE.out]⟩⟩
     case measure => have := HX.out; have := HC.out; simp [intOf]; omega
    ·have e1 : decide (op = kv) = false := decide_eq_false ek
     have e2 : (op != kv) = true := by simp [ek]
     have HE := Aside0.mk ek
     clear ek
     go_wp2
     go_round
     case rel => exact ⟨true, _, j + 1, rfl, rfl, ⟨by have := HX.out; omega⟩, ⟨HC.out⟩, ⟨by rw [HT.out]; simp [HE.out]⟩⟩
     case measure => have := HX.out; have := HC.out; simp [intOf]; omega
  ·have hx := HX.out
   have q1' : decide (x < (ks.length : Int)) = false := decide_eq_false (by omega)
   have hb : is = !b := by rw [← HI.out, ← HB.out, List.take_of_length_le (by omega)]
   subst hb
   have hs1 : (1 : Nat) ≤ 140737488351232 := ten_bd (by decide)
   have HS1 := Aside0.mk hs1
   clear HB HI hx HJ HX cj hs1
   cases b with
   | true =>
    go_wp2_with (go_at_call 16; (refine (HN.out _ _ _ _ H.out).mono ?_); rintro e w4 ⟨rfl, hf⟩)
    refine bodyPost_ret (results_none rfl _ _ _) rfl ?_
    exact ⟨rfl, hf⟩
   | false =>
    go_wp2_with fail
    refine (put_fin V _ _ _ _ H.out (⟨#[40]⟩ : ByteArray) HS1.out [40] rfl).mono ?_
    rintro e w4 ⟨rfl, v4, o4, f4, ha4, hp4, hk4⟩
    have hc54 : w4.cell? ⟨V.g, 5, none⟩ = some (.func (.func 15) #[.pointer (some ⟨V.g, 0, none⟩)] #[]) := (blk_cell hp4.box 5).trans rfl
    have HP4 := Aside0.mk hp4
    have HA4 := Aside0.mk ha4
    have HK4 := Aside0.mk hk4
    clear hp4 ha4 hk4
    go_wp2_with fail
    refine (HN.out _ _ _ _ HP4.out).mono ?_
    rintro e w5 ⟨rfl, v5, o5, f5, ha5, hp5, hk5⟩
    have hc55 : w5.cell? ⟨V.g, 5, none⟩ = some (.func (.func 15) #[.pointer (some ⟨V.g, 0, none⟩)] #[]) := (blk_cell hp5.box 5).trans rfl
    have HP5 := Aside0.mk hp5
    have HA5 := Aside0.mk (HA4.out.trans ha5)
    have HK5 := Aside0.mk (HK4.out.trans hk5)
    clear hp5 ha5 hk5 HA4 HK4 HP4
    go_wp2_with fail
    refine (put_fin V _ _ _ _ HP5.out (⟨#[41]⟩ : ByteArray) HS1.out [41] rfl).mono ?_
    rintro e w6 ⟨rfl, v6, o6, f6, ha6, hp6, hk6⟩
    have HF : Aside0 (Fin V W out full (par (!false) t) w6) := ⟨Fin.mk_ v6 o6 f6 (HA5.out.trans ha6) hp6 (HK5.out.trans hk6)⟩
    clear hp6 ha6 hk6 HA5 HK5 HP5
    go_wp2_with fail
    go_end0
    exact ⟨rfl, HF.out⟩
end Go.Proofs.YtlihkebmonfefaaDoor.HandWithin
/- A node is written: the printer's node. Conditions: the printer lies in a block of its own; the tree may be; what each node's text is. -/
set_option linter.unusedSimpArgs false
set_option linter.unusedVariables false
namespace Go.Proofs.YtlihkebmonfefaaDoor.HandNode
open Go.RowKit Go.Proofs.YtlihkebmonfefaaDoorW.PrintWords Go.Proofs.YtlihkebmonfefaaDoorW.PrintLast Go.Proofs.YtlihkebmonfefaaDoorW.PrintMore Go.Proofs.YtlihkebmonfefaaDoor.PG Go.Proofs.YtlihkebmonfefaaDoor.HandRight Go.Proofs.YtlihkebmonfefaaDoor.HandGo Go.Proofs.YtlihkebmonfefaaDoor.HandPut Go.Proofs.YtlihkebmonfefaaDoor.HandSet Go.Proofs.YtlihkebmonfefaaDoor.HandWithin
structure Pv.Ok (V : Pv) : Prop where
 a0 : Kd.C k48 V.w0 V.A0 V.la.length V.la
 a1 : Kd.C (Kd.slice 60 k60) V.w0 V.A1 V.sa.length V.sa
 tab : Kd.C (Kd.int .u8) V.w0 (some ⟨0, 0, none⟩) tab_digit_signs.length tab_digit_signs
 right : ∀ i : Int, 0 ≤ i → i < (V.la.length : Int) → rightN (rd_T48 V.la i) i (V.sa.length : Int) = true
structure TxOk (V : Pv) (T : Int → List Int) : Prop where
 e1 : ∀ i : Int, 0 ≤ i → i < (V.la.length : Int) → (rd_T48 V.la i).f0 = 1 → T i = [40, 41]
 e2 : ∀ i : Int, 0 ≤ i → i < (V.la.length : Int) → (rd_T48 V.la i).f0 = 2 → ∃ k t, SetT k (rd_L4 V.sa (rd_T48 V.la i).f5) t ∧ t.size ≤ 140737488351232 ∧ T i = bytesOf t
 e3 : ∀ i : Int, 0 ≤ i → i < (V.la.length : Int) → (rd_T48 V.la i).f0 = 3 → T i = par ([4].any (fun k => (rd_T48 V.la (rd_T48 V.la i).f1).f0 == k)) (T (rd_T48 V.la i).f1) ++ par ([4, 3].any (fun k => (rd_T48 V.la (rd_T48 V.la i).f2).f0 == k)) (T (rd_T48 V.la i).f2)
 e4 : ∀ i : Int, 0 ≤ i → i < (V.la.length : Int) → (rd_T48 V.la i).f0 = 4 → T i = T (rd_T48 V.la i).f1 ++ ([124] ++ par ([4].any (fun k => (rd_T48 V.la (rd_T48 V.la i).f2).f0 == k)) (T (rd_T48 V.la i).f2))
 e5 : ∀ i : Int, 0 ≤ i → i < (V.la.length : Int) → (rd_T48 V.la i).f0 = 5 → ∃ k o, regprint_often.f k (rd_T48 V.la i).f3 (rd_T48 V.la i).f4 = some o ∧ o.size ≤ 140737488351232 ∧ T i = par ([4, 3, 5].any (fun k => (rd_T48 V.la (rd_T48 V.la i).f1).f0 == k)) (T (rd_T48 V.la i).f1) ++ bytesOf o
theorem lit_C (W : World) (xs : List Int) (hm : xs.length ≤ 9223372036854775807) (g : Nat) (hg : W.heap.size = g) : Kd.C (Kd.int .i64) (W.alloc (.cells (nums .i64 xs).toArray 3)) (some ⟨g, 0, none⟩) xs.length xs := by
 subst hg
 have h := own_lit W W.heap.size 3 .i64 xs (Nat.le_refl _) hm
 obtain ⟨A, c, e, hr⟩ := own_reads h
 cases e
 exact Kd.C_of_reads (d := (0 : Int)) hr
theorem right2 {a b c d e i m : Int} (h : rightN ⟨2, a, b, c, d, e⟩ i m = true) : 0 ≤ e ∧ e < m := by
 simp [rightN] at h
 omega
theorem right34 {o a b c d e i m : Int} (ho : o = 3 ∨ o = 4) (h : rightN ⟨o, a, b, c, d, e⟩ i m = true) : (0 ≤ a ∧ a < i) ∧ (0 ≤ b ∧ b < i) := by
 rcases ho with rfl | rfl <;> (simp [rightN] at h; omega)
theorem right5 {a b c d e i m : Int} (h : rightN ⟨5, a, b, c, d, e⟩ i m = true) : 0 ≤ a ∧ a < i := by
 simp [rightN] at h
 omega
theorem right1 {o a b c d e i m : Int} (h : rightN ⟨o, a, b, c, d, e⟩ i m = true) (n2 : o ≠ 2) (n3 : o ≠ 3) (n4 : o ≠ 4) (n5 : o ≠ 5) : o = 1 := by
 simp only [rightN] at h
 split at h
 ·assumption
 ·simp [n2, n3, n4, n5] at h
theorem keep_box {V : Pv} {W X w4 : World} (hg : V.g < W.heap.size) {x0 x1 x2 x3 x4 x5 : Int} (hx : X.heap[W.heap.size]? = some (.cells #[.int .i64 x0, .int .i64 x1, .int .i64 x2, .int .i64 x3, .int .i64 x4, .int .i64 x5] 48 (0, 0))) (hk : Keep5 V X w4) :
  w4.heap[W.heap.size]? = some (.cells #[.int .i64 x0, .int .i64 x1, .int .i64 x2, .int .i64 x3, .int .i64 x4, .int .i64 x5] 48 (0, 0)) := hk.2 _ _ 48 hx (by omega) (by decide)
set_option maxRecDepth 100000 in
set_option maxHeartbeats 2000000 in
theorem node_one (V : Pv) (hV : Pv.Ok V) (T : Int → List Int) (hT : TxOk V T) (i : Int) (h0 : 0 ≤ i) (h1 : i < (V.la.length : Int)) (ih : ∀ i' : Int, 0 ≤ i' → i' < i → NodeC V i' (T i')) (x0 x1 x2 x3 x4 x5 : Int) (hX : rd_T48 V.la i = ⟨x0, x1, x2, x3, x4, x5⟩) (hop : x0 = 1)
  (W : World) (v : Value) (out : List Int) (h : Pst V W v out false) : Calls Tryd.prog 16 #[.pointer (some ⟨V.g, 0, none⟩), .int .i64 i] W fun e W' => e = .returned (.tuple #[]) ∧ Fin V W out false (T i) W' := by
 obtain ⟨ad, eA, hx0, hx1, hx2, hx3, hx4, hx5⟩ := at_T48 (Kd.C_below hV.a0 h.below) i h0 h1
 rw [hX] at hx0 hx1 hx2 hx3 hx4 hx5
 have hR := hV.right i h0 h1
 rw [hX] at hR
 subst hop
 have hgl := blk_lt h.box
 have hc0 : W.cell? ⟨V.g, 0, none⟩ = some (.slice (some ad) V.la.length V.c0) := by rw [← eA]; exact (blk_cell h.box 0).trans rfl
 have hc4 : W.cell? ⟨V.g, 4, none⟩ = some (.bool false) := (blk_cell h.box 4).trans rfl
 have hc5 : W.cell? ⟨V.g, 5, none⟩ = some (.func (.func 15) #[.pointer (some ⟨V.g, 0, none⟩)] #[]) := (blk_cell h.box 5).trans rfl
 have hc5' := cell_al hc5 (.cells #[.int .i64 1, .int .i64 x1, .int .i64 x2, .int .i64 x3, .int .i64 x4, .int .i64 x5] 48 (0, 0))
 have p0 : (0 ≤ i) = True := eq_true h0
 have p1 : (i < (V.la.length : Int)) = True := eq_true h1
 have hbx := blk_new W (.cells #[.int .i64 1, .int .i64 x1, .int .i64 x2, .int .i64 x3, .int .i64 x4, .int .i64 x5] 48 (0, 0))
 have hb0 : (W.alloc (.cells #[.int .i64 1, .int .i64 x1, .int .i64 x2, .int .i64 x3, .int .i64 x4, .int .i64 x5] 48 (0, 0))).cell? ⟨W.heap.size, 0, none⟩ = some (.int .i64 1) := (blk_cell hbx 0).trans rfl
 have hb1 : (W.alloc (.cells #[.int .i64 1, .int .i64 x1, .int .i64 x2, .int .i64 x3, .int .i64 x4, .int .i64 x5] 48 (0, 0))).cell? ⟨W.heap.size, 1, none⟩ = some (.int .i64 x1) := (blk_cell hbx 1).trans rfl
 have hb2 : (W.alloc (.cells #[.int .i64 1, .int .i64 x1, .int .i64 x2, .int .i64 x3, .int .i64 x4, .int .i64 x5] 48 (0, 0))).cell? ⟨W.heap.size, 2, none⟩ = some (.int .i64 x2) := (blk_cell hbx 2).trans rfl
 have hb3 : (W.alloc (.cells #[.int .i64 1, .int .i64 x1, .int .i64 x2, .int .i64 x3, .int .i64 x4, .int .i64 x5] 48 (0, 0))).cell? ⟨W.heap.size, 3, none⟩ = some (.int .i64 x3) := (blk_cell hbx 3).trans rfl
 have hb4 : (W.alloc (.cells #[.int .i64 1, .int .i64 x1, .int .i64 x2, .int .i64 x3, .int .i64 x4, .int .i64 x5] 48 (0, 0))).cell? ⟨W.heap.size, 4, none⟩ = some (.int .i64 x4) := (blk_cell hbx 4).trans rfl
 have hb5 : (W.alloc (.cells #[.int .i64 1, .int .i64 x1, .int .i64 x2, .int .i64 x3, .int .i64 x4, .int .i64 x5] 48 (0, 0))).cell? ⟨W.heap.size, 5, none⟩ = some (.int .i64 x5) := (blk_cell hbx 5).trans rfl
 have H := Aside0.mk h
 have HV := Aside0.mk hV
 have HR := Aside0.mk hR
 have HIH := Aside0.mk ih
 have HI := Aside0.mk (And.intro h0 h1)
 have HGL := Aside0.mk hgl
 have hTx := hT.e1 i h0 h1 (by rw [hX])
 have HTX := Aside0.mk hTx
 clear hTx
 clear h hV hR ih h0 h1 hgl hX hT hbx eA
 go_enter Tryd.func16, Tryd.ntmps16
 go_wp2_with fail
 refine (put_fin V _ _ _ _ (H.out.step (below_alloc (Below.refl _ W) _)) (⟨#[40, 41]⟩ : ByteArray) (ten_bd (by decide)) [40, 41] rfl).mono ?_
 rintro e w4 ⟨rfl, hf⟩
 have HF : Aside0 (Fin V W out false (T i) w4) := ⟨by rw [HTX.out]; exact fin_of (Keep5.of_below (below_alloc (Below.refl _ W) _)) hf⟩
 clear hf
 go_wp2_with fail
 go_end0
 exact ⟨rfl, HF.out⟩
set_option maxRecDepth 100000 in
set_option maxHeartbeats 2000000 in
theorem node_two (V : Pv) (hV : Pv.Ok V) (T : Int → List Int) (hT : TxOk V T) (i : Int) (h0 : 0 ≤ i) (h1 : i < (V.la.length : Int)) (ih : ∀ i' : Int, 0 ≤ i' → i' < i → NodeC V i' (T i')) (x0 x1 x2 x3 x4 x5 : Int) (hX : rd_T48 V.la i = ⟨x0, x1, x2, x3, x4, x5⟩) (hop : x0 = 2)
  (W : World) (v : Value) (out : List Int) (h : Pst V W v out false) : Calls Tryd.prog 16 #[.pointer (some ⟨V.g, 0, none⟩), .int .i64 i] W fun e W' => e = .returned (.tuple #[]) ∧ Fin V W out false (T i) W' := by
 obtain ⟨ad, eA, hx0, hx1, hx2, hx3, hx4, hx5⟩ := at_T48 (Kd.C_below hV.a0 h.below) i h0 h1
 rw [hX] at hx0 hx1 hx2 hx3 hx4 hx5
 have hR := hV.right i h0 h1
 rw [hX] at hR
 subst hop
 have hgl := blk_lt h.box
 have hc0 : W.cell? ⟨V.g, 0, none⟩ = some (.slice (some ad) V.la.length V.c0) := by rw [← eA]; exact (blk_cell h.box 0).trans rfl
 have hc4 : W.cell? ⟨V.g, 4, none⟩ = some (.bool false) := (blk_cell h.box 4).trans rfl
 have hc5 : W.cell? ⟨V.g, 5, none⟩ = some (.func (.func 15) #[.pointer (some ⟨V.g, 0, none⟩)] #[]) := (blk_cell h.box 5).trans rfl
 have hc5' := cell_al hc5 (.cells #[.int .i64 2, .int .i64 x1, .int .i64 x2, .int .i64 x3, .int .i64 x4, .int .i64 x5] 48 (0, 0))
 have p0 : (0 ≤ i) = True := eq_true h0
 have p1 : (i < (V.la.length : Int)) = True := eq_true h1
 have hbx := blk_new W (.cells #[.int .i64 2, .int .i64 x1, .int .i64 x2, .int .i64 x3, .int .i64 x4, .int .i64 x5] 48 (0, 0))
 have hb0 : (W.alloc (.cells #[.int .i64 2, .int .i64 x1, .int .i64 x2, .int .i64 x3, .int .i64 x4, .int .i64 x5] 48 (0, 0))).cell? ⟨W.heap.size, 0, none⟩ = some (.int .i64 2) := (blk_cell hbx 0).trans rfl
 have hb1 : (W.alloc (.cells #[.int .i64 2, .int .i64 x1, .int .i64 x2, .int .i64 x3, .int .i64 x4, .int .i64 x5] 48 (0, 0))).cell? ⟨W.heap.size, 1, none⟩ = some (.int .i64 x1) := (blk_cell hbx 1).trans rfl
 have hb2 : (W.alloc (.cells #[.int .i64 2, .int .i64 x1, .int .i64 x2, .int .i64 x3, .int .i64 x4, .int .i64 x5] 48 (0, 0))).cell? ⟨W.heap.size, 2, none⟩ = some (.int .i64 x2) := (blk_cell hbx 2).trans rfl
 have hb3 : (W.alloc (.cells #[.int .i64 2, .int .i64 x1, .int .i64 x2, .int .i64 x3, .int .i64 x4, .int .i64 x5] 48 (0, 0))).cell? ⟨W.heap.size, 3, none⟩ = some (.int .i64 x3) := (blk_cell hbx 3).trans rfl
 have hb4 : (W.alloc (.cells #[.int .i64 2, .int .i64 x1, .int .i64 x2, .int .i64 x3, .int .i64 x4, .int .i64 x5] 48 (0, 0))).cell? ⟨W.heap.size, 4, none⟩ = some (.int .i64 x4) := (blk_cell hbx 4).trans rfl
 have hb5 : (W.alloc (.cells #[.int .i64 2, .int .i64 x1, .int .i64 x2, .int .i64 x3, .int .i64 x4, .int .i64 x5] 48 (0, 0))).cell? ⟨W.heap.size, 5, none⟩ = some (.int .i64 x5) := (blk_cell hbx 5).trans rfl
 have H := Aside0.mk h
 have HV := Aside0.mk hV
 have HR := Aside0.mk hR
 have HIH := Aside0.mk ih
 have HI := Aside0.mk (And.intro h0 h1)
 have HGL := Aside0.mk hgl
 obtain ⟨k, t, hS, hts, hTx⟩ := hT.e2 i h0 h1 (by rw [hX])
 rw [hX] at hS
 have HTX := Aside0.mk hTx
 have HT := Aside0.mk hS
 have HTS := Aside0.mk hts
 obtain ⟨i0, i1⟩ := right2 hR
 have hb' : Below W.heap.size W (W.alloc (.cells #[.int .i64 2, .int .i64 x1, .int .i64 x2, .int .i64 x3, .int .i64 x4, .int .i64 x5] 48 (0, 0))) := below_alloc (Below.refl _ W) _
 obtain ⟨sd, As, cs, eS, hs, hla, hia⟩ := at_L4 (Kd.C_below (Kd.C_below hV.a1 h.below) hb') x5 i0 i1
 have HG : Aside0 (Kd.C (Kd.int .u8) (W.alloc (.cells #[.int .i64 2, .int .i64 x1, .int .i64 x2, .int .i64 x3, .int .i64 x4, .int .i64 x5] 48 (0, 0))) (some ⟨0, 0, none⟩) tab_digit_signs.length tab_digit_signs) := ⟨Kd.C_below (Kd.C_below hV.tab h.below) hb'⟩
 have hc1' : (W.alloc (.cells #[.int .i64 2, .int .i64 x1, .int .i64 x2, .int .i64 x3, .int .i64 x4, .int .i64 x5] 48 (0, 0))).cell? ⟨V.g, 1, none⟩ = some (.slice (some sd) V.sa.length V.c1) := by rw [← eS]; exact cell_al ((blk_cell h.box 1).trans rfl) _
 have q0 : (0 ≤ x5) = True := eq_true i0
 have q1 : (x5 < (V.sa.length : Int)) = True := eq_true i1
 have q0' : decide (0 ≤ x5) = true := decide_eq_true i0
 have q1' : decide (x5 < (V.sa.length : Int)) = true := decide_eq_true i1
 have HIA := Aside0.mk hia
 have HLA := Aside0.mk hla
 clear hTx hS hts i0 i1 hb' hia hla eS
 clear h hV hR ih h0 h1 hgl hX hT hbx eA
 go_enter Tryd.func16, Tryd.ntmps16
 go_wp2_with fail
 refine start_ (n := 11) (S := fun w' => w'.cell? ⟨V.g, 1, none⟩ = some (.slice (some sd) V.sa.length V.c1) ∧ w'.cell? ⟨W.heap.size, 5, none⟩ = some (.int .i64 x5) ∧ w'.cell? (sd.add x5.toNat) = some (.slice As (rd_L4 V.sa x5).length cs)) (ds := [10]) #[false, false, false, false, false, false, false, false, false, false, false] (by kernel_rfl) rfl rfl ⟨hc1', hb5, hs⟩ (fun hHeld => ?_)
 refine pq_ (i := 0) (n := 28) (bA 11 1) (by kernel_rfl) ?_
 refine pq_ (i := 1) (n := 29) (bA 11 3) (by kernel_rfl) ?_
 refine pq_ (i := 2) (n := 30) (bA 11 7) (by kernel_rfl) ?_
 refine pq_ (i := 3) (n := 31) (bA 11 15) (by kernel_rfl) ?_
 refine pq_ (i := 4) (n := 32) (bA 11 31) (by kernel_rfl) ?_
 refine pq_ (i := 6) (n := 34) (bA 11 95) (by kernel_rfl) ?_
 refine tq_ (i := 5) (n := 33) (bA 11 127) (by kernel_rfl) hHeld ?_
 refine tq_ (i := 7) (n := 35) (bA 11 255) (by kernel_rfl) hHeld ?_
 refine pq_ (i := 8) (n := 36) (bA 11 511) (by kernel_rfl) ?_
 refine tq_ (i := 9) (n := 37) (bA 11 1023) (by kernel_rfl) hHeld ?_
 refine last_ (i := 10) (N := some 38) #[true, true, true, true, true, true, true, true, true, true, true] rfl rfl (by kernel_rfl) (by decide) (fun K hK => ?_)
 refine goes_ Tryd.func26 (by kernel_rfl) rfl #[.pointer (some ⟨V.g, 0, none⟩), .slice As (rd_L4 V.sa x5).length cs] (by rfl) rfl rfl (by simp only [List.map_toArray, List.map_cons, List.map_nil]; rfl) ?_
 with_reducible refine (set_calls V _ _ out false (H.out.step (below_drew1 (below_alloc (Below.refl _ W) _))) k As cs (rd_L4 V.sa x5) (Kd.C_drew HIA.out) HLA.out (Kd.C_drew HG.out) t HT.out HTS.out).mono ?_
 rintro e w4 ⟨rfl, hf⟩
 refine ⟨_, rfl, ?_⟩
 refine hK.out _ _ ?_
 clear hK K
 refine nm_ (n := 38) ?_
 refine done_ (by kernel_rfl) ?_
 have HF : Aside0 (Fin V W out false (T i) w4) := ⟨by rw [HTX.out]; exact fin_of (Keep5.of_below (below_drew1 (below_alloc (Below.refl _ W) _))) hf⟩
 clear hf
 go_wp2_with fail
 go_end0
 exact ⟨rfl, HF.out⟩
set_option maxRecDepth 100000 in
set_option maxHeartbeats 2000000 in
theorem node_three (V : Pv) (hV : Pv.Ok V) (T : Int → List Int) (hT : TxOk V T) (i : Int) (h0 : 0 ≤ i) (h1 : i < (V.la.length : Int)) (ih : ∀ i' : Int, 0 ≤ i' → i' < i → NodeC V i' (T i')) (x0 x1 x2 x3 x4 x5 : Int) (hX : rd_T48 V.la i = ⟨x0, x1, x2, x3, x4, x5⟩) (hop : x0 = 3)
  (W : World) (v : Value) (out : List Int) (h : Pst V W v out false) : Calls Tryd.prog 16 #[.pointer (some ⟨V.g, 0, none⟩), .int .i64 i] W fun e W' => e = .returned (.tuple #[]) ∧ Fin V W out false (T i) W' := by
 obtain ⟨ad, eA, hx0, hx1, hx2, hx3, hx4, hx5⟩ := at_T48 (Kd.C_below hV.a0 h.below) i h0 h1
 rw [hX] at hx0 hx1 hx2 hx3 hx4 hx5
 have hR := hV.right i h0 h1
 rw [hX] at hR
 subst hop
 have hgl := blk_lt h.box
 have hc0 : W.cell? ⟨V.g, 0, none⟩ = some (.slice (some ad) V.la.length V.c0) := by rw [← eA]; exact (blk_cell h.box 0).trans rfl
 have hc4 : W.cell? ⟨V.g, 4, none⟩ = some (.bool false) := (blk_cell h.box 4).trans rfl
 have hc5 : W.cell? ⟨V.g, 5, none⟩ = some (.func (.func 15) #[.pointer (some ⟨V.g, 0, none⟩)] #[]) := (blk_cell h.box 5).trans rfl
 have hc5' := cell_al hc5 (.cells #[.int .i64 3, .int .i64 x1, .int .i64 x2, .int .i64 x3, .int .i64 x4, .int .i64 x5] 48 (0, 0))
 have p0 : (0 ≤ i) = True := eq_true h0
 have p1 : (i < (V.la.length : Int)) = True := eq_true h1
 have hbx := blk_new W (.cells #[.int .i64 3, .int .i64 x1, .int .i64 x2, .int .i64 x3, .int .i64 x4, .int .i64 x5] 48 (0, 0))
 have hb0 : (W.alloc (.cells #[.int .i64 3, .int .i64 x1, .int .i64 x2, .int .i64 x3, .int .i64 x4, .int .i64 x5] 48 (0, 0))).cell? ⟨W.heap.size, 0, none⟩ = some (.int .i64 3) := (blk_cell hbx 0).trans rfl
 have hb1 : (W.alloc (.cells #[.int .i64 3, .int .i64 x1, .int .i64 x2, .int .i64 x3, .int .i64 x4, .int .i64 x5] 48 (0, 0))).cell? ⟨W.heap.size, 1, none⟩ = some (.int .i64 x1) := (blk_cell hbx 1).trans rfl
 have hb2 : (W.alloc (.cells #[.int .i64 3, .int .i64 x1, .int .i64 x2, .int .i64 x3, .int .i64 x4, .int .i64 x5] 48 (0, 0))).cell? ⟨W.heap.size, 2, none⟩ = some (.int .i64 x2) := (blk_cell hbx 2).trans rfl
 have hb3 : (W.alloc (.cells #[.int .i64 3, .int .i64 x1, .int .i64 x2, .int .i64 x3, .int .i64 x4, .int .i64 x5] 48 (0, 0))).cell? ⟨W.heap.size, 3, none⟩ = some (.int .i64 x3) := (blk_cell hbx 3).trans rfl
 have hb4 : (W.alloc (.cells #[.int .i64 3, .int .i64 x1, .int .i64 x2, .int .i64 x3, .int .i64 x4, .int .i64 x5] 48 (0, 0))).cell? ⟨W.heap.size, 4, none⟩ = some (.int .i64 x4) := (blk_cell hbx 4).trans rfl
 have hb5 : (W.alloc (.cells #[.int .i64 3, .int .i64 x1, .int .i64 x2, .int .i64 x3, .int .i64 x4, .int .i64 x5] 48 (0, 0))).cell? ⟨W.heap.size, 5, none⟩ = some (.int .i64 x5) := (blk_cell hbx 5).trans rfl
 have H := Aside0.mk h
 have HV := Aside0.mk hV
 have HR := Aside0.mk hR
 have HIH := Aside0.mk ih
 have HI := Aside0.mk (And.intro h0 h1)
 have HGL := Aside0.mk hgl
 obtain ⟨⟨a0, a1⟩, b0, b1⟩ := right34 (Or.inl rfl) hR
 have hTx := hT.e3 i h0 h1 (by rw [hX])
 rw [hX] at hTx
 have HTX := Aside0.mk hTx
 have HX1 := Aside0.mk (And.intro a0 a1)
 have HX2 := Aside0.mk (And.intro b0 b1)
 have HBX := Aside0.mk hbx
 clear hTx a0 a1 b0 b1
 clear h hV hR ih h0 h1 hgl hX hT hbx eA
 go_enter Tryd.func16, Tryd.ntmps16
 go_wp2_with fail
 refine (within_calls V HV.out.a0 x1 HX1.out.1 (Int.lt_trans HX1.out.2 HI.out.2) (T x1) (HIH.out x1 HX1.out.1 HX1.out.2) _ _ _ _ (H.out.step (below_alloc (below_alloc (Below.refl _ W) _) _)) _ _ [4] (lit_C _ [4] (by decide) _ (by simp)) (by decide) _ rfl).mono ?_
 rintro e w4 ⟨rfl, v4, o4, f4, ha4, hp4, hk4⟩
 have hbx4 := keep_box HGL.out (blk_alloc HBX.out _) hk4
 have hb41 : w4.cell? ⟨W.heap.size, 1, none⟩ = some (.int .i64 x1) := (blk_cell hbx4 1).trans rfl
 have hb42 : w4.cell? ⟨W.heap.size, 2, none⟩ = some (.int .i64 x2) := (blk_cell hbx4 2).trans rfl
 have hb43 : w4.cell? ⟨W.heap.size, 3, none⟩ = some (.int .i64 x3) := (blk_cell hbx4 3).trans rfl
 have hb44 : w4.cell? ⟨W.heap.size, 4, none⟩ = some (.int .i64 x4) := (blk_cell hbx4 4).trans rfl
 have hc54 : w4.cell? ⟨V.g, 5, none⟩ = some (.func (.func 15) #[.pointer (some ⟨V.g, 0, none⟩)] #[]) := (blk_cell hp4.box 5).trans rfl
 have HP4 := Aside0.mk hp4
 have HA4 := Aside0.mk ha4
 have HK4 := Aside0.mk (Keep5.trans (Keep5.of_below (below_alloc (below_alloc (Below.refl _ W) _) _)) hk4)
 have HBX4 := Aside0.mk hbx4
 clear hp4 ha4 hk4 hbx4
 go_wp2_with fail
 refine (within_calls V HV.out.a0 x2 HX2.out.1 (Int.lt_trans HX2.out.2 HI.out.2) (T x2) (HIH.out x2 HX2.out.1 HX2.out.2) _ _ _ _ (HP4.out.step (below_alloc (Below.refl _ w4) _)) _ _ [4, 3] (lit_C _ [4, 3] (by decide) _ (by simp)) (by decide) _ rfl).mono ?_
 rintro e w5 ⟨rfl, v5, o5, f5, ha5, hp5, hk5⟩
 have HF : Aside0 (Fin V W out false (T i) w5) := ⟨by rw [HTX.out]; exact Fin.mk_ v5 o5 f5 (HA4.out.trans ha5) hp5 (Keep5.trans HK4.out (Keep5.trans (Keep5.of_below (below_alloc (Below.refl _ w4) _)) hk5))⟩
 clear ha5 hp5 hk5
 go_wp2_with fail
 go_end0
 exact ⟨rfl, HF.out⟩
set_option maxRecDepth 100000 in
set_option maxHeartbeats 2000000 in
theorem node_four (V : Pv) (hV : Pv.Ok V) (T : Int → List Int) (hT : TxOk V T) (i : Int) (h0 : 0 ≤ i) (h1 : i < (V.la.length : Int)) (ih : ∀ i' : Int, 0 ≤ i' → i' < i → NodeC V i' (T i')) (x0 x1 x2 x3 x4 x5 : Int) (hX : rd_T48 V.la i = ⟨x0, x1, x2, x3, x4, x5⟩) (hop : x0 = 4)
  (W : World) (v : Value) (out : List Int) (h : Pst V W v out false) : Calls Tryd.prog 16 #[.pointer (some ⟨V.g, 0, none⟩), .int .i64 i] W fun e W' => e = .returned (.tuple #[]) ∧ Fin V W out false (T i) W' := by
 obtain ⟨ad, eA, hx0, hx1, hx2, hx3, hx4, hx5⟩ := at_T48 (Kd.C_below hV.a0 h.below) i h0 h1
 rw [hX] at hx0 hx1 hx2 hx3 hx4 hx5
 have hR := hV.right i h0 h1
 rw [hX] at hR
 subst hop
 have hgl := blk_lt h.box
 have hc0 : W.cell? ⟨V.g, 0, none⟩ = some (.slice (some ad) V.la.length V.c0) := by rw [← eA]; exact (blk_cell h.box 0).trans rfl
 have hc4 : W.cell? ⟨V.g, 4, none⟩ = some (.bool false) := (blk_cell h.box 4).trans rfl
 have hc5 : W.cell? ⟨V.g, 5, none⟩ = some (.func (.func 15) #[.pointer (some ⟨V.g, 0, none⟩)] #[]) := (blk_cell h.box 5).trans rfl
 have hc5' := cell_al hc5 (.cells #[.int .i64 4, .int .i64 x1, .int .i64 x2, .int .i64 x3, .int .i64 x4, .int .i64 x5] 48 (0, 0))
 have p0 : (0 ≤ i) = True := eq_true h0
 have p1 : (i < (V.la.length : Int)) = True := eq_true h1
 have hbx := blk_new W (.cells #[.int .i64 4, .int .i64 x1, .int .i64 x2, .int .i64 x3, .int .i64 x4, .int .i64 x5] 48 (0, 0))
 have hb0 : (W.alloc (.cells #[.int .i64 4, .int .i64 x1, .int .i64 x2, .int .i64 x3, .int .i64 x4, .int .i64 x5] 48 (0, 0))).cell? ⟨W.heap.size, 0, none⟩ = some (.int .i64 4) := (blk_cell hbx 0).trans rfl
 have hb1 : (W.alloc (.cells #[.int .i64 4, .int .i64 x1, .int .i64 x2, .int .i64 x3, .int .i64 x4, .int .i64 x5] 48 (0, 0))).cell? ⟨W.heap.size, 1, none⟩ = some (.int .i64 x1) := (blk_cell hbx 1).trans rfl
 have hb2 : (W.alloc (.cells #[.int .i64 4, .int .i64 x1, .int .i64 x2, .int .i64 x3, .int .i64 x4, .int .i64 x5] 48 (0, 0))).cell? ⟨W.heap.size, 2, none⟩ = some (.int .i64 x2) := (blk_cell hbx 2).trans rfl
 have hb3 : (W.alloc (.cells #[.int .i64 4, .int .i64 x1, .int .i64 x2, .int .i64 x3, .int .i64 x4, .int .i64 x5] 48 (0, 0))).cell? ⟨W.heap.size, 3, none⟩ = some (.int .i64 x3) := (blk_cell hbx 3).trans rfl
 have hb4 : (W.alloc (.cells #[.int .i64 4, .int .i64 x1, .int .i64 x2, .int .i64 x3, .int .i64 x4, .int .i64 x5] 48 (0, 0))).cell? ⟨W.heap.size, 4, none⟩ = some (.int .i64 x4) := (blk_cell hbx 4).trans rfl
 have hb5 : (W.alloc (.cells #[.int .i64 4, .int .i64 x1, .int .i64 x2, .int .i64 x3, .int .i64 x4, .int .i64 x5] 48 (0, 0))).cell? ⟨W.heap.size, 5, none⟩ = some (.int .i64 x5) := (blk_cell hbx 5).trans rfl
 have H := Aside0.mk h
 have HV := Aside0.mk hV
 have HR := Aside0.mk hR
 have HIH := Aside0.mk ih
 have HI := Aside0.mk (And.intro h0 h1)
 have HGL := Aside0.mk hgl
 obtain ⟨⟨a0, a1⟩, b0, b1⟩ := right34 (Or.inr rfl) hR
 have hTx := hT.e4 i h0 h1 (by rw [hX])
 rw [hX] at hTx
 have HTX := Aside0.mk hTx
 have HX1 := Aside0.mk (And.intro a0 a1)
 have HX2 := Aside0.mk (And.intro b0 b1)
 have HBX := Aside0.mk hbx
 clear hTx a0 a1 b0 b1
 clear h hV hR ih h0 h1 hgl hX hT hbx eA
 go_enter Tryd.func16, Tryd.ntmps16
 go_wp2_with fail
 refine (within_calls V HV.out.a0 x1 HX1.out.1 (Int.lt_trans HX1.out.2 HI.out.2) (T x1) (HIH.out x1 HX1.out.1 HX1.out.2) _ _ _ _ (H.out.step (below_alloc (Below.refl _ W) _)) _ _ [] (Kd.C_nil _ _) (by decide) _ rfl).mono ?_
 rintro e w4 ⟨rfl, v4, o4, f4, ha4, hp4, hk4⟩
 have hbx4 := keep_box HGL.out HBX.out hk4
 have hb41 : w4.cell? ⟨W.heap.size, 1, none⟩ = some (.int .i64 x1) := (blk_cell hbx4 1).trans rfl
 have hb42 : w4.cell? ⟨W.heap.size, 2, none⟩ = some (.int .i64 x2) := (blk_cell hbx4 2).trans rfl
 have hb43 : w4.cell? ⟨W.heap.size, 3, none⟩ = some (.int .i64 x3) := (blk_cell hbx4 3).trans rfl
 have hb44 : w4.cell? ⟨W.heap.size, 4, none⟩ = some (.int .i64 x4) := (blk_cell hbx4 4).trans rfl
 have hc54 : w4.cell? ⟨V.g, 5, none⟩ = some (.func (.func 15) #[.pointer (some ⟨V.g, 0, none⟩)] #[]) := (blk_cell hp4.box 5).trans rfl
 have HP4 := Aside0.mk hp4
 have HA4 := Aside0.mk ha4
 have HK4 := Aside0.mk (Keep5.trans (Keep5.of_below (below_alloc (Below.refl _ W) _)) hk4)
 have HBX4 := Aside0.mk hbx4
 clear hp4 ha4 hk4 hbx4
 go_wp2_with fail
 refine (put_fin V _ _ _ _ HP4.out (⟨#[124]⟩ : ByteArray) (ten_bd (by decide)) [124] rfl).mono ?_
 rintro e w5 ⟨rfl, v5, o5, f5, ha5, hp5, hk5⟩
 have hbx5 := keep_box HGL.out HBX4.out hk5
 have hb51 : w5.cell? ⟨W.heap.size, 1, none⟩ = some (.int .i64 x1) := (blk_cell hbx5 1).trans rfl
 have hb52 : w5.cell? ⟨W.heap.size, 2, none⟩ = some (.int .i64 x2) := (blk_cell hbx5 2).trans rfl
 have hb53 : w5.cell? ⟨W.heap.size, 3, none⟩ = some (.int .i64 x3) := (blk_cell hbx5 3).trans rfl
 have hb54 : w5.cell? ⟨W.heap.size, 4, none⟩ = some (.int .i64 x4) := (blk_cell hbx5 4).trans rfl
 have hc55 : w5.cell? ⟨V.g, 5, none⟩ = some (.func (.func 15) #[.pointer (some ⟨V.g, 0, none⟩)] #[]) := (blk_cell hp5.box 5).trans rfl
 have HP5 := Aside0.mk hp5
 have HA5 := Aside0.mk (HA4.out.trans ha5)
 have HK5 := Aside0.mk (Keep5.trans HK4.out (Keep5.trans (Keep5.of_below (Below.refl _ w4)) hk5))
 have HBX5 := Aside0.mk hbx5
 clear hp5 ha5 hk5 hbx5
 go_wp2_with fail
 refine (within_calls V HV.out.a0 x2 HX2.out.1 (Int.lt_trans HX2.out.2 HI.out.2) (T x2) (HIH.out x2 HX2.out.1 HX2.out.2) _ _ _ _ (HP5.out.step (below_alloc (Below.refl _ w5) _)) _ _ [4] (lit_C _ [4] (by decide) _ (by simp)) (by decide) _ rfl).mono ?_
 rintro e w6 ⟨rfl, v6, o6, f6, ha6, hp6, hk6⟩
 have HF : Aside0 (Fin V W out false (T i) w6) := ⟨by
  have ha := HA5.out.trans ha6
  rw [List.append_assoc] at ha
  rw [HTX.out]
  exact Fin.mk_ v6 o6 f6 ha hp6 (Keep5.trans HK5.out (Keep5.trans (Keep5.of_below (below_alloc (Below.refl _ w5) _)) hk6))⟩
 clear ha6 hp6 hk6
 go_wp2_with fail
 go_end0
 exact ⟨rfl, HF.out⟩
set_option maxRecDepth 100000 in
set_option maxHeartbeats 2000000 in
theorem node_five (V : Pv) (hV : Pv.Ok V) (T : Int → List Int) (hT : TxOk V T) (i : Int) (h0 : 0 ≤ i) (h1 : i < (V.la.length : Int)) (ih : ∀ i' : Int, 0 ≤ i' → i' < i → NodeC V i' (T i')) (x0 x1 x2 x3 x4 x5 : Int) (hX : rd_T48 V.la i = ⟨x0, x1, x2, x3, x4, x5⟩) (hop : x0 = 5)
  (W : World) (v : Value) (out : List Int) (h : Pst V W v out false) : Calls Tryd.prog 16 #[.pointer (some ⟨V.g, 0, none⟩), .int .i64 i] W fun e W' => e = .returned (.tuple #[]) ∧ Fin V W out false (T i) W' := by
 obtain ⟨ad, eA, hx0, hx1, hx2, hx3, hx4, hx5⟩ := at_T48 (Kd.C_below hV.a0 h.below) i h0 h1
 rw [hX] at hx0 hx1 hx2 hx3 hx4 hx5
 have hR := hV.right i h0 h1
 rw [hX] at hR
 subst hop
 have hgl := blk_lt h.box
 have hc0 : W.cell? ⟨V.g, 0, none⟩ = some (.slice (some ad) V.la.length V.c0) := by rw [← eA]; exact (blk_cell h.box 0).trans rfl
 have hc4 : W.cell? ⟨V.g, 4, none⟩ = some (.bool false) := (blk_cell h.box 4).trans rfl
 have hc5 : W.cell? ⟨V.g, 5, none⟩ = some (.func (.func 15) #[.pointer (some ⟨V.g, 0, none⟩)] #[]) := (blk_cell h.box 5).trans rfl
 have hc5' := cell_al hc5 (.cells #[.int .i64 5, .int .i64 x1, .int .i64 x2, .int .i64 x3, .int .i64 x4, .int .i64 x5] 48 (0, 0))
 have p0 : (0 ≤ i) = True := eq_true h0
 have p1 : (i < (V.la.length : Int)) = True := eq_true h1
 have hbx := blk_new W (.cells #[.int .i64 5, .int .i64 x1, .int .i64 x2, .int .i64 x3, .int .i64 x4, .int .i64 x5] 48 (0, 0))
 have hb0 : (W.alloc (.cells #[.int .i64 5, .int .i64 x1, .int .i64 x2, .int .i64 x3, .int .i64 x4, .int .i64 x5] 48 (0, 0))).cell? ⟨W.heap.size, 0, none⟩ = some (.int .i64 5) := (blk_cell hbx 0).trans rfl
 have hb1 : (W.alloc (.cells #[.int .i64 5, .int .i64 x1, .int .i64 x2, .int .i64 x3, .int .i64 x4, .int .i64 x5] 48 (0, 0))).cell? ⟨W.heap.size, 1, none⟩ = some (.int .i64 x1) := (blk_cell hbx 1).trans rfl
 have hb2 : (W.alloc (.cells #[.int .i64 5, .int .i64 x1, .int .i64 x2, .int .i64 x3, .int .i64 x4, .int .i64 x5] 48 (0, 0))).cell? ⟨W.heap.size, 2, none⟩ = some (.int .i64 x2) := (blk_cell hbx 2).trans rfl
 have hb3 : (W.alloc (.cells #[.int .i64 5, .int .i64 x1, .int .i64 x2, .int .i64 x3, .int .i64 x4, .int .i64 x5] 48 (0, 0))).cell? ⟨W.heap.size, 3, none⟩ = some (.int .i64 x3) := (blk_cell hbx 3).trans rfl
 have hb4 : (W.alloc (.cells #[.int .i64 5, .int .i64 x1, .int .i64 x2, .int .i64 x3, .int .i64 x4, .int .i64 x5] 48 (0, 0))).cell? ⟨W.heap.size, 4, none⟩ = some (.int .i64 x4) := (blk_cell hbx 4).trans rfl
 have hb5 : (W.alloc (.cells #[.int .i64 5, .int .i64 x1, .int .i64 x2, .int .i64 x3, .int .i64 x4, .int .i64 x5] 48 (0, 0))).cell? ⟨W.heap.size, 5, none⟩ = some (.int .i64 x5) := (blk_cell hbx 5).trans rfl
 have H := Aside0.mk h
 have HV := Aside0.mk hV
 have HR := Aside0.mk hR
 have HIH := Aside0.mk ih
 have HI := Aside0.mk (And.intro h0 h1)
 have HGL := Aside0.mk hgl
 obtain ⟨a0, a1⟩ := right5 hR
 obtain ⟨k, o, ho, hos, hTx⟩ := hT.e5 i h0 h1 (by rw [hX])
 rw [hX] at ho hTx
 have HTX := Aside0.mk hTx
 have HO := Aside0.mk ho
 have HOS := Aside0.mk hos
 have HX1 := Aside0.mk (And.intro a0 a1)
 have HBX := Aside0.mk hbx
 have HG0 := Aside0.mk hV.tab
 clear hTx a0 a1 ho hos
 clear h hV hR ih h0 h1 hgl hX hT hbx eA
 go_enter Tryd.func16, Tryd.ntmps16
 go_wp2_with fail
 refine (within_calls V HV.out.a0 x1 HX1.out.1 (Int.lt_trans HX1.out.2 HI.out.2) (T x1) (HIH.out x1 HX1.out.1 HX1.out.2) _ _ _ _ (H.out.step (below_alloc (below_alloc (Below.refl _ W) _) _)) _ _ [4, 3, 5] (lit_C _ [4, 3, 5] (by decide) _ (by simp)) (by decide) _ rfl).mono ?_
 rintro e w4 ⟨rfl, v4, o4, f4, ha4, hp4, hk4⟩
 have hbx4 := keep_box HGL.out (blk_alloc HBX.out _) hk4
 have hb41 : w4.cell? ⟨W.heap.size, 1, none⟩ = some (.int .i64 x1) := (blk_cell hbx4 1).trans rfl
 have hb42 : w4.cell? ⟨W.heap.size, 2, none⟩ = some (.int .i64 x2) := (blk_cell hbx4 2).trans rfl
 have hb43 : w4.cell? ⟨W.heap.size, 3, none⟩ = some (.int .i64 x3) := (blk_cell hbx4 3).trans rfl
 have hb44 : w4.cell? ⟨W.heap.size, 4, none⟩ = some (.int .i64 x4) := (blk_cell hbx4 4).trans rfl
 have hc54 : w4.cell? ⟨V.g, 5, none⟩ = some (.func (.func 15) #[.pointer (some ⟨V.g, 0, none⟩)] #[]) := (blk_cell hp4.box 5).trans rfl
 have HP4 := Aside0.mk hp4
 have HA4 := Aside0.mk ha4
 have HK4 := Aside0.mk (Keep5.trans (Keep5.of_below (below_alloc (below_alloc (Below.refl _ W) _) _)) hk4)
 have HBX4 := Aside0.mk hbx4
 clear hp4 ha4 hk4 hbx4
 go_wp2_with fail
 refine start_ (n := 10) (S := fun w' => w'.cell? ⟨V.g, 5, none⟩ = some (.func (.func 15) #[.pointer (some ⟨V.g, 0, none⟩)] #[]) ∧ w'.cell? ⟨W.heap.size, 3, none⟩ = some (.int .i64 x3) ∧ w'.cell? ⟨W.heap.size, 4, none⟩ = some (.int .i64 x4)) (ds := [9]) #[false, false, false, false, false, false, false, false, false, false] (by kernel_rfl) rfl rfl ⟨hc54, hb43, hb44⟩ (fun hHeld => ?_)
 refine pq_ (i := 0) (n := 74) (bA 10 1) (by kernel_rfl) ?_
 refine pq_ (i := 1) (n := 75) (bA 10 3) (by kernel_rfl) ?_
 refine pq_ (i := 2) (n := 76) (bA 10 7) (by kernel_rfl) ?_
 refine pq_ (i := 4) (n := 78) (bA 10 23) (by kernel_rfl) ?_
 refine pq_ (i := 6) (n := 80) (bA 10 87) (by kernel_rfl) ?_
 refine tq_ (i := 3) (n := 77) (bA 10 95) (by kernel_rfl) hHeld ?_
 refine tq_ (i := 5) (n := 79) (bA 10 127) (by kernel_rfl) hHeld ?_
 refine tq_ (i := 7) (n := 81) (bA 10 255) (by kernel_rfl) hHeld ?_
 refine one_ (i := 8) (N := some 82) (bA 10 511) rfl rfl (by kernel_rfl) (by decide) (fun K hK => ?_)
 refine goes_ Tryd.func28 (by kernel_rfl) rfl #[.int .i64 x3, .int .i64 x4] (by rfl) rfl rfl (by simp only [List.map_toArray, List.map_cons, List.map_nil]; rfl) ?_
 with_reducible refine (regprint_often.calls k x3 x4 o _ (Kd.C_drew (Kd.C_below HG0.out HP4.out.below)) HO.out).mono ?_
 rintro e w5 ⟨rfl, hb⟩
 refine ⟨_, rfl, ?_⟩
 refine hK.out _ _ ⟨(pw_cell_below hb hc54), (pw_cell_below hb hb43), (pw_cell_below hb hb44)⟩ (fun hHeld => ?_)
 clear hK K
 refine nm_ (n := 82) ?_
 refine last_ (i := 9) (N := some 83) #[true, true, true, true, true, true, true, true, true, true] rfl rfl (by kernel_rfl) (by decide) (fun K hK => ?_)
 refine goesF_ (.pointer (some ⟨V.g, 0, none⟩)) Tryd.func15 (by kernel_rfl) rfl #[.pointer (some ⟨V.g, 0, none⟩), .string o] (by rfl) rfl rfl (by rfl) (by simp only [List.map_toArray, List.map_cons, List.map_nil]; rfl) ?_
 with_reducible refine (put_calls V _ _ o4 f4 (HP4.out.step (below_then (below_drew1 (Below.refl _ w4)) (Nat.le_refl _) hb)) o HOS.out).mono ?_
 rintro e w6 ⟨rfl, hf⟩
 refine ⟨_, rfl, ?_⟩
 refine hK.out _ _ ?_
 clear hK K
 refine nm_ (n := 83) ?_
 refine done_ (by kernel_rfl) ?_
 obtain ⟨v6, o6, f6, ha6, hp6, hk6⟩ := hf
 have HF : Aside0 (Fin V W out false (T i) w6) := ⟨by rw [HTX.out]; exact Fin.mk_ v6 o6 f6 (HA4.out.trans ha6) hp6 (Keep5.trans HK4.out (Keep5.trans (Keep5.of_below (below_then (below_drew1 (Below.refl _ w4)) (Nat.le_refl _) hb)) hk6))⟩
 clear ha6 hp6 hk6
 go_wp2_with fail
 go_end0
 exact ⟨rfl, HF.out⟩
set_option maxRecDepth 100000 in
set_option maxHeartbeats 2000000 in
theorem node_full (V : Pv) (i : Int) (t : List Int) (W : World) (v : Value) (out : List Int) (h : Pst V W v out true) : Calls Tryd.prog 16 #[.pointer (some ⟨V.g, 0, none⟩), .int .i64 i] W fun e W' => e = .returned (.tuple #[]) ∧ Fin V W out true t W' := by
 have hc4 : W.cell? ⟨V.g, 4, none⟩ = some (.bool true) := (blk_cell h.box 4).trans rfl
 have HF : Aside0 (Fin V W out true t W) := ⟨Fin.mk_ v out true (.inr ⟨.inl rfl, rfl⟩) h (Keep5.refl V W)⟩
 clear h
 go_enter Tryd.func16, Tryd.ntmps16
 go_wp2_with fail
 refine bodyPost_ret (results_none rfl _ _ _) rfl ?_
 exact ⟨rfl, HF.out⟩
theorem node_all (V : Pv) (hV : Pv.Ok V) (T : Int → List Int) (hT : TxOk V T) (n : Nat) : ∀ i : Int, 0 ≤ i → i < (V.la.length : Int) → i < (n : Int) → NodeC V i (T i) := by
 induction n with
 | zero => intro i h0 _ h2; omega
 | succ n ih =>
  intro i h0 h1 h2 W v out full h
  cases full with
  | true => exact node_full V i (T i) W v out h
  | false =>
   have ih' : ∀ i' : Int, 0 ≤ i' → i' < i → NodeC V i' (T i') := fun i' a b => ih i' a (by omega) (by omega)
   obtain ⟨x0, x1, x2, x3, x4, x5, hX⟩ : ∃ x0 x1 x2 x3 x4 x5, rd_T48 V.la i = ⟨x0, x1, x2, x3, x4, x5⟩ := ⟨_, _, _, _, _, _, rfl⟩
   have hR := hV.right i h0 h1
   rw [hX] at hR
   by_cases c2 : x0 = 2
   ·exact node_two V hV T hT i h0 h1 ih' x0 x1 x2 x3 x4 x5 hX c2 W v out h
   by_cases c3 : x0 = 3
   ·exact node_three V hV T hT i h0 h1 ih' x0 x1 x2 x3 x4 x5 hX c3 W v out h
   by_cases c4 : x0 = 4
   ·exact node_four V hV T hT i h0 h1 ih' x0 x1 x2 x3 x4 x5 hX c4 W v out h
   by_cases c5 : x0 = 5
   ·exact node_five V hV T hT i h0 h1 ih' x0 x1 x2 x3 x4 x5 hX c5 W v out h
   exact node_one V hV T hT i h0 h1 ih' x0 x1 x2 x3 x4 x5 hX (right1 hR c2 c3 c4 c5) W v out h
end Go.Proofs.YtlihkebmonfefaaDoor.HandNode

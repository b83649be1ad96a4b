import Derived.Test.YtlihkebmonfefaaDoorPGx0
import Derived.Test.YtlihkebmonfefaaDoorWLast
import Derived.Test.YtlihkebmonfefaaDoorWWords
import Derived.Test.YtlihkebmonfefaaDoorWMore
import Derived.Test.YtlihkebmonfefaaDoorPGx15
import Derived.Test.YtlihkebmonfefaaDoorHandRight
import Derived.Test.YtlihkebmonfefaaDoorHandNode
/- How deep a part is (the closure of regprint.Deep). Conditions: the tree lies there, and the depths' row. -/
set_option linter.unusedSimpArgs false
set_option linter.unusedVariables false
namespace Go.Proofs.YtlihkebmonfefaaDoor.HandPart
open Go.RowKit Go.Proofs.YtlihkebmonfefaaDoorW.PrintWords Go.Proofs.YtlihkebmonfefaaDoorW.PrintLast Go.Proofs.YtlihkebmonfefaaDoorW.PrintMore Go.Proofs.YtlihkebmonfefaaDoor.PG
section
variable {P : Program} {ops : Array Oper} {Q : Exit → Act → World → Prop}
theorem goesC_ {oi : Oper} {N : Option Tmp} {a : Act} {w : World} {K : Act → World → Prop} {f : FuncId} {fn : Func} {o : Operand} {ars : Array Operand} {ts : Array TypeId} (cs : Array Value) (hf : P.funcs[f]? = some fn) (hname : (fn.name == "runtime.NumGoroutine") = false) (hb : fn.body.isSome = true) (args : Array Value)
  (hw : Region.wanted oi (yielded ops a.tmps) = true) (hN : oi.dst = N) (hop : oi.op = .call { callee := .value o, args := ars, argTypes := ts }) (ho : a.eval o = .func (.func f) #[] cs) (hargs : Array.map a.eval ars ++ cs = args)
  (h : Calls P f args w fun e w' => ∃ v, e = .returned v ∧ K (a.put N v) w') : if Region.wanted oi (yielded ops a.tmps) = true then Oper.wp P oi a w K Q else K (a.put N undef) w := by
 refine call_ f args hw hN ?_ h
 have he := enters_ hf hname hb args w
 unfold execOp
 simp [hop, resolve, Deferred.ofValue, invoke, ho, hargs, he]
end
structure PartW (W : World) (tb ab a : Nat) (ad : Addr) (la : List S48) (c0 cap : Nat) (xs : List Int) : Prop where
 t : W.cell? ⟨tb, 0, none⟩ = some (.slice (some ad) la.length c0)
 n : Kd.C k48 W (some ad) la.length la
 b : W.cell? ⟨ab, 0, none⟩ = some (.slice (some ⟨a, 0, none⟩) xs.length cap)
 r : Kd.C (Kd.int .i64) W (some ⟨a, 0, none⟩) xs.length xs
theorem PartW.step {W W1 : World} {tb ab a : Nat} {ad : Addr} {la : List S48} {c0 cap : Nat} {xs : List Int} (h : PartW W tb ab a ad la c0 cap xs) (hb : Below W.heap.size W W1) : PartW W1 tb ab a ad la c0 cap xs :=
 ⟨pw_cell_below hb h.t, Kd.C_below h.n hb, pw_cell_below hb h.b, Kd.C_below h.r hb⟩
def up (is : Bool) (d : Int) : Int := if is then d + 1 else d
set_option maxRecDepth 100000 in
set_option maxHeartbeats 2000000 in
theorem part_calls (W : World) (tb ab a : Nat) (ad : Addr) (la : List S48) (c0 cap : Nat) (xs : List Int) (h : PartW W tb ab a ad la c0 cap xs) (hl : xs.length = la.length) (i : Int) (h0 : 0 ≤ i) (h1 : i < (la.length : Int)) (d : Int) (hd : rd xs i = d) (hd0 : 0 ≤ d) (hd1 : d ≤ 5000)
  (B : Option Addr) (c : Nat) (ks : List Int) (hk : Kd.C (Kd.int .i64) W B ks.length ks) (hkl : ks.length < 100) (is : Bool) (his : ks.any (fun k => (rd_T48 la i).f0 == k) = is) :
  Calls Tryd.prog 19 #[.int .i64 i, .slice B ks.length c, .pointer (some ⟨tb, 0, none⟩), .pointer (some ⟨ab, 0, none⟩)] W fun e W' => e = .returned (.int .i64 (up is d)) ∧ W' = W := by
 obtain ⟨ad', eA, x0, _, _, _, _, _⟩ := at_T48 h.n i h0 h1
 cases eA
 obtain ⟨rd', eR, y0⟩ := Kd.at_int h.r i h0 (by omega)
 cases eR
 rw [hd, add_plain] at y0
 obtain ⟨op, hop⟩ : ∃ op, (rd_T48 la i).f0 = op := ⟨_, rfl⟩
 rw [hop] at x0 his
 have hc0 := h.t
 have hc1 := h.b
 have p0 : (0 ≤ i) = True := eq_true h0
 have p1 : (i < (la.length : Int)) = True := eq_true h1
 have p2 : (i < (xs.length : Int)) = True := eq_true (by omega)
 have hw1 : wrap64 (d + 1) = d + 1 := by unfold wrap64; omega
 have HK := Aside0.mk hk
 have HL := Aside0.mk hkl
 have HI := Aside0.mk his
 clear h h0 h1 hk hkl his hop hd hl
 go_enter Tryd.func19, Tryd.ntmps19
 go_wp2
 go_loop [11] (fun v11 => ∃ (x : Int) (j : Nat), v11 = .int .i64 x ∧ Aside0 (x = (j : Int)) ∧ Aside0 (j ≤ ks.length) ∧ Aside0 ((ks.take j).any (fun k => op == k) = false)) (fun v11 => ks.length - (intOf v11).toNat)
 case atStart => exact ⟨0, 0, rfl, ⟨rfl⟩, ⟨Nat.zero_le _⟩, ⟨rfl⟩⟩
 case round =>
  obtain ⟨x, j, rfl, HX, HJ, HB⟩ := hrel
  by_cases cj : j < ks.length
  ·have hx := HX.out
   obtain ⟨kd, eB, z0⟩ := Kd.at_int HK.out x (by omega) (by omega)
   subst eB
   obtain ⟨kv, hkv⟩ : ∃ kv, rd ks x = kv := ⟨_, rfl⟩
   rw [hkv] at z0
   have q0 : (0 ≤ x) = True := eq_true (by omega)
   have q1 : (x < (ks.length : Int)) = True := eq_true (by omega)
   have q1' : decide (x < (ks.length : Int)) = true := decide_eq_true (by omega)
   have hLL := HL.out
   have hw : wrap64 (x + 1) = x + 1 := by unfold wrap64; omega
   have hg : ks[j]'cj = kv := by rw [← hkv]; simp [rd, hx, List.getD_eq_getElem?_getD, cj]
   have HT : Aside0 ((ks.take (j + 1)).any (fun k => op == k) = (op == kv)) := ⟨by
    rw [List.take_succ_eq_append_getElem cj, List.any_append, HB.out, hg]; simp⟩
   have HM : Aside0 (kv ∈ ks) := ⟨by rw [← hg]; exact List.getElem_mem cj⟩
   have HC := Aside0.mk cj
   clear hkv HB cj hLL hx hg
   by_cases ek : op = kv
   ·have e1 : decide (op = kv) = true := decide_eq_true ek
    have e2 : (op == kv) = true := by simp [ek]
    have HE := Aside0.mk ek
    have his' : is = true := by rw [← HI.out, List.any_eq_true]; exact ⟨kv, HM.out, by simp [HE.out]⟩
    subst his'
    clear ek
    go_wp2
    go_ret
    exact ⟨rfl, rfl⟩
   ·have e1 : decide (op = kv) = false := decide_eq_false ek
    have e2 : (op == kv) = false := by simp [ek]
    have HE := Aside0.mk ek
    clear ek
    go_wp2
    go_round
    case rel => exact ⟨_, j + 1, rfl, ⟨by have := HX.out; omega⟩, ⟨HC.out⟩, ⟨by rw [HT.out]; simp [HE.out]⟩⟩
    case measure => have := HX.out; have := HC.out; simp [intOf]; omega
  ·have hx := HX.out
   have q1' : decide (x < (ks.length : Int)) = false := decide_eq_false (by omega)
   have hb : is = false := by rw [← HI.out, ← HB.out, List.take_of_length_le (by omega)]
   subst hb
   clear HB HI hx HJ HX cj
   go_wp2
   go_ret
   exact ⟨rfl, rfl⟩
end Go.Proofs.YtlihkebmonfefaaDoor.HandPart
/- How deep the brackets of an expression's text are: regprint.Deep. Conditions: the tree lies there; the walk is within the rounds. -/
set_option linter.unusedSimpArgs false
set_option linter.unusedVariables false
namespace Go.Proofs.YtlihkebmonfefaaDoor.HandDeep
open Go.RowKit Go.Proofs.YtlihkebmonfefaaDoorW.PrintWords Go.Proofs.YtlihkebmonfefaaDoorW.PrintLast Go.Proofs.YtlihkebmonfefaaDoorW.PrintMore Go.Proofs.YtlihkebmonfefaaDoor.PG Go.Proofs.YtlihkebmonfefaaDoor.HandRight Go.Proofs.YtlihkebmonfefaaDoor.HandPart
open Go.Proofs.YtlihkebmonfefaaDoor.HandNode (lit_C right2 right34 right5 right1)
attribute [local go_sem] max2_int min2_int max_two min_two max_three min_three max_four min_four   -- for this text's walks alone
theorem cell_al {W : World} {p : Addr} {u : Value} (h : W.cell? p = some u) (o1 : Obj) : (W.alloc o1).cell? p = some u := ((below_alloc (Below.refl _ W) o1).cell (World.block_lt_of_cell? W _ h)).trans h
theorem frozen_below {W W1 : World} (h : Below W.heap.size W W1) {p : Addr} (hp : p.block < W.heap.size) {b : Bool} (hf : W.frozen? p = b) : W1.frozen? p = b := (h.frozen hp).trans hf
def litO (xs : List Int) : Obj := .cells (nums .i64 xs).toArray 3
theorem lc1 (W : World) (xs : List Int) (hm : xs.length ≤ 9223372036854775807) : Kd.C (Kd.int .i64) ((W.alloc (litO xs)).drew) (some ⟨W.heap.size, 0, none⟩) xs.length xs := Kd.C_drew (lit_C W xs hm _ rfl)
theorem lc2a (W : World) (xs ys : List Int) (hm : xs.length ≤ 9223372036854775807) : Kd.C (Kd.int .i64) (((W.alloc (litO xs)).alloc (litO ys)).drew) (some ⟨W.heap.size, 0, none⟩) xs.length xs := Kd.C_drew (Kd.C_alloc (lit_C W xs hm _ rfl) _)
theorem lc2b (W : World) (xs ys : List Int) (hm : ys.length ≤ 9223372036854775807) : Kd.C (Kd.int .i64) (((W.alloc (litO xs)).alloc (litO ys)).drew) (some ⟨W.heap.size + 1, 0, none⟩) ys.length ys := Kd.C_drew (lit_C (W.alloc (litO xs)) ys hm _ (by simp))
theorem part_u (W : World) (tb ab a : Nat) (ad : Addr) (la : List S48) (c0 cap : Nat) (xs : List Int) (h : PartW W tb ab a ad la c0 cap xs) (hl : xs.length = la.length) (i : Int) (h0 : 0 ≤ i) (h1 : i < (la.length : Int)) {d : Int} (hd : rd xs i = d ∧ 0 ≤ d ∧ d ≤ 5000)
  (B : Option Addr) (c : Nat) (ks : List Int) (hk : Kd.C (Kd.int .i64) W B ks.length ks) (u : Int) (hu : ks.length < 100 ∧ up (ks.any (fun k => (rd_T48 la i).f0 == k)) d = u) :
  Calls Tryd.prog 19 #[.int .i64 i, .slice B ks.length c, .pointer (some ⟨tb, 0, none⟩), .pointer (some ⟨ab, 0, none⟩)] W fun e W' => e = .returned (.int .i64 u) ∧ W' = W := by
 rw [← hu.2]
 exact part_calls W tb ab a ad la c0 cap xs h hl i h0 h1 d hd.1 hd.2.1 hd.2.2 B c ks hk hu.1 _ rfl
def mx2 (a b : Int) : Int := if a < b then b else a
def dpN (l : List S48) : Nat → Int → Int
 | 0, _ => 0
 | d + 1, i => let n := rd_T48 l i
  if n.f0 = 1 then 1
  else if n.f0 = 3 then mx2 (up ([4].any (fun k => (rd_T48 l n.f1).f0 == k)) (dpN l d n.f1)) (up ([4, 3].any (fun k => (rd_T48 l n.f2).f0 == k)) (dpN l d n.f2))
  else if n.f0 = 4 then mx2 (dpN l d n.f1) (up ([4].any (fun k => (rd_T48 l n.f2).f0 == k)) (dpN l d n.f2))
  else if n.f0 = 5 then up ([4, 3, 5].any (fun k => (rd_T48 l n.f1).f0 == k)) (dpN l d n.f1)
  else 0
def Right (l : List S48) (m : Nat) : Prop := ∀ i : Int, 0 ≤ i → i < (l.length : Int) → rightN (rd_T48 l i) i (m : Int) = true
theorem parts34 {n : S48} {i m : Int} (h : rightN n i m = true) (ho : n.f0 = 3 ∨ n.f0 = 4) : (0 ≤ n.f1 ∧ n.f1 < i) ∧ (0 ≤ n.f2 ∧ n.f2 < i) := right34 (o := n.f0) (a := n.f1) (b := n.f2) (c := n.f3) (d := n.f4) (e := n.f5) ho h
theorem parts5 {n : S48} {i m : Int} (h : rightN n i m = true) (ho : n.f0 = 5) : 0 ≤ n.f1 ∧ n.f1 < i := by
 obtain ⟨f0, f1, f2, f3, f4, f5⟩ := n
 have : f0 = 5 := ho
 subst this
 exact right5 h
theorem dpN_stable (l : List S48) (m : Nat) (hr : Right l m) : ∀ (k k' : Nat) (x : Int), 0 ≤ x → x < (l.length : Int) → x < (k : Int) → x < (k' : Int) → dpN l k x = dpN l k' x := by
 intro k
 induction k with
 | zero => intro k' x h0 _ h2; omega
 | succ k ih =>
  intro k' x h0 h1 h2 h3
  obtain ⟨k', rfl⟩ : ∃ j, k' = j + 1 := ⟨k' - 1, by omega⟩
  rw [dpN, dpN]
  have hR := hr x h0 h1
  by_cases c1 : (rd_T48 l x).f0 = 1
  ·simp only [if_pos c1]
  simp only [if_neg c1]
  by_cases c3 : (rd_T48 l x).f0 = 3
  ·obtain ⟨⟨a0, a1⟩, b0, b1⟩ := parts34 hR (.inl c3)
   simp only [if_pos c3]
   rw [ih k' _ a0 (by omega) (by omega) (by omega), ih k' _ b0 (by omega) (by omega) (by omega)]
  simp only [if_neg c3]
  by_cases c4 : (rd_T48 l x).f0 = 4
  ·obtain ⟨⟨a0, a1⟩, b0, b1⟩ := parts34 hR (.inr c4)
   simp only [if_pos c4]
   rw [ih k' _ a0 (by omega) (by omega) (by omega), ih k' _ b0 (by omega) (by omega) (by omega)]
  simp only [if_neg c4]
  by_cases c5 : (rd_T48 l x).f0 = 5
  ·obtain ⟨a0, a1⟩ := parts5 hR c5
   simp only [if_pos c5]
   rw [ih k' _ a0 (by omega) (by omega) (by omega)]
  simp only [if_neg c5]
def D (l : List S48) (i : Int) : Int := dpN l l.length i
theorem D_eq (l : List S48) (m : Nat) (hr : Right l m) (i : Int) (h0 : 0 ≤ i) (h1 : i < (l.length : Int)) : D l i =
  if (rd_T48 l i).f0 = 1 then 1
  else if (rd_T48 l i).f0 = 3 then mx2 (up ([4].any (fun k => (rd_T48 l (rd_T48 l i).f1).f0 == k)) (D l (rd_T48 l i).f1)) (up ([4, 3].any (fun k => (rd_T48 l (rd_T48 l i).f2).f0 == k)) (D l (rd_T48 l i).f2))
  else if (rd_T48 l i).f0 = 4 then mx2 (D l (rd_T48 l i).f1) (up ([4].any (fun k => (rd_T48 l (rd_T48 l i).f2).f0 == k)) (D l (rd_T48 l i).f2))
  else if (rd_T48 l i).f0 = 5 then up ([4, 3, 5].any (fun k => (rd_T48 l (rd_T48 l i).f1).f0 == k)) (D l (rd_T48 l i).f1)
  else 0 := dpN_stable l m hr l.length (l.length + 1) i h0 h1 h1 (by omega)
theorem up_le (b : Bool) (d : Int) : d ≤ up b d ∧ up b d ≤ d + 1 := by cases b <;> simp [HandPart.up] <;> omega
theorem mx2_le (a b : Int) : a ≤ mx2 a b ∧ b ≤ mx2 a b ∧ (mx2 a b = a ∨ mx2 a b = b) := by unfold mx2; split <;> omega
theorem D_bd (l : List S48) (m : Nat) (hr : Right l m) (n : Nat) : ∀ i : Int, 0 ≤ i → i < (l.length : Int) → i < (n : Int) → 0 ≤ D l i ∧ D l i ≤ i + 1 := by
 induction n with
 | zero => intro i h0 _ h2; omega
 | succ n ih =>
  intro i h0 h1 h2
  rw [D_eq l m hr i h0 h1]
  have hR := hr i h0 h1
  by_cases c1 : (rd_T48 l i).f0 = 1
  ·rw [if_pos c1]; omega
  rw [if_neg c1]
  by_cases c3 : (rd_T48 l i).f0 = 3
  ·obtain ⟨⟨a0, a1⟩, b0, b1⟩ := parts34 hR (.inl c3)
   rw [if_pos c3]
   have h1' := ih _ a0 (by omega) (by omega)
   have h2' := ih _ b0 (by omega) (by omega)
   have h3 := up_le ([4].any (fun k => (rd_T48 l (rd_T48 l i).f1).f0 == k)) (D l (rd_T48 l i).f1)
   have h4 := up_le ([4, 3].any (fun k => (rd_T48 l (rd_T48 l i).f2).f0 == k)) (D l (rd_T48 l i).f2)
   have h5 := mx2_le (up ([4].any (fun k => (rd_T48 l (rd_T48 l i).f1).f0 == k)) (D l (rd_T48 l i).f1)) (up ([4, 3].any (fun k => (rd_T48 l (rd_T48 l i).f2).f0 == k)) (D l (rd_T48 l i).f2))
   omega
  rw [if_neg c3]
  by_cases c4 : (rd_T48 l i).f0 = 4
  ·obtain ⟨⟨a0, a1⟩, b0, b1⟩ := parts34 hR (.inr c4)
   rw [if_pos c4]
   have h1' := ih _ a0 (by omega) (by omega)
   have h2' := ih _ b0 (by omega) (by omega)
   have h4 := up_le ([4].any (fun k => (rd_T48 l (rd_T48 l i).f2).f0 == k)) (D l (rd_T48 l i).f2)
   have h5 := mx2_le (D l (rd_T48 l i).f1) (up ([4].any (fun k => (rd_T48 l (rd_T48 l i).f2).f0 == k)) (D l (rd_T48 l i).f2))
   omega
  rw [if_neg c4]
  by_cases c5 : (rd_T48 l i).f0 = 5
  ·obtain ⟨a0, a1⟩ := parts5 hR c5
   rw [if_pos c5]
   have h1' := ih _ a0 (by omega) (by omega)
   have h3 := up_le ([4, 3, 5].any (fun k => (rd_T48 l (rd_T48 l i).f1).f0 == k)) (D l (rd_T48 l i).f1)
   omega
  rw [if_neg c5]; omega
structure DI (w : World) (tb ab a : Nat) (A0 : Option Addr) (c0 : Nat) (l0 : List S48) (A1 : Option Addr) (c1 n1 : Nat) (r : Int) (wr : World) (xs : List Int) (j : Nat) : Prop where
 below : Below w.heap.size w wr
 lo : w.heap.size ≤ tb ∧ w.heap.size ≤ ab ∧ w.heap.size ≤ a ∧ a ≠ tb ∧ a ≠ ab
 t : wr.heap[tb]? = some (.cells #[.slice A0 l0.length c0, .slice A1 n1 c1, .int .i64 r] 25 (0, 0))
 b : wr.heap[ab]? = some (.cells #[.slice (some ⟨a, 0, none⟩) xs.length xs.length] 46 (0, 0))
 own : wr.ownsRow w.heap.size 3 1 (.slice (some ⟨a, 0, none⟩) xs.length xs.length) xs.length (nums .i64 xs)
 len : xs.length = l0.length
 done : ∀ i : Int, 0 ≤ i → i < (j : Int) → rd xs i = D l0 i
 rest : ∀ i : Int, (j : Int) ≤ i → rd xs i = 0
theorem rd_set (x : List Int) (j : Nat) (v i : Int) (hj : j < x.length) (h0 : 0 ≤ i) : rd (x.set j v) i = if i = (j : Int) then v else rd x i := by
 unfold rd
 rw [List.getD_eq_getElem?_getD, List.getElem?_set, List.getD_eq_getElem?_getD]
 by_cases c : i = (j : Int)
 ·rw [if_pos c, if_pos (by omega), if_pos hj]; rfl
 ·rw [if_neg c, if_neg (by omega)]
theorem DI.step {w wr W1 : World} {tb ab a : Nat} {A0 A1 : Option Addr} {c0 c1 n1 : Nat} {l0 : List S48} {r : Int} {xs : List Int} {j : Nat} (h : DI w tb ab a A0 c0 l0 A1 c1 n1 r wr xs j) (hb : Below wr.heap.size wr W1) : DI w tb ab a A0 c0 l0 A1 c1 n1 r W1 xs j :=
 ⟨below_then h.below h.below.size hb, h.lo, blk_below h.t hb, blk_below h.b hb, pw_own_below h.own hb, h.len, h.done, h.rest⟩
theorem DI.put {w wr : World} {tb ab a : Nat} {A0 A1 : Option Addr} {c0 c1 n1 : Nat} {l0 : List S48} {r : Int} {xs : List Int} {j : Nat} (h : DI w tb ab a A0 c0 l0 A1 c1 n1 r wr xs j) (x : Int) (hx : x = (j : Int)) (hj : j < l0.length) (d : Int) (hd : D l0 (j : Int) = d) :
  DI w tb ab a A0 c0 l0 A1 c1 n1 r (wr.setCell ⟨a, x.toNat, none⟩ (.int .i64 d)) (xs.set j d) (j + 1) := by
 have hl := h.len
 have hs := (own_store h.own x d).1
 rw [show x.toNat = j by omega] at hs
 refine ⟨h.below.setCell h.lo.2.2.1 _, h.lo, blk_far h.t (p := ⟨a, x.toNat, none⟩) (Ne.symm h.lo.2.2.2.1) _, ?_, ?_, by rw [List.length_set]; exact hl, ?_, ?_⟩
 ·have := blk_far h.b (p := ⟨a, x.toNat, none⟩) (Ne.symm h.lo.2.2.2.2) (.int .i64 d)
  rw [List.length_set]; exact this
 ·rw [List.length_set, show x.toNat = j by omega]; exact hs
 ·intro i i0 i1
  rw [rd_set _ _ _ _ (by omega) i0]
  by_cases c : i = (j : Int)
  ·rw [if_pos c, c, hd]
  ·rw [if_neg c]; exact h.done i i0 (by omega)
 ·intro i i0
  rw [rd_set _ _ _ _ (by omega) (by omega), if_neg (by omega)]
  exact h.rest i (by omega)
theorem DI.skip {w wr : World} {tb ab a : Nat} {A0 A1 : Option Addr} {c0 c1 n1 : Nat} {l0 : List S48} {r : Int} {xs : List Int} {j : Nat} (h : DI w tb ab a A0 c0 l0 A1 c1 n1 r wr xs j) (hd : D l0 (j : Int) = 0) : DI w tb ab a A0 c0 l0 A1 c1 n1 r wr xs (j + 1) :=
 ⟨h.below, h.lo, h.t, h.b, h.own, h.len, fun i i0 i1 => by
  by_cases c : i = (j : Int)
  ·rw [c, hd]; exact h.rest _ (Int.le_refl _)
  ·exact h.done i i0 (by omega), fun i i0 => h.rest i (by omega)⟩
theorem DI.part {w wr : World} {tb ab a : Nat} {ad : Addr} {A1 : Option Addr} {c0 c1 n1 : Nat} {l0 : List S48} {r : Int} {xs : List Int} {j : Nat} (h : DI w tb ab a (some ad) c0 l0 A1 c1 n1 r wr xs j) (hn : Kd.C k48 w (some ad) l0.length l0) : PartW wr tb ab a ad l0 c0 xs.length xs := by
 refine ⟨(blk_cell h.t 0).trans rfl, Kd.C_below hn h.below, (blk_cell h.b 0).trans rfl, ?_⟩
 obtain ⟨A, c, e, hr⟩ := own_reads h.own
 cases e
 exact Kd.C_of_reads (d := (0 : Int)) hr
set_option maxRecDepth 100000 in
set_option maxHeartbeats 8000000 in
theorem regprint_Deep.walk (k : Nat) (ad : Addr) (c0 : Nat) (l0 : List S48) (A1 : Option Addr) (c1 : Nat) (l1 : List (List S60)) (r : Int) (w : World) (hr0 : Kd.C k48 w (some ad) l0.length l0) (hc0 : l0.length ≤ c0) (hr1 : Kd.C (Kd.slice 60 k60) w A1 l1.length l1) (hc1 : l1.length ≤ c1) (hch : arena_Check.f k l0 l1 r = some 0) (hrt : Right l0 l1.length) (hrr : 0 ≤ r ∧ r < (l0.length : Int)) (hlm : l0.length ≤ 4096) :
  Calls Tryd.prog 8 #[.agg #[.slice (some ad) l0.length c0, .slice A1 l1.length c1, .int .i64 r]] w fun e w' => e = .returned (.int .i64 (D l0 r)) ∧ Below w.heap.size w w' := by
 have hu25 := Tryd.underlying25
 have hbx := blk_new w (.cells #[.slice (some ad) l0.length c0, .slice A1 l1.length c1, .int .i64 r] 25 (0, 0))
 have hB1 : Below w.heap.size w (w.alloc (.cells #[.slice (some ad) l0.length c0, .slice A1 l1.length c1, .int .i64 r] 25 (0, 0))) := below_alloc (Below.refl _ w) _
 have b0 : (w.alloc (.cells #[.slice (some ad) l0.length c0, .slice A1 l1.length c1, .int .i64 r] 25 (0, 0))).cell? ⟨w.heap.size, 0, none⟩ = some (.slice (some ad) l0.length c0) := (blk_cell hbx 0).trans rfl
 have b1 : (w.alloc (.cells #[.slice (some ad) l0.length c0, .slice A1 l1.length c1, .int .i64 r] 25 (0, 0))).cell? ⟨w.heap.size, 1, none⟩ = some (.slice A1 l1.length c1) := (blk_cell hbx 1).trans rfl
 have b2 : (w.alloc (.cells #[.slice (some ad) l0.length c0, .slice A1 l1.length c1, .int .i64 r] 25 (0, 0))).cell? ⟨w.heap.size, 2, none⟩ = some (.int .i64 r) := (blk_cell hbx 2).trans rfl
 have hmk := print_make (P := Tryd.prog) 46 3 .i64 8 Tryd.underlying46 (by kernel_rfl) (by decide) l0.length (by omega)
 have HBX := Aside0.mk hbx
 have HB1 := Aside0.mk hB1
 have HX := Aside0.mk hch
 have HN := Aside0.mk hr0
 have HC0 := Aside0.mk hc0
 have HR1 := Aside0.mk hr1
 have HC1 := Aside0.mk hc1
 have HRT := Aside0.mk hrt
 have HRR := Aside0.mk hrr
 have HLM := Aside0.mk hlm
 clear hbx hB1 hch hr0 hc0 hr1 hc1 hrt hrr hlm
 go_enter Tryd.func8, Tryd.ntmps8
 go_wp2_with (go_at_call 14; (with_reducible refine (arena_Check.calls k (some ad) c0 l0 A1 c1 l1 r 0 _ ?s1 HC0.out ?s2 HC1.out HX.out).mono ?_); (case s1 => exact Kd.C_below HN.out HB1.out); (case s2 => exact Kd.C_below HR1.out HB1.out); rintro e w1 ⟨rfl, hb⟩; have hbx1 := blk_below HBX.out hb; have d0 : w1.cell? ⟨w.heap.size, 0, none⟩ = some (.slice (some ad) l0.length c0) := (blk_cell hbx1 0).trans rfl; have HBX1 := Aside0.mk hbx1; have HB2 := Aside0.mk (below_then HB1.out HB1.out.size hb); have d0' := fun o1 o2 => cell_al (cell_al d0 o1) o2; clear hb hbx1 HBX HB1)
 have hD0 : DI w w.heap.size (w1.heap.size + 1) w1.heap.size (some ad) c0 l0 A1 c1 l1.length r ((w1.alloc (.cells (madeCells #[.int .i64 0] l0.length) 3)).alloc (.cells #[.slice (some ⟨w1.heap.size, 0, none⟩) l0.length l0.length] 46)) (List.replicate l0.length 0) 0 := by
  have hz := HB2.out.size
  have hbt := blk_lt HBX1.out
  have hB : Below w1.heap.size w1 ((w1.alloc (.cells (madeCells #[.int .i64 0] l0.length) 3)).alloc (.cells #[.slice (some ⟨w1.heap.size, 0, none⟩) l0.length l0.length] 46)) := below_alloc (below_alloc (Below.refl _ w1) _) _
  refine ⟨below_then HB2.out hz hB, ⟨Nat.le_refl _, by omega, hz, by omega, by omega⟩, blk_below HBX1.out hB, ?_, ?_, by simp, fun i i0 i1 => by omega, fun i _ => ?_⟩
  ·have h := blk_new (w1.alloc (.cells (madeCells #[.int .i64 0] l0.length) 3)) (.cells #[.slice (some ⟨w1.heap.size, 0, none⟩) l0.length l0.length] 46)
   rw [List.length_replicate]
   simpa using h
  ·have h := own_alloc (own_made w1 w.heap.size 3 .i64 l0.length hz (by have := HLM.out; omega)) (.cells #[.slice (some ⟨w1.heap.size, 0, none⟩) l0.length l0.length] 46)
   rw [List.length_replicate]
   exact h
  ·simp [rd, List.getD_eq_getElem?_getD, List.getElem?_replicate]; split <;> rfl
 have HD00 := Aside0.mk hD0
 clear hD0 HBX1 HB2 d0 d0' hmk b0 b1 b2
 generalize w1.heap.size = a at *
 go_loopw [18] (fun v18 wr => ∃ (x : Int) (j : Nat), v18 = .int .i64 x ∧ Aside0 (x = (j : Int)) ∧ Aside0 (j ≤ l0.length) ∧ Aside0 (∃ xs, DI w w.heap.size (a + 1) a (some ad) c0 l0 A1 c1 l1.length r wr xs j)) (fun v18 _ => l0.length - (intOf v18).toNat)
 case atStart => exact ⟨0, 0, rfl, ⟨rfl⟩, ⟨Nat.zero_le _⟩, ⟨_, HD00.out⟩⟩
 case round =>
  obtain ⟨x, j, rfl, HX, HJ, HD0⟩ := hrel
  by_cases cj : j < l0.length
  ·have hx := HX.out
   obtain ⟨xs, hD⟩ := HD0.out
   obtain ⟨_, eA, hx0, hx1, hx2, hx3, hx4, hx5⟩ := at_T48 (Kd.C_below HN.out hD.below) x (by omega) (by omega)
   cases eA
   obtain ⟨x0, x1, x2, x3, x4, x5, hX⟩ : ∃ x0 x1 x2 x3 x4 x5, rd_T48 l0 x = ⟨x0, x1, x2, x3, x4, x5⟩ := ⟨_, _, _, _, _, _, rfl⟩
   rw [hX] at hx0 hx1 hx2 hx3 hx4 hx5
   have hR := HRT.out x (by omega) (by omega)
   rw [hX] at hR
   have hDe := D_eq l0 _ HRT.out x (by omega) (by omega)
   rw [hX] at hDe
   dsimp only at hDe
   have hLm := HLM.out
   have hxs := hD.len
   have p0 : (0 ≤ x) = True := eq_true (by omega)
   have p1 : (x < (l0.length : Int)) = True := eq_true (by omega)
   have p1' : decide (x < (l0.length : Int)) = true := decide_eq_true (by omega)
   have p2 : (x < (xs.length : Int)) = True := eq_true (by omega)
   have hw1 : wrap64 (x + 1) = x + 1 := by unfold wrap64; omega
   have hral : a < wr.heap.size := own_lt hD.own a rfl
   have hbl : a + 1 < wr.heap.size := blk_lt hD.b
   obtain ⟨hra0, hrf0⟩ := own_at hD.own x (by omega) (by omega)
   have hab0 : wr.cell? ⟨a + 1, 0, none⟩ = some (.slice (some ⟨a, 0, none⟩) xs.length xs.length) := (blk_cell hD.b 0).trans rfl
   have HXX : Aside0 (x = (j : Int) ∧ j < l0.length) := ⟨⟨hx, cj⟩⟩
   have HR := Aside0.mk hR
   have HDE := Aside0.mk hDe
   have HD := Aside0.mk hD
   have HLN : Aside0 (xs.length = l0.length) := ⟨hxs⟩
   have HAL := Aside0.mk hral
   have HBL := Aside0.mk hbl
   clear hx cj hR hDe hD HD0 hLm hxs hral hbl HX HJ hX
   by_cases o1 : x0 = 1
   ·subst o1
    have hd : D l0 (j : Int) = 1 := by
     have := HDE.out
     rw [← HXX.out.1, this, if_pos rfl]
    have HF : Aside0 (∃ xs', DI w w.heap.size (a + 1) a (some ad) c0 l0 A1 c1 l1.length r ((wr.alloc (.cells #[.int .i64 1, .int .i64 x1, .int .i64 x2, .int .i64 x3, .int .i64 x4, .int .i64 x5] 48 (0, 0))).setCell ⟨a, x.toNat, none⟩ (.int .i64 1)) xs' (j + 1)) := ⟨_, (HD.out.step (below_alloc (Below.refl _ wr) _)).put x HXX.out.1 HXX.out.2 1 hd⟩
    clear hd
    have hn0 : (wr.alloc (.cells #[.int .i64 1, .int .i64 x1, .int .i64 x2, .int .i64 x3, .int .i64 x4, .int .i64 x5] 48 (0, 0))).cell? ⟨wr.heap.size, 0, none⟩ = some (.int .i64 1) := (blk_cell (blk_new wr (.cells #[.int .i64 1, .int .i64 x1, .int .i64 x2, .int .i64 x3, .int .i64 x4, .int .i64 x5] 48 (0, 0))) 0).trans rfl
    have hab := cell_al hab0 (.cells #[.int .i64 1, .int .i64 x1, .int .i64 x2, .int .i64 x3, .int .i64 x4, .int .i64 x5] 48 (0, 0))
    have hra := cell_al hra0 (.cells #[.int .i64 1, .int .i64 x1, .int .i64 x2, .int .i64 x3, .int .i64 x4, .int .i64 x5] 48 (0, 0))
    have hrf := frozen_below (below_alloc (Below.refl _ wr) (.cells #[.int .i64 1, .int .i64 x1, .int .i64 x2, .int .i64 x3, .int .i64 x4, .int .i64 x5] 48 (0, 0))) HAL.out hrf0
    go_wp2
    go_roundw
    case rel => exact ⟨_, j + 1, rfl, ⟨by have := HXX.out; omega⟩, ⟨HXX.out.2⟩, HF⟩
    case measure => have := HXX.out; simp [intOf]; omega
   by_cases o3 : x0 = 3
   ·subst o3
    obtain ⟨⟨a0, a1⟩, b0, b1⟩ := right34 (Or.inl rfl) HR.out
    have HX1 : Aside0 (0 ≤ x1 ∧ x1 < (l0.length : Int) ∧ x1 < x) := ⟨⟨a0, by have := HXX.out; omega, a1⟩⟩
    have HX2 : Aside0 (0 ≤ x2 ∧ x2 < (l0.length : Int) ∧ x2 < x) := ⟨⟨b0, by have := HXX.out; omega, b1⟩⟩
    clear a0 a1 b0 b1
    have hD1 : rd xs x1 = D l0 x1 ∧ 0 ≤ D l0 x1 ∧ D l0 x1 ≤ 5000 := ⟨HD.out.done x1 HX1.out.1 (by have := HX1.out.2.2; have := HXX.out; omega), by have := D_bd l0 _ HRT.out l0.length x1 HX1.out.1 HX1.out.2.1 HX1.out.2.1; have := HLM.out; have := HX1.out.2.1; omega⟩
    have HD1 := Aside0.mk hD1
    obtain ⟨u1, hu1⟩ : ∃ u, up ([4].any (fun k => (rd_T48 l0 x1).f0 == k)) (D l0 x1) = u := ⟨_, rfl⟩
    have HU1 := Aside0.mk (And.intro (show ([4] : List Int).length < 100 by decide) hu1)
    have hD2 : rd xs x2 = D l0 x2 ∧ 0 ≤ D l0 x2 ∧ D l0 x2 ≤ 5000 := ⟨HD.out.done x2 HX2.out.1 (by have := HX2.out.2.2; have := HXX.out; omega), by have := D_bd l0 _ HRT.out l0.length x2 HX2.out.1 HX2.out.2.1 HX2.out.2.1; have := HLM.out; have := HX2.out.2.1; omega⟩
    have HD2 := Aside0.mk hD2
    obtain ⟨u2, hu2⟩ : ∃ u, up ([4, 3].any (fun k => (rd_T48 l0 x2).f0 == k)) (D l0 x2) = u := ⟨_, rfl⟩
    have HU2 := Aside0.mk (And.intro (show ([4, 3] : List Int).length < 100 by decide) hu2)
    obtain ⟨m, hmx⟩ : ∃ m, (if u1 < u2 then u2 else u1) = m := ⟨_, rfl⟩
    have hd : D l0 (j : Int) = m := by
     have := HDE.out
     rw [← HXX.out.1, this, if_neg (show ¬ (3 : Int) = 1 by decide), if_pos rfl]
     show mx2 _ _ = _
     rw [hu1, hu2]
     exact hmx
    have HPD := Aside0.mk hd
    clear hd hD1 hu1 hD2 hu2
    have hn0 : (wr.alloc (.cells #[.int .i64 3, .int .i64 x1, .int .i64 x2, .int .i64 x3, .int .i64 x4, .int .i64 x5] 48 (0, 0))).cell? ⟨wr.heap.size, 0, none⟩ = some (.int .i64 3) := (blk_cell (blk_new wr (.cells #[.int .i64 3, .int .i64 x1, .int .i64 x2, .int .i64 x3, .int .i64 x4, .int .i64 x5] 48 (0, 0))) 0).trans rfl
    have hn1 : (wr.alloc (.cells #[.int .i64 3, .int .i64 x1, .int .i64 x2, .int .i64 x3, .int .i64 x4, .int .i64 x5] 48 (0, 0))).cell? ⟨wr.heap.size, 1, none⟩ = some (.int .i64 x1) := (blk_cell (blk_new wr (.cells #[.int .i64 3, .int .i64 x1, .int .i64 x2, .int .i64 x3, .int .i64 x4, .int .i64 x5] 48 (0, 0))) 1).trans rfl
    have hn2 : (wr.alloc (.cells #[.int .i64 3, .int .i64 x1, .int .i64 x2, .int .i64 x3, .int .i64 x4, .int .i64 x5] 48 (0, 0))).cell? ⟨wr.heap.size, 2, none⟩ = some (.int .i64 x2) := (blk_cell (blk_new wr (.cells #[.int .i64 3, .int .i64 x1, .int .i64 x2, .int .i64 x3, .int .i64 x4, .int .i64 x5] 48 (0, 0))) 2).trans rfl
    have hab := cell_al hab0 (.cells #[.int .i64 3, .int .i64 x1, .int .i64 x2, .int .i64 x3, .int .i64 x4, .int .i64 x5] 48 (0, 0))
    have hra := cell_al hra0 (.cells #[.int .i64 3, .int .i64 x1, .int .i64 x2, .int .i64 x3, .int .i64 x4, .int .i64 x5] 48 (0, 0))
    have hrf := frozen_below (below_alloc (Below.refl _ wr) (.cells #[.int .i64 3, .int .i64 x1, .int .i64 x2, .int .i64 x3, .int .i64 x4, .int .i64 x5] 48 (0, 0))) HAL.out hrf0
    go_wp2_with fail
    generalize hW1 : wr.alloc (.cells #[.int .i64 3, .int .i64 x1, .int .i64 x2, .int .i64 x3, .int .i64 x4, .int .i64 x5] 48 (0, 0)) = W1 at *
    have HBW : Aside0 (Below wr.heap.size wr W1) := ⟨by rw [← hW1]; exact below_alloc (Below.refl _ _) _⟩
    have HDW := Aside0.mk (HD.out.step HBW.out)
    have HPW := Aside0.mk (HDW.out.part HN.out)
    have hral : a < W1.heap.size := Nat.lt_of_lt_of_le HAL.out HBW.out.size
    generalize wr.heap.size = nb at *
    clear hW1
    refine start_ (n := 15) (S := fun w' => w'.cell? ⟨a + 1, 0, none⟩ = some (.slice (some ⟨a, 0, none⟩) xs.length xs.length) ∧ w'.cell? ⟨nb, 1, none⟩ = some (.int .i64 x1) ∧ w'.cell? ⟨nb, 2, none⟩ = some (.int .i64 x2)) (ds := [14]) #[false, false, false, false, false, false, false, false, false, false, false, false, false, false, false] (by kernel_rfl) rfl rfl ⟨hab, hn1, hn2⟩ (fun hHeld => ?_)
    refine pq_ (i := 1) (n := 33) (bA 15 2) (by kernel_rfl) ?_
    refine pq_ (i := 2) (n := 34) (bA 15 6) (by kernel_rfl) ?_
    refine pq_ (i := 3) (n := 35) (bA 15 14) (by kernel_rfl) ?_
    refine pq_ (i := 7) (n := 39) (bA 15 142) (by kernel_rfl) ?_
    refine pq_ (i := 8) (n := 40) (bA 15 398) (by kernel_rfl) ?_
    refine tq_ (i := 0) (n := 32) (bA 15 399) (by kernel_rfl) hHeld ?_
    refine tq_ (i := 4) (n := 36) (bA 15 415) (by kernel_rfl) hHeld ?_
    refine tq_ (i := 9) (n := 41) (bA 15 927) (by kernel_rfl) hHeld ?_
    refine join_ (σ := Nat × Nat) 4 #[true, true, true, true, true, true, true, true, true, true, true, false, false, false, false] (fun s => [(37, .slice (some ⟨s.1, 0, none⟩) 1 1), (38, .int .i64 u1), (42, .slice (some ⟨s.2, 0, none⟩) 2 2)]) (fun s w' => Below W1.heap.size W1 w' ∧ Kd.C (Kd.int .i64) w' (some ⟨s.2, 0, none⟩) 2 [4, 3]) ?_ ?_
    rotate_left
    ·intro hCont
     refine two_ (i := 5) (j := 10) (Ni := some 37) (Nj := some 42) #[true, true, true, true, true, true, false, true, true, true, false, false, false, false, false] #[true, true, true, true, true, false, false, true, true, true, true, false, false, false, false] rfl rfl rfl rfl (by kernel_rfl) (by decide) (by decide) (fun K hK => ?_) (fun K hK => ?_)
     ·skip
      refine value_ (w1 := ?_) (v := ?_) (by rfl) rfl ?_ ?_
      rotate_left 2
      ·go_simp
       constructor
       ·rfl
       ·rfl
      refine hK.out _ _ ⟨(cell_al (W := W1.drew) hab _), (cell_al (W := W1.drew) hn1 _), (cell_al (W := W1.drew) hn2 _)⟩ (fun hHeld => ?_)
      clear hK K
      refine nm_ (n := 37) ?_
      refine two_ (i := 6) (j := 10) (Ni := some 38) (Nj := some 42) #[true, true, true, true, true, true, true, true, true, true, false, false, false, false, false] #[true, true, true, true, true, true, false, true, true, true, true, false, false, false, false] rfl rfl rfl rfl (by kernel_rfl) (by decide) (by decide) (fun K hK => ?_) (fun K hK => ?_)
      ·skip
       refine goesC_ #[.pointer (some ⟨w.heap.size, 0, none⟩), .pointer (some ⟨a + 1, 0, none⟩)] Tryd.func19 (by kernel_rfl) rfl #[.int .i64 x1, .slice (some ⟨W1.heap.size, 0, none⟩) 1 1, .pointer (some ⟨w.heap.size, 0, none⟩), .pointer (some ⟨a + 1, 0, none⟩)] (by rfl) rfl rfl (by rfl) (by simp only [List.map_toArray, List.map_cons, List.map_nil]; rfl) ?_
       refine (part_u _ w.heap.size (a + 1) a ad l0 c0 xs.length xs (HPW.out.step (below_drew1 (below_alloc (Below.refl _ W1) _))) HLN.out x1 HX1.out.1 HX1.out.2.1 HD1.out _ 1 [4] (lc1 W1 [4] (by decide)) u1 HU1.out).mono ?_
       rintro e w9 ⟨rfl, rfl⟩
       refine ⟨_, rfl, ?_⟩
       refine hK.out _ _ ⟨hHeld.1, hHeld.2.1, hHeld.2.2⟩ (fun hHeld => ?_)
       clear hK K
       refine nm_ (n := 38) ?_
       refine one_ (i := 10) (N := some 42) (bA 15 2047) rfl rfl (by kernel_rfl) (by decide) (fun K hK => ?_)
       refine value_ (w1 := ?_) (v := ?_) (by rfl) rfl ?_ ?_
       rotate_left 2
       ·go_simp
        constructor
        ·rfl
        ·rfl
       refine hK.out _ _ ⟨(cell_al2 (W := W1.drew) hab _ _), (cell_al2 (W := W1.drew) hn1 _ _), (cell_al2 (W := W1.drew) hn2 _ _)⟩ (fun hHeld => ?_)
       clear hK K
       refine nm_ (n := 42) ?_
       exact norm_ (by simp only [putAll, Act.put, List.setIfInBounds_toArray, List.set_cons_zero, List.set_cons_succ]) (hCont (W1.heap.size, W1.heap.size + 1) _ ⟨below_drew1 (below_alloc (below_alloc (Below.refl _ W1) _) _), lc2b W1 [4] [4, 3] (by decide)⟩)
      ·skip
       refine value_ (w1 := ?_) (v := ?_) (by rfl) rfl ?_ ?_
       rotate_left 2
       ·go_simp
        constructor
        ·rfl
        ·rfl
       refine hK.out _ _ ⟨(cell_al2 (W := W1.drew) hab _ _), (cell_al2 (W := W1.drew) hn1 _ _), (cell_al2 (W := W1.drew) hn2 _ _)⟩ (fun hHeld => ?_)
       clear hK K
       refine nm_ (n := 42) ?_
       refine one_ (i := 6) (N := some 38) (bA 15 2047) rfl rfl (by kernel_rfl) (by decide) (fun K hK => ?_)
       refine goesC_ #[.pointer (some ⟨w.heap.size, 0, none⟩), .pointer (some ⟨a + 1, 0, none⟩)] Tryd.func19 (by kernel_rfl) rfl #[.int .i64 x1, .slice (some ⟨W1.heap.size, 0, none⟩) 1 1, .pointer (some ⟨w.heap.size, 0, none⟩), .pointer (some ⟨a + 1, 0, none⟩)] (by rfl) rfl rfl (by rfl) (by simp only [List.map_toArray, List.map_cons, List.map_nil]; rfl) ?_
       refine (part_u _ w.heap.size (a + 1) a ad l0 c0 xs.length xs (HPW.out.step (below_drew1 (below_alloc (below_alloc (Below.refl _ W1) _) _))) HLN.out x1 HX1.out.1 HX1.out.2.1 HD1.out _ 1 [4] (lc2a W1 [4] [4, 3] (by decide)) u1 HU1.out).mono ?_
       rintro e w9 ⟨rfl, rfl⟩
       refine ⟨_, rfl, ?_⟩
       refine hK.out _ _ ⟨hHeld.1, hHeld.2.1, hHeld.2.2⟩ (fun hHeld => ?_)
       clear hK K
       refine nm_ (n := 38) ?_
       exact norm_ (by simp only [putAll, Act.put, List.setIfInBounds_toArray, List.set_cons_zero, List.set_cons_succ]) (hCont (W1.heap.size, W1.heap.size + 1) _ ⟨below_drew1 (below_alloc (below_alloc (Below.refl _ W1) _) _), lc2b W1 [4] [4, 3] (by decide)⟩)
     ·skip
      refine value_ (w1 := ?_) (v := ?_) (by rfl) rfl ?_ ?_
      rotate_left 2
      ·go_simp
       constructor
       ·rfl
       ·rfl
      refine hK.out _ _ ⟨(cell_al (W := W1.drew) hab _), (cell_al (W := W1.drew) hn1 _), (cell_al (W := W1.drew) hn2 _)⟩ (fun hHeld => ?_)
      clear hK K
      refine nm_ (n := 42) ?_
      refine one_ (i := 5) (N := some 37) (bA 15 1983) rfl rfl (by kernel_rfl) (by decide) (fun K hK => ?_)
      refine value_ (w1 := ?_) (v := ?_) (by rfl) rfl ?_ ?_
      rotate_left 2
      ·go_simp
       constructor
       ·rfl
       ·rfl
      refine hK.out _ _ ⟨(cell_al2 (W := W1.drew) hab _ _), (cell_al2 (W := W1.drew) hn1 _ _), (cell_al2 (W := W1.drew) hn2 _ _)⟩ (fun hHeld => ?_)
      clear hK K
      refine nm_ (n := 37) ?_
      refine one_ (i := 6) (N := some 38) (bA 15 2047) rfl rfl (by kernel_rfl) (by decide) (fun K hK => ?_)
      refine goesC_ #[.pointer (some ⟨w.heap.size, 0, none⟩), .pointer (some ⟨a + 1, 0, none⟩)] Tryd.func19 (by kernel_rfl) rfl #[.int .i64 x1, .slice (some ⟨W1.heap.size + 1, 0, none⟩) 1 1, .pointer (some ⟨w.heap.size, 0, none⟩), .pointer (some ⟨a + 1, 0, none⟩)] (by rfl) rfl rfl (by rfl) (by simp only [List.map_toArray, List.map_cons, List.map_nil]; rfl) ?_
      refine (part_u _ w.heap.size (a + 1) a ad l0 c0 xs.length xs (HPW.out.step (below_drew1 (below_alloc (below_alloc (Below.refl _ W1) _) _))) HLN.out x1 HX1.out.1 HX1.out.2.1 HD1.out _ 1 [4] (lc2b W1 [4, 3] [4] (by decide)) u1 HU1.out).mono ?_
      rintro e w9 ⟨rfl, rfl⟩
      refine ⟨_, rfl, ?_⟩
      refine hK.out _ _ ⟨hHeld.1, hHeld.2.1, hHeld.2.2⟩ (fun hHeld => ?_)
      clear hK K
      refine nm_ (n := 38) ?_
      exact norm_ (by simp only [putAll, Act.put, List.setIfInBounds_toArray, List.set_cons_zero, List.set_cons_succ]) (hCont (W1.heap.size + 1, W1.heap.size) _ ⟨below_drew1 (below_alloc (below_alloc (Below.refl _ W1) _) _), lc2a W1 [4, 3] [4] (by decide)⟩)
    rintro ⟨p, q⟩ w' ⟨hBw, hKq⟩
    have hra' := pw_cell_below hBw hra
    have hrf' := frozen_below hBw hral hrf
    have hHeld : (fun w' : World => w'.cell? ⟨a + 1, 0, none⟩ = some (.slice (some ⟨a, 0, none⟩) xs.length xs.length) ∧ w'.cell? ⟨nb, 1, none⟩ = some (.int .i64 x1) ∧ w'.cell? ⟨nb, 2, none⟩ = some (.int .i64 x2)) w' := ⟨pw_cell_below hBw hab, pw_cell_below hBw hn1, pw_cell_below hBw hn2⟩
    refine norm_ (a' := ?_) ?_ ?_
    rotate_left
    ·simp only [putAll, Act.put, List.setIfInBounds_toArray, List.set_cons_zero, List.set_cons_succ]
     rfl
    refine one_ (i := 11) (N := some 43) (bA 15 4095) rfl rfl (by kernel_rfl) (by decide) (fun K hK => ?_)
    refine goesC_ #[.pointer (some ⟨w.heap.size, 0, none⟩), .pointer (some ⟨a + 1, 0, none⟩)] Tryd.func19 (by kernel_rfl) rfl #[.int .i64 x2, .slice (some ⟨q, 0, none⟩) 2 2, .pointer (some ⟨w.heap.size, 0, none⟩), .pointer (some ⟨a + 1, 0, none⟩)] (by rfl) rfl rfl (by rfl) (by simp only [List.map_toArray, List.map_cons, List.map_nil]; rfl) ?_
    refine (part_u _ w.heap.size (a + 1) a ad l0 c0 xs.length xs (HPW.out.step (hBw)) HLN.out x2 HX2.out.1 HX2.out.2.1 HD2.out _ 2 [4, 3] hKq u2 HU2.out).mono ?_
    rintro e w9 ⟨rfl, rfl⟩
    refine ⟨_, rfl, ?_⟩
    refine hK.out _ _ ⟨hHeld.1, hHeld.2.1, hHeld.2.2⟩ (fun hHeld => ?_)
    clear hK K
    refine nm_ (n := 43) ?_
    refine pq_ (i := 12) (n := 44) (bA 15 8191) (by kernel_rfl) ?_
    refine pq_ (i := 13) (n := 45) (bA 15 16383) (by kernel_rfl) ?_
    refine last_ (i := 14) (N := none) #[true, true, true, true, true, true, true, true, true, true, true, true, true, true, true] rfl rfl (by kernel_rfl) (by decide) (fun K hK => ?_)
    refine skip_ (w1 := ?_) (by rfl) rfl ?_ ?_
    rotate_left
    ·go_simp
     rfl
    refine hK.out _ _ ?_
    clear hK K
    refine done_ (by kernel_rfl) ?_
    have HF : Aside0 (∃ xs', DI w w.heap.size (a + 1) a (some ad) c0 l0 A1 c1 l1.length r (w9.setCell ⟨a, x.toNat, none⟩ (.int .i64 m)) xs' (j + 1)) := ⟨_, (HDW.out.step hBw).put x HXX.out.1 HXX.out.2 m HPD.out⟩
    clear hHeld
    go_wp2_with fail
    go_roundw
    case rel => exact ⟨_, j + 1, rfl, ⟨by have := HXX.out; omega⟩, ⟨HXX.out.2⟩, HF⟩
    case measure => have := HXX.out; simp [intOf]; omega
   by_cases o4 : x0 = 4
   ·subst o4
    obtain ⟨⟨a0, a1⟩, b0, b1⟩ := right34 (Or.inr rfl) HR.out
    have HX1 : Aside0 (0 ≤ x1 ∧ x1 < (l0.length : Int) ∧ x1 < x) := ⟨⟨a0, by have := HXX.out; omega, a1⟩⟩
    have HX2 : Aside0 (0 ≤ x2 ∧ x2 < (l0.length : Int) ∧ x2 < x) := ⟨⟨b0, by have := HXX.out; omega, b1⟩⟩
    clear a0 a1 b0 b1
    have hD1 : rd xs x1 = D l0 x1 ∧ 0 ≤ D l0 x1 ∧ D l0 x1 ≤ 5000 := ⟨HD.out.done x1 HX1.out.1 (by have := HX1.out.2.2; have := HXX.out; omega), by have := D_bd l0 _ HRT.out l0.length x1 HX1.out.1 HX1.out.2.1 HX1.out.2.1; have := HLM.out; have := HX1.out.2.1; omega⟩
    have HD1 := Aside0.mk hD1
    obtain ⟨u1, hu1⟩ : ∃ u, up (([] : List Int).any (fun k => (rd_T48 l0 x1).f0 == k)) (D l0 x1) = u := ⟨_, rfl⟩
    have HU1 := Aside0.mk (And.intro (show (([] : List Int) : List Int).length < 100 by decide) hu1)
    have hD2 : rd xs x2 = D l0 x2 ∧ 0 ≤ D l0 x2 ∧ D l0 x2 ≤ 5000 := ⟨HD.out.done x2 HX2.out.1 (by have := HX2.out.2.2; have := HXX.out; omega), by have := D_bd l0 _ HRT.out l0.length x2 HX2.out.1 HX2.out.2.1 HX2.out.2.1; have := HLM.out; have := HX2.out.2.1; omega⟩
    have HD2 := Aside0.mk hD2
    obtain ⟨u2, hu2⟩ : ∃ u, up ([4].any (fun k => (rd_T48 l0 x2).f0 == k)) (D l0 x2) = u := ⟨_, rfl⟩
    have HU2 := Aside0.mk (And.intro (show ([4] : List Int).length < 100 by decide) hu2)
    obtain ⟨m, hmx⟩ : ∃ m, (if u1 < u2 then u2 else u1) = m := ⟨_, rfl⟩
    have hd : D l0 (j : Int) = m := by
     have := HDE.out
     rw [← HXX.out.1, this, if_neg (show ¬ (4 : Int) = 1 by decide), if_neg (show ¬ (4 : Int) = 3 by decide), if_pos rfl]
     show mx2 _ _ = _
     rw [show D l0 x1 = u1 from hu1, hu2]
     exact hmx
    have HPD := Aside0.mk hd
    clear hd hD1 hu1 hD2 hu2
    have hn0 : (wr.alloc (.cells #[.int .i64 4, .int .i64 x1, .int .i64 x2, .int .i64 x3, .int .i64 x4, .int .i64 x5] 48 (0, 0))).cell? ⟨wr.heap.size, 0, none⟩ = some (.int .i64 4) := (blk_cell (blk_new wr (.cells #[.int .i64 4, .int .i64 x1, .int .i64 x2, .int .i64 x3, .int .i64 x4, .int .i64 x5] 48 (0, 0))) 0).trans rfl
    have hn1 : (wr.alloc (.cells #[.int .i64 4, .int .i64 x1, .int .i64 x2, .int .i64 x3, .int .i64 x4, .int .i64 x5] 48 (0, 0))).cell? ⟨wr.heap.size, 1, none⟩ = some (.int .i64 x1) := (blk_cell (blk_new wr (.cells #[.int .i64 4, .int .i64 x1, .int .i64 x2, .int .i64 x3, .int .i64 x4, .int .i64 x5] 48 (0, 0))) 1).trans rfl
    have hn2 : (wr.alloc (.cells #[.int .i64 4, .int .i64 x1, .int .i64 x2, .int .i64 x3, .int .i64 x4, .int .i64 x5] 48 (0, 0))).cell? ⟨wr.heap.size, 2, none⟩ = some (.int .i64 x2) := (blk_cell (blk_new wr (.cells #[.int .i64 4, .int .i64 x1, .int .i64 x2, .int .i64 x3, .int .i64 x4, .int .i64 x5] 48 (0, 0))) 2).trans rfl
    have hab := cell_al hab0 (.cells #[.int .i64 4, .int .i64 x1, .int .i64 x2, .int .i64 x3, .int .i64 x4, .int .i64 x5] 48 (0, 0))
    have hra := cell_al hra0 (.cells #[.int .i64 4, .int .i64 x1, .int .i64 x2, .int .i64 x3, .int .i64 x4, .int .i64 x5] 48 (0, 0))
    have hrf := frozen_below (below_alloc (Below.refl _ wr) (.cells #[.int .i64 4, .int .i64 x1, .int .i64 x2, .int .i64 x3, .int .i64 x4, .int .i64 x5] 48 (0, 0))) HAL.out hrf0
    go_wp2_with fail
    generalize hW1 : wr.alloc (.cells #[.int .i64 4, .int .i64 x1, .int .i64 x2, .int .i64 x3, .int .i64 x4, .int .i64 x5] 48 (0, 0)) = W1 at *
    have HBW : Aside0 (Below wr.heap.size wr W1) := ⟨by rw [← hW1]; exact below_alloc (Below.refl _ _) _⟩
    have HDW := Aside0.mk (HD.out.step HBW.out)
    have HPW := Aside0.mk (HDW.out.part HN.out)
    have hral : a < W1.heap.size := Nat.lt_of_lt_of_le HAL.out HBW.out.size
    generalize wr.heap.size = nb at *
    clear hW1
    refine start_ (n := 14) (S := fun w' => w'.cell? ⟨a + 1, 0, none⟩ = some (.slice (some ⟨a, 0, none⟩) xs.length xs.length) ∧ w'.cell? ⟨nb, 1, none⟩ = some (.int .i64 x1) ∧ w'.cell? ⟨nb, 2, none⟩ = some (.int .i64 x2)) (ds := [13]) #[false, false, false, false, false, false, false, false, false, false, false, false, false, false] (by kernel_rfl) rfl rfl ⟨hab, hn1, hn2⟩ (fun hHeld => ?_)
    refine pq_ (i := 1) (n := 49) (bA 14 2) (by kernel_rfl) ?_
    refine pq_ (i := 2) (n := 50) (bA 14 6) (by kernel_rfl) ?_
    refine pq_ (i := 3) (n := 51) (bA 14 14) (by kernel_rfl) ?_
    refine pq_ (i := 6) (n := 54) (bA 14 78) (by kernel_rfl) ?_
    refine pq_ (i := 7) (n := 55) (bA 14 206) (by kernel_rfl) ?_
    refine tq_ (i := 0) (n := 48) (bA 14 207) (by kernel_rfl) hHeld ?_
    refine tq_ (i := 4) (n := 52) (bA 14 223) (by kernel_rfl) hHeld ?_
    refine tq_ (i := 8) (n := 56) (bA 14 479) (by kernel_rfl) hHeld ?_
    refine join_ (σ := Nat) 4 #[true, true, true, true, true, true, true, true, true, true, false, false, false, false] (fun s => [(53, .int .i64 u1), (57, .slice (some ⟨s, 0, none⟩) 1 1)]) (fun s w' => Below W1.heap.size W1 w' ∧ Kd.C (Kd.int .i64) w' (some ⟨s, 0, none⟩) 1 [4]) ?_ ?_
    rotate_left
    ·intro hCont
     refine two_ (i := 5) (j := 9) (Ni := some 53) (Nj := some 57) #[true, true, true, true, true, true, true, true, true, false, false, false, false, false] #[true, true, true, true, true, false, true, true, true, true, false, false, false, false] rfl rfl rfl rfl (by kernel_rfl) (by decide) (by decide) (fun K hK => ?_) (fun K hK => ?_)
     ·skip
      refine goesC_ #[.pointer (some ⟨w.heap.size, 0, none⟩), .pointer (some ⟨a + 1, 0, none⟩)] Tryd.func19 (by kernel_rfl) rfl #[.int .i64 x1, .slice none 0 0, .pointer (some ⟨w.heap.size, 0, none⟩), .pointer (some ⟨a + 1, 0, none⟩)] (by rfl) rfl rfl (by rfl) (by simp only [List.map_toArray, List.map_cons, List.map_nil]; rfl) ?_
      refine (part_u _ w.heap.size (a + 1) a ad l0 c0 xs.length xs (HPW.out.step (below_drew1 (Below.refl _ W1))) HLN.out x1 HX1.out.1 HX1.out.2.1 HD1.out _ 0 [] (Kd.C_nil _ _) u1 HU1.out).mono ?_
      rintro e w9 ⟨rfl, rfl⟩
      refine ⟨_, rfl, ?_⟩
      refine hK.out _ _ ⟨hHeld.1, hHeld.2.1, hHeld.2.2⟩ (fun hHeld => ?_)
      clear hK K
      refine nm_ (n := 53) ?_
      refine one_ (i := 9) (N := some 57) (bA 14 1023) rfl rfl (by kernel_rfl) (by decide) (fun K hK => ?_)
      refine value_ (w1 := ?_) (v := ?_) (by rfl) rfl ?_ ?_
      rotate_left 2
      ·go_simp
       constructor
       ·rfl
       ·rfl
      refine hK.out _ _ ⟨(cell_al (W := W1.drew) hab _), (cell_al (W := W1.drew) hn1 _), (cell_al (W := W1.drew) hn2 _)⟩ (fun hHeld => ?_)
      clear hK K
      refine nm_ (n := 57) ?_
      exact norm_ (by simp only [putAll, Act.put, List.setIfInBounds_toArray, List.set_cons_zero, List.set_cons_succ]) (hCont W1.heap.size _ ⟨below_drew1 (below_alloc (Below.refl _ W1) _), lc1 W1 [4] (by decide)⟩)
     ·skip
      refine value_ (w1 := ?_) (v := ?_) (by rfl) rfl ?_ ?_
      rotate_left 2
      ·go_simp
       constructor
       ·rfl
       ·rfl
      refine hK.out _ _ ⟨(cell_al (W := W1.drew) hab _), (cell_al (W := W1.drew) hn1 _), (cell_al (W := W1.drew) hn2 _)⟩ (fun hHeld => ?_)
      clear hK K
      refine nm_ (n := 57) ?_
      refine one_ (i := 5) (N := some 53) (bA 14 1023) rfl rfl (by kernel_rfl) (by decide) (fun K hK => ?_)
      refine goesC_ #[.pointer (some ⟨w.heap.size, 0, none⟩), .pointer (some ⟨a + 1, 0, none⟩)] Tryd.func19 (by kernel_rfl) rfl #[.int .i64 x1, .slice none 0 0, .pointer (some ⟨w.heap.size, 0, none⟩), .pointer (some ⟨a + 1, 0, none⟩)] (by rfl) rfl rfl (by rfl) (by simp only [List.map_toArray, List.map_cons, List.map_nil]; rfl) ?_
      refine (part_u _ w.heap.size (a + 1) a ad l0 c0 xs.length xs (HPW.out.step (below_drew1 (below_alloc (Below.refl _ W1) _))) HLN.out x1 HX1.out.1 HX1.out.2.1 HD1.out _ 0 [] (Kd.C_nil _ _) u1 HU1.out).mono ?_
      rintro e w9 ⟨rfl, rfl⟩
      refine ⟨_, rfl, ?_⟩
      refine hK.out _ _ ⟨hHeld.1, hHeld.2.1, hHeld.2.2⟩ (fun hHeld => ?_)
      clear hK K
      refine nm_ (n := 53) ?_
      exact norm_ (by simp only [putAll, Act.put, List.setIfInBounds_toArray, List.set_cons_zero, List.set_cons_succ]) (hCont W1.heap.size _ ⟨below_drew1 (below_alloc (Below.refl _ W1) _), lc1 W1 [4] (by decide)⟩)
    rintro q w' ⟨hBw, hKq⟩
    have hra' := pw_cell_below hBw hra
    have hrf' := frozen_below hBw hral hrf
    have hHeld : (fun w' : World => w'.cell? ⟨a + 1, 0, none⟩ = some (.slice (some ⟨a, 0, none⟩) xs.length xs.length) ∧ w'.cell? ⟨nb, 1, none⟩ = some (.int .i64 x1) ∧ w'.cell? ⟨nb, 2, none⟩ = some (.int .i64 x2)) w' := ⟨pw_cell_below hBw hab, pw_cell_below hBw hn1, pw_cell_below hBw hn2⟩
    refine norm_ (a' := ?_) ?_ ?_
    rotate_left
    ·simp only [putAll, Act.put, List.setIfInBounds_toArray, List.set_cons_zero, List.set_cons_succ]
     rfl
    refine one_ (i := 10) (N := some 58) (bA 14 2047) rfl rfl (by kernel_rfl) (by decide) (fun K hK => ?_)
    refine goesC_ #[.pointer (some ⟨w.heap.size, 0, none⟩), .pointer (some ⟨a + 1, 0, none⟩)] Tryd.func19 (by kernel_rfl) rfl #[.int .i64 x2, .slice (some ⟨q, 0, none⟩) 1 1, .pointer (some ⟨w.heap.size, 0, none⟩), .pointer (some ⟨a + 1, 0, none⟩)] (by rfl) rfl rfl (by rfl) (by simp only [List.map_toArray, List.map_cons, List.map_nil]; rfl) ?_
    refine (part_u _ w.heap.size (a + 1) a ad l0 c0 xs.length xs (HPW.out.step (hBw)) HLN.out x2 HX2.out.1 HX2.out.2.1 HD2.out _ 1 [4] hKq u2 HU2.out).mono ?_
    rintro e w9 ⟨rfl, rfl⟩
    refine ⟨_, rfl, ?_⟩
    refine hK.out _ _ ⟨hHeld.1, hHeld.2.1, hHeld.2.2⟩ (fun hHeld => ?_)
    clear hK K
    refine nm_ (n := 58) ?_
    refine pq_ (i := 11) (n := 59) (bA 14 4095) (by kernel_rfl) ?_
    refine pq_ (i := 12) (n := 60) (bA 14 8191) (by kernel_rfl) ?_
    refine last_ (i := 13) (N := none) #[true, true, true, true, true, true, true, true, true, true, true, true, true, true] rfl rfl (by kernel_rfl) (by decide) (fun K hK => ?_)
    refine skip_ (w1 := ?_) (by rfl) rfl ?_ ?_
    rotate_left
    ·go_simp
     rfl
    refine hK.out _ _ ?_
    clear hK K
    refine done_ (by kernel_rfl) ?_
    have HF : Aside0 (∃ xs', DI w w.heap.size (a + 1) a (some ad) c0 l0 A1 c1 l1.length r (w9.setCell ⟨a, x.toNat, none⟩ (.int .i64 m)) xs' (j + 1)) := ⟨_, (HDW.out.step hBw).put x HXX.out.1 HXX.out.2 m HPD.out⟩
    clear hHeld
    go_wp2_with fail
    go_roundw
    case rel => exact ⟨_, j + 1, rfl, ⟨by have := HXX.out; omega⟩, ⟨HXX.out.2⟩, HF⟩
    case measure => have := HXX.out; simp [intOf]; omega
   by_cases o5 : x0 = 5
   ·subst o5
    obtain ⟨a0, a1⟩ := right5 HR.out
    have HX1 : Aside0 (0 ≤ x1 ∧ x1 < (l0.length : Int) ∧ x1 < x) := ⟨⟨a0, by have := HXX.out; omega, a1⟩⟩
    clear a0 a1
    have hD1 : rd xs x1 = D l0 x1 ∧ 0 ≤ D l0 x1 ∧ D l0 x1 ≤ 5000 := ⟨HD.out.done x1 HX1.out.1 (by have := HX1.out.2.2; have := HXX.out; omega), by have := D_bd l0 _ HRT.out l0.length x1 HX1.out.1 HX1.out.2.1 HX1.out.2.1; have := HLM.out; have := HX1.out.2.1; omega⟩
    have HD1 := Aside0.mk hD1
    obtain ⟨u1, hu1⟩ : ∃ u, up ([4, 3, 5].any (fun k => (rd_T48 l0 x1).f0 == k)) (D l0 x1) = u := ⟨_, rfl⟩
    have HU1 := Aside0.mk (And.intro (show ([4, 3, 5] : List Int).length < 100 by decide) hu1)
    have hd : D l0 (j : Int) = u1 := by
     have := HDE.out
     rw [← HXX.out.1, this, if_neg (show ¬ (5 : Int) = 1 by decide), if_neg (show ¬ (5 : Int) = 3 by decide), if_neg (show ¬ (5 : Int) = 4 by decide), if_pos rfl]
     exact hu1
    have HPD := Aside0.mk hd
    clear hd hD1 hu1
    have hn0 : (wr.alloc (.cells #[.int .i64 5, .int .i64 x1, .int .i64 x2, .int .i64 x3, .int .i64 x4, .int .i64 x5] 48 (0, 0))).cell? ⟨wr.heap.size, 0, none⟩ = some (.int .i64 5) := (blk_cell (blk_new wr (.cells #[.int .i64 5, .int .i64 x1, .int .i64 x2, .int .i64 x3, .int .i64 x4, .int .i64 x5] 48 (0, 0))) 0).trans rfl
    have hn1 : (wr.alloc (.cells #[.int .i64 5, .int .i64 x1, .int .i64 x2, .int .i64 x3, .int .i64 x4, .int .i64 x5] 48 (0, 0))).cell? ⟨wr.heap.size, 1, none⟩ = some (.int .i64 x1) := (blk_cell (blk_new wr (.cells #[.int .i64 5, .int .i64 x1, .int .i64 x2, .int .i64 x3, .int .i64 x4, .int .i64 x5] 48 (0, 0))) 1).trans rfl
    have hab := cell_al hab0 (.cells #[.int .i64 5, .int .i64 x1, .int .i64 x2, .int .i64 x3, .int .i64 x4, .int .i64 x5] 48 (0, 0))
    have hra := cell_al hra0 (.cells #[.int .i64 5, .int .i64 x1, .int .i64 x2, .int .i64 x3, .int .i64 x4, .int .i64 x5] 48 (0, 0))
    have hrf := frozen_below (below_alloc (Below.refl _ wr) (.cells #[.int .i64 5, .int .i64 x1, .int .i64 x2, .int .i64 x3, .int .i64 x4, .int .i64 x5] 48 (0, 0))) HAL.out hrf0
    go_wp2_with fail
    generalize hW1 : wr.alloc (.cells #[.int .i64 5, .int .i64 x1, .int .i64 x2, .int .i64 x3, .int .i64 x4, .int .i64 x5] 48 (0, 0)) = W1 at *
    have HBW : Aside0 (Below wr.heap.size wr W1) := ⟨by rw [← hW1]; exact below_alloc (Below.refl _ _) _⟩
    have HDW := Aside0.mk (HD.out.step HBW.out)
    have HPW := Aside0.mk (HDW.out.part HN.out)
    have hral : a < W1.heap.size := Nat.lt_of_lt_of_le HAL.out HBW.out.size
    generalize wr.heap.size = nb at *
    clear hW1
    refine start_ (n := 9) (S := fun w' => w'.cell? ⟨a + 1, 0, none⟩ = some (.slice (some ⟨a, 0, none⟩) xs.length xs.length) ∧ w'.cell? ⟨nb, 1, none⟩ = some (.int .i64 x1)) (ds := [8]) #[false, false, false, false, false, false, false, false, false] (by kernel_rfl) rfl rfl ⟨hab, hn1⟩ (fun hHeld => ?_)
    refine pq_ (i := 1) (n := 64) (bA 9 2) (by kernel_rfl) ?_
    refine pq_ (i := 2) (n := 65) (bA 9 6) (by kernel_rfl) ?_
    refine pq_ (i := 3) (n := 66) (bA 9 14) (by kernel_rfl) ?_
    refine tq_ (i := 0) (n := 63) (bA 9 15) (by kernel_rfl) hHeld ?_
    refine tq_ (i := 4) (n := 67) (bA 9 31) (by kernel_rfl) hHeld ?_
    refine one_ (i := 5) (N := some 68) (bA 9 63) rfl rfl (by kernel_rfl) (by decide) (fun K hK => ?_)
    refine value_ (w1 := ?_) (v := ?_) (by rfl) rfl ?_ ?_
    rotate_left 2
    ·go_simp
     constructor
     ·rfl
     ·rfl
    refine hK.out _ _ ⟨(cell_al (W := W1.drew) hab _), (cell_al (W := W1.drew) hn1 _)⟩ (fun hHeld => ?_)
    clear hK K
    refine nm_ (n := 68) ?_
    refine one_ (i := 6) (N := some 69) (bA 9 127) rfl rfl (by kernel_rfl) (by decide) (fun K hK => ?_)
    refine goesC_ #[.pointer (some ⟨w.heap.size, 0, none⟩), .pointer (some ⟨a + 1, 0, none⟩)] Tryd.func19 (by kernel_rfl) rfl #[.int .i64 x1, .slice (some ⟨W1.heap.size, 0, none⟩) 3 3, .pointer (some ⟨w.heap.size, 0, none⟩), .pointer (some ⟨a + 1, 0, none⟩)] (by rfl) rfl rfl (by rfl) (by simp only [List.map_toArray, List.map_cons, List.map_nil]; rfl) ?_
    refine (part_u _ w.heap.size (a + 1) a ad l0 c0 xs.length xs (HPW.out.step (below_drew1 (below_alloc (Below.refl _ W1) _))) HLN.out x1 HX1.out.1 HX1.out.2.1 HD1.out _ 3 [4, 3, 5] (lc1 W1 [4, 3, 5] (by decide)) u1 HU1.out).mono ?_
    rintro e w9 ⟨rfl, rfl⟩
    refine ⟨_, rfl, ?_⟩
    have hBw : Below W1.heap.size W1 (W1.alloc (.cells #[.int .i64 4, .int .i64 3, .int .i64 5] 3)).drew := below_drew1 (below_alloc (Below.refl _ W1) _)
    have hra' := pw_cell_below hBw hra
    have hrf' := frozen_below hBw hral hrf
    refine hK.out _ _ ⟨hHeld.1, hHeld.2⟩ (fun hHeld => ?_)
    clear hK K
    refine nm_ (n := 69) ?_
    refine pq_ (i := 7) (n := 70) (bA 9 255) (by kernel_rfl) ?_
    refine last_ (i := 8) (N := none) #[true, true, true, true, true, true, true, true, true] rfl rfl (by kernel_rfl) (by decide) (fun K hK => ?_)
    refine skip_ (w1 := ?_) (by rfl) rfl ?_ ?_
    rotate_left
    ·go_simp
     rfl
    refine hK.out _ _ ?_
    clear hK K
    refine done_ (by kernel_rfl) ?_
    have HF : Aside0 (∃ xs', DI w w.heap.size (a + 1) a (some ad) c0 l0 A1 c1 l1.length r ((W1.setCell ⟨a, x.toNat, none⟩ (.int .i64 u1)).alloc (litO [4, 3, 5])).drew xs' (j + 1)) := ⟨_, (HDW.out.put x HXX.out.1 HXX.out.2 u1 HPD.out).step (below_drew1 (below_alloc (Below.refl _ _) _))⟩
    clear hHeld
    go_wp2_with fail
    go_roundw
    case rel => exact ⟨_, j + 1, rfl, ⟨by have := HXX.out; omega⟩, ⟨HXX.out.2⟩, HF⟩
    case measure => have := HXX.out; simp [intOf]; omega
   have hd : D l0 (j : Int) = 0 := by
    have := HDE.out
    rw [← HXX.out.1, this, if_neg o1, if_neg o3, if_neg o4, if_neg o5]
   have e1 : (x0 == 1) = false := beq_eq_false_iff_ne.mpr o1
   have e3 : (x0 == 3) = false := beq_eq_false_iff_ne.mpr o3
   have e4 : (x0 == 4) = false := beq_eq_false_iff_ne.mpr o4
   have e5 : (x0 == 5) = false := beq_eq_false_iff_ne.mpr o5
   have f1 : decide (x0 = 1) = false := decide_eq_false o1
   have f3 : decide (x0 = 3) = false := decide_eq_false o3
   have f4 : decide (x0 = 4) = false := decide_eq_false o4
   have f5 : decide (x0 = 5) = false := decide_eq_false o5
   have HF : Aside0 (∃ xs', DI w w.heap.size (a + 1) a (some ad) c0 l0 A1 c1 l1.length r (wr.alloc (.cells #[.int .i64 x0, .int .i64 x1, .int .i64 x2, .int .i64 x3, .int .i64 x4, .int .i64 x5] 48 (0, 0))) xs' (j + 1)) := ⟨xs, (HD.out.step (below_alloc (Below.refl _ wr) _)).skip hd⟩
   clear o1 o3 o4 o5 hd
   have hn0 : (wr.alloc (.cells #[.int .i64 x0, .int .i64 x1, .int .i64 x2, .int .i64 x3, .int .i64 x4, .int .i64 x5] 48 (0, 0))).cell? ⟨wr.heap.size, 0, none⟩ = some (.int .i64 x0) := (blk_cell (blk_new wr (.cells #[.int .i64 x0, .int .i64 x1, .int .i64 x2, .int .i64 x3, .int .i64 x4, .int .i64 x5] 48 (0, 0))) 0).trans rfl
   have hab := cell_al hab0 (.cells #[.int .i64 x0, .int .i64 x1, .int .i64 x2, .int .i64 x3, .int .i64 x4, .int .i64 x5] 48 (0, 0))
   have hra := cell_al hra0 (.cells #[.int .i64 x0, .int .i64 x1, .int .i64 x2, .int .i64 x3, .int .i64 x4, .int .i64 x5] 48 (0, 0))
   have hrf := frozen_below (below_alloc (Below.refl _ wr) (.cells #[.int .i64 x0, .int .i64 x1, .int .i64 x2, .int .i64 x3, .int .i64 x4, .int .i64 x5] 48 (0, 0))) HAL.out hrf0
   go_wp2
   go_roundw
   case rel => exact ⟨_, j + 1, rfl, ⟨by have := HXX.out; omega⟩, ⟨HXX.out.2⟩, HF⟩
   case measure => have := HXX.out; simp [intOf]; omega
  ·have hx := HX.out
   obtain ⟨xs, hD⟩ := HD0.out
   have hj := HJ.out
   have p1' : decide (x < (l0.length : Int)) = false := decide_eq_false (by omega)
   have hxs := hD.len
   have hab0 : wr.cell? ⟨a + 1, 0, none⟩ = some (.slice (some ⟨a, 0, none⟩) xs.length xs.length) := (blk_cell hD.b 0).trans rfl
   have ht2 : wr.cell? ⟨w.heap.size, 2, none⟩ = some (.int .i64 r) := (blk_cell hD.t 2).trans rfl
   obtain ⟨hra0, hrf0⟩ := own_at hD.own r HRR.out.1 (by have := HRR.out.2; omega)
   have hres : rd xs r = D l0 r := hD.done r HRR.out.1 (by have := HRR.out.2; omega)
   rw [hres] at hra0
   have q0 : (0 ≤ r) = True := eq_true HRR.out.1
   have q1 : (r < (xs.length : Int)) = True := eq_true (by have := HRR.out.2; omega)
   have HF := Aside0.mk hD.below
   clear hx hD HD0 hj hxs HX HJ cj hres
   go_wp2
   go_ret
   exact ⟨rfl, HF.out⟩
end Go.Proofs.YtlihkebmonfefaaDoor.HandDeep
/- regprint.Deep, of any tree: what it tells. Conditions: the tree lies there; the walk is within the rounds. -/
set_option linter.unusedSimpArgs false
set_option linter.unusedVariables false
namespace Go.Proofs.YtlihkebmonfefaaDoor.HandDeeps
open Go.RowKit Go.Proofs.YtlihkebmonfefaaDoorW.PrintWords Go.Proofs.YtlihkebmonfefaaDoorW.PrintLast Go.Proofs.YtlihkebmonfefaaDoorW.PrintMore Go.Proofs.YtlihkebmonfefaaDoor.PG Go.Proofs.YtlihkebmonfefaaDoor.HandRight Go.Proofs.YtlihkebmonfefaaDoor.HandDeep
def okD (l : List S48) (s : List (List S60)) : Bool := (List.range l.length).all fun i => rightN (rd_T48 l (i : Int)) (i : Int) (s.length : Int)
theorem okD_at {l : List S48} {s : List (List S60)} (h : okD l s = true) : Right l s.length := by
 intro i h0 h1
 unfold okD at h
 rw [List.all_eq_true] at h
 have e := h i.toNat (List.mem_range.2 (by omega))
 rwa [show ((i.toNat : Nat) : Int) = i by omega] at e
def regprint_Deep.f (k : Nat) (l : List S48) (s : List (List S60)) (r : Int) : Option Int :=
 (arena_Check.f k l s r).bind fun e => if e = 0 then (if okD l s = true ∧ (0 ≤ r ∧ r < (l.length : Int)) ∧ l.length ≤ 4096 then some (D l r) else none) else some 0
theorem regprint_Deep.mono : ∀ a0 a1 a2 k, LeO (regprint_Deep.f k a0 a1 a2) (regprint_Deep.f (k + 1) a0 a1 a2) := by
 intro l s r k
 unfold regprint_Deep.f
 exact LeO.bind (arena_Check.mono _ _ _ _) fun e => LeO.refl _
set_option maxRecDepth 100000 in
set_option maxHeartbeats 2000000 in
theorem regprint_Deep.calls (k : Nat) (A0_0 : Option Addr) (c0_0 : Nat) (l0_0 : List (S48)) (A0_1 : Option Addr) (c0_1 : Nat) (l0_1 : List (List (S60))) (a0_2 : Int) (r : Int) (w : World) (hr0_0 : Kd.C k48 w A0_0 l0_0.length l0_0) (hc0_0 : l0_0.length ≤ c0_0) (hr0_1 : Kd.C (Kd.slice 60 k60) w A0_1 l0_1.length l0_1) (hc0_1 : l0_1.length ≤ c0_1) (h : regprint_Deep.f k l0_0 l0_1 a0_2 = some r) :
  Calls Tryd.prog 8 #[.agg #[.slice A0_0 l0_0.length c0_0, .slice A0_1 l0_1.length c0_1, .int .i64 a0_2]] w fun e w' => e = .returned (.int .i64 r) ∧ Below w.heap.size w w' := by
 unfold regprint_Deep.f at h
 obtain ⟨x, hx, h⟩ := Option.bind_eq_some_iff.mp h
 by_cases c0 : x = 0
 ·subst c0
  rw [if_pos rfl] at h
  by_cases c1 : okD l0_0 l0_1 = true ∧ (0 ≤ a0_2 ∧ a0_2 < (l0_0.length : Int)) ∧ l0_0.length ≤ 4096
  ·rw [if_pos c1] at h
   obtain ⟨ad, eA, _⟩ := at_T48 hr0_0 a0_2 c1.2.1.1 c1.2.1.2
   subst eA
   rw [← Option.some.inj h]
   exact regprint_Deep.walk k ad c0_0 l0_0 A0_1 c0_1 l0_1 a0_2 w hr0_0 hc0_0 hr0_1 hc0_1 hx (okD_at c1.1) c1.2.1 c1.2.2
  ·rw [if_neg c1] at h; cases h
 ·rw [if_neg c0] at h
  obtain rfl := Option.some.inj h
  have hu25 := Tryd.underlying25
  have HB1 : Aside0 (Below w.heap.size w (w.alloc (.cells #[.slice A0_0 l0_0.length c0_0, .slice A0_1 l0_1.length c0_1, .int .i64 a0_2] 25 (0, 0)))) := ⟨below_alloc (Below.refl _ w) _⟩
  have hbx := blk_new w (.cells #[.slice A0_0 l0_0.length c0_0, .slice A0_1 l0_1.length c0_1, .int .i64 a0_2] 25 (0, 0))
  have b0 : (w.alloc (.cells #[.slice A0_0 l0_0.length c0_0, .slice A0_1 l0_1.length c0_1, .int .i64 a0_2] 25 (0, 0))).cell? ⟨w.heap.size, 0, none⟩ = some (.slice A0_0 l0_0.length c0_0) := (blk_cell hbx 0).trans rfl
  have b1 : (w.alloc (.cells #[.slice A0_0 l0_0.length c0_0, .slice A0_1 l0_1.length c0_1, .int .i64 a0_2] 25 (0, 0))).cell? ⟨w.heap.size, 1, none⟩ = some (.slice A0_1 l0_1.length c0_1) := (blk_cell hbx 1).trans rfl
  have b2 : (w.alloc (.cells #[.slice A0_0 l0_0.length c0_0, .slice A0_1 l0_1.length c0_1, .int .i64 a0_2] 25 (0, 0))).cell? ⟨w.heap.size, 2, none⟩ = some (.int .i64 a0_2) := (blk_cell hbx 2).trans rfl
  have HX := Aside0.mk hx
  have HR0 := Aside0.mk hr0_0
  have HC0 := Aside0.mk hc0_0
  have HR1 := Aside0.mk hr0_1
  have HC1 := Aside0.mk hc0_1
  have hne : (x != 0) = true := by simp [c0]
  have hne' : decide (x = 0) = false := by simp [c0]
  clear hbx hx hr0_0 hc0_0 hr0_1 hc0_1 c0 h
  go_enter Tryd.func8, Tryd.ntmps8
  go_wp2_with (go_at_call 14; (with_reducible refine (arena_Check.calls k A0_0 c0_0 l0_0 A0_1 c0_1 l0_1 a0_2 x _ ?s1 HC0.out ?s2 HC1.out HX.out).mono ?_); (case s1 => exact Kd.C_below HR0.out HB1.out); (case s2 => exact Kd.C_below HR1.out HB1.out); rintro e w1 ⟨rfl, hb⟩; have HB2 := Aside0.mk (below_then HB1.out HB1.out.size hb); clear hb)
  go_ret
  exact ⟨rfl, HB2.out⟩
end Go.Proofs.YtlihkebmonfefaaDoor.HandDeeps

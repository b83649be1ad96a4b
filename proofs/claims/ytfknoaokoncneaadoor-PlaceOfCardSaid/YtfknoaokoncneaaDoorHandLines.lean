/- The lines of a text: what place.Lines makes, with the function that it makes within. No condition beyond a bound on the text's length. -/
import Derived.Test.YtfknoaokoncneaaDoorPDx0
import Derived.Test.YtfknoaokoncneaaDoorPlD
import Derived.RangeFuncBox
import Derived.RangeFuncLeaves
import Derived.Shelf.Abstract
import Derived.OwnWalkIn
import Derived.TacticsInMore
import Derived.LoopNIn
import Derived.LoopIn
import Derived.WalkSmall
namespace Go.Proofs.YtfknoaokoncneaaDoor.HandLines
open Go.RowKit Go.Shelf Go.Proofs.YtfknoaokoncneaaDoorW.PrintWords Go.Proofs.YtfknoaokoncneaaDoorW.PrintLast Go.Proofs.YtfknoaokoncneaaDoorW.PrintMore Go.Proofs.YtfknoaokoncneaaDoor.PD Go.Proofs.YtfknoaokoncneaaDoor.PlD

theorem wide_fn (f : FuncId) : Fence.wide.fn f = True := rfl
theorem wide_depth : Fence.wide.depth = none := rfl
attribute [local go_sem] Oper.semAt_some wide_fn wide_depth

def pairs (l : List (Nat × Nat)) : List Value := l.flatMap fun x => [.int .i64 (x.1 : Int), .int .i64 (x.2 : Int)]
theorem pairs_length (l : List (Nat × Nat)) : (pairs l).length = l.length * 2 := by
  induction l with
  | nil => rfl
  | cons x l ih => simp only [pairs, List.flatMap_cons, List.length_append, List.length_cons, List.length_nil] at ih ⊢; omega
theorem pairs_append (l m : List (Nat × Nat)) : pairs (l ++ m) = pairs l ++ pairs m := by simp [pairs]
theorem pairs_drop (l : List (Nat × Nat)) : ∀ (j : Nat) (x : Nat × Nat), l[j]? = some x → ((pairs l).drop (j * 2)).take 2 = [.int .i64 (x.1 : Int), .int .i64 (x.2 : Int)] := by
  induction l with
  | nil => intro j x h; simp at h
  | cons y l ih =>
    intro j x h
    cases j with
    | zero =>
      simp only [List.getElem?_cons_zero, Option.some.injEq] at h
      subst h
      rfl
    | succ j =>
      rw [List.getElem?_cons_succ] at h
      rw [show (j + 1) * 2 = j * 2 + 2 by omega]
      exact ih j x h
/-- A text's lines, from a byte on: where they begin, and end. -/
def linesN (s : ByteArray) : Nat → Nat → Nat → List (Nat × Nat)
  | 0, i, from_ => [(from_, i)]
  | d + 1, i, from_ => if bt s (i : Int) = 10 then (from_, i) :: linesN s d (i + 1) (i + 1) else linesN s d (i + 1) from_
def lines (s : ByteArray) : List (Nat × Nat) := linesN s s.size 0 0
theorem linesN_len (s : ByteArray) (d : Nat) : ∀ i f, (linesN s d i f).length ≤ d + 1 := by
  induction d with
  | zero => intro i f; simp [linesN]
  | succ d ih =>
    intro i f
    unfold linesN
    split
    · have := ih (i + 1) (i + 1); simp; omega
    · have := ih (i + 1) f; omega
/-- The two boxes that the inner function writes. -/
structure LAt (w0 : World) (B F : Nat) (pre : List (Nat × Nat)) (from_ : Nat) (W : World) : Prop where
  box : ∃ v, Boxed W B 29 v ∧ W.ownsRow w0.heap.size 31 2 v pre.length (pairs pre)
  num : Boxed W F 3 (.int .i64 (from_ : Int))
  below : Below w0.heap.size w0 W
theorem info31' : ∃ i, Tryd.prog.info? 31 = some i ∧ i.zero = some (.agg #[.int .i64 0, .int .i64 0]) ∧ i.size = 2 ∧ i.bytes = 16 := by
  obtain ⟨i, h1, h2, h3, h4⟩ := info_parts info31
  exact ⟨i, h1, h2, h3, h4⟩

set_option maxRecDepth 100000 in
set_option maxHeartbeats 2000000 in
theorem put_in (m : Nat) (w0 : World) (B F : Nat) (hBF : B ≠ F) (hB : w0.heap.size ≤ B) (hF : w0.heap.size ≤ F) (pre : List (Nat × Nat)) (from_ to_ : Nat) (hl : pre.length ≤ 1000000) (hto : to_ ≤ 1000000) (W : World) (h : LAt w0 B F pre from_ W) :
    CallsIn Fence.wide m Tryd.prog 50 #[.int .i64 (to_ : Int), .pointer (some ⟨B, 0, none⟩), .pointer (some ⟨F, 0, none⟩)] W fun e W' => (∃ v, e = .returned v) ∧ LAt w0 B F (pre ++ [(from_, to_)]) (to_ + 1) W' := by
  obtain ⟨i0, hi, hz0, hz1, hz2⟩ := info31'
  obtain ⟨v, hv, hrow⟩ := h.box
  have hn := h.below.size
  have hc := hv.cell
  have hf := hv.frozen
  have hcF := h.num.cell
  have hfF := h.num.frozen
  have HV := Aside0.mk hv
  have HN := Aside0.mk h.num
  have HB := Aside0.mk h.below
  have HR := Aside0.mk hrow
  clear hv h
  refine callsIn_of_wp Tryd.func50 rfl trivial ?_ rfl
  simp only [Tryd.ntmps50, List.size_toArray, List.length_cons, List.length_nil, Nat.reduceAdd, Nat.reduceSub, Array.replicate_succ, Array.replicate_zero, List.push_toArray, List.append_toArray, List.nil_append, List.cons_append]
  gi_wp2_with (gi_at_builtin; refine wpListIn_append_own _ rfl _ _ 29 rfl w0.heap.size 31 i0 (.agg #[.int .i64 0, .int .i64 0]) 2 16 Tryd.underlying29 hi hz0 hz1 hz2 rfl (by decide) _ _ _ rfl (hrow.alloc _) ⟨W.heap.size, 0, none⟩ 1 1 [.int .i64 (from_ : Int), .int .i64 (to_ : Int)] rfl rfl (cell_two_new _ _ _ _) (by simp [Value.oneCell']) (by unfold maxLen; omega) (by omega) (by simp; omega) ?_; intro v' w3 hown' hg3 hnil3; clear hnil3; obtain ⟨g, cap, hq⟩ := ownsRow_succ hown'; rw [hq]; rw [hq] at hown'; clear hq; have HA := Aside0.mk (HV.out.appended (by decide) hrow hn hB hown' hg3); have HO := Aside0.mk hown'; have HG := Aside0.mk hg3; have hc3 := HA.out.1.cell; have hf3 := HA.out.1.frozen; have HF3 := Aside0.mk (((HN.out.alloc (.cells #[.int .i64 (from_ : Int), .int .i64 (to_ : Int)] 31)).kept hg3 (HN.out.not_row (by decide) hrow)).kept (grownBy_setCell' w3 B (.slice (some ⟨g, 0, none⟩) (pre.length + 1) cap)) (by simp; omega)); have hcF3 := HF3.out.cell; have hfF3 := HF3.out.frozen; clear hown' hg3 hc hf hcF hfF)
  go_end0
  obtain ⟨a1, a2, a3, a4, a5⟩ := HA.out
  have hg := grownBy_setCell' (w3.setCell ⟨B, 0, none⟩ (.slice (some ⟨g, 0, none⟩) (pre.length + 1) cap)) F (.int .i64 ((to_ : Int) + 1))
  refine ⟨⟨_, rfl⟩, ⟨_, a2.kept hg (by simp; omega), ?_⟩, HF3.out.set _, (HB.out.trans a5).grown hg (HB.out.trans a5).size (fun k e => by cases e; exact hF)⟩
  rw [List.length_append, pairs_append]
  exact a3.kept hg (.inr (HF3.out.not_row (by decide) a3).symm)

def measL (s : ByteArray) (v : Value) : Nat := s.size - (intOf v).toNat
def Told (s : ByteArray) (i from_ : Nat) (pre : List (Nat × Nat)) : Prop := pre ++ linesN s (s.size - i) i from_ = lines s ∧ i ≤ s.size ∧ pre.length ≤ i

set_option maxRecDepth 100000 in
set_option maxHeartbeats 2000000 in
theorem lines_in (m : Nat) (s : ByteArray) (hs : s.size ≤ 1000000) (w : World) :
    CallsIn Fence.wide m Tryd.prog 17 #[.string s] w fun e w' => ∃ v : Value, e = .returned v ∧ w'.ownsRow w.heap.size 31 2 v (lines s).length (pairs (lines s)) ∧ Below w.heap.size w w' := by
  refine callsIn_of_wp Tryd.func17 rfl trivial ?_ rfl
  simp only [Tryd.ntmps17, List.size_toArray, List.length_cons, List.length_nil, Nat.reduceAdd, Nat.reduceSub, Array.replicate_succ, Array.replicate_zero, List.push_toArray, List.append_toArray, List.nil_append, List.cons_append]
  gi_wp2_with fail
  gi_loopw [10] (fun vi wr => ∃ (i from_ : Nat) (pre : List (Nat × Nat)), vi = .int .i64 (i : Int) ∧ Aside0 (Told s i from_ pre) ∧ Aside0 (LAt w w.heap.size (w.heap.size + 1) pre from_ wr))
    (fun vi _ => measL s vi)
  case atStart => 
    refine ⟨0, 0, [], rfl, ⟨by simp [Told, lines]⟩, ⟨?_⟩⟩
    have e1 : Boxed (w.alloc (.cells #[.slice none 0 0] 29)) w.heap.size 29 (.slice none 0 0) := Boxed.new w 29 _
    have e2 : Boxed ((w.alloc (.cells #[.slice none 0 0] 29)).alloc (.cells #[.int .i64 0] 3)) (w.heap.size + 1) 3 (.int .i64 0) := by
      have := Boxed.new (w.alloc (.cells #[.slice none 0 0] 29)) 3 (.int .i64 0)
      rwa [World.size_alloc] at this
    exact ⟨⟨_, e1.alloc _, World.ownsRow_nil _ _ _ _⟩, e2, ((Below.refl _ w).alloc (Nat.le_refl _) _).alloc (by simp) _⟩
  case round =>
    obtain ⟨i, from_, pre, rfl, HT, HA⟩ := hrel
    obtain ⟨t1, t2, t3⟩ := HT.out
    by_cases hlt : i < s.size
    · have c0 : decide ((i : Int) < (s.size : Int)) = true := by simp; omega
      have p1 : 0 ≤ (i : Int) := by omega
      have q1 : (i : Int) < (s.size : Int) := by omega
      have hx : ((s[i]'hlt).toNat : Int) = bt s (i : Int) := by unfold bt; simp [hlt]
      replace p1 := eq_true p1
      replace q1 := eq_true q1
      rw [show s.size - i = s.size - (i + 1) + 1 by omega, linesN] at t1
      have hz : (s.size - (i + 1)) + (i + 1) = s.size := by omega
      by_cases hc : bt s (i : Int) = 10
      · rw [if_pos hc] at t1
        have c1 : (((s[i]'hlt).toNat : Int) == 10) = true := by rw [hx, hc]; rfl
        have HT1 := Aside0.mk t1
        clear HT t1 hx
        gi_wp2_with (gi_at_call 50; refine (put_in _ w w.heap.size (w.heap.size + 1) (by omega) (by omega) (by omega) pre from_ i (by omega) (by omega) _ HA.out).mono ?_; rintro e W1 ⟨⟨v_, rfl⟩, hA1⟩; clear HA; have HA := Aside0.mk hA1; clear hA1)
        go_roundw
        case rel => exact ⟨i + 1, i + 1, pre ++ [(from_, i)], rfl, ⟨by rw [List.append_assoc]; exact HT1.out, by omega, by rw [List.length_append, List.length_singleton]; omega⟩, HA⟩
        case measure => unfold measL; simp [intOf]; omega
      · rw [if_neg hc] at t1
        have c1 : (((s[i]'hlt).toNat : Int) == 10) = false := by rw [hx]; exact beq_eq_false_iff_ne.mpr hc
        have HT1 := Aside0.mk t1
        clear HT t1 hx
        gi_wp2_with fail
        go_roundw
        case rel => exact ⟨i + 1, from_, pre, rfl, ⟨HT1.out, by omega, by omega⟩, HA⟩
        case measure => unfold measL; simp [intOf]; omega
    · have c0 : decide ((i : Int) < (s.size : Int)) = false := by simp; omega
      have ei : i = s.size := by omega
      rw [show s.size - i = 0 by omega, linesN] at t1
      have HT1 := Aside0.mk t1
      clear HT t1
      gi_wp2_with (gi_at_call 50; refine (put_in _ w w.heap.size (w.heap.size + 1) (by omega) (by omega) (by omega) pre from_ s.size (by omega) (by omega) _ HA.out).mono ?_; rintro e W1 ⟨⟨v_, rfl⟩, hA1⟩; clear HA; obtain ⟨u, hu, hrow⟩ := hA1.box; have hcu := hu.cell; have hfu := hu.frozen; have HA := Aside0.mk hA1; have HR := Aside0.mk hrow; clear hA1 hu hrow)
      go_ret
      refine ⟨_, rfl, ?_, HA.out.below⟩
      rw [← HT1.out, ei]
      exact HR.out

/-! ### as the printed texts want it told -/
def toS (x : Nat × Nat) : S31 := ⟨(x.1 : Int), (x.2 : Int)⟩
/-- What Lines tells: of a text that isn't too long (the row has room). -/
def place_Lines.f (s : ByteArray) : Option (List S31) := if s.size ≤ 1000000 then some ((lines s).map toS) else none
theorem row_of_pairs {W : World} {base : Nat} {v : Value} {l : List (Nat × Nat)} (h : W.ownsRow base 31 2 v l.length (pairs l)) : Kd.R k31 31 W base (fun _ => True) v (l.map toS) := by
  refine ⟨fun _ _ => trivial, pairs l, by rw [List.length_map]; exact h, ⟨by rw [pairs_length, List.length_map]; rfl, fun j p hp => ?_⟩⟩
  rw [List.getElem?_map] at hp
  obtain ⟨x, hx, rfl⟩ := Option.map_eq_some_iff.1 hp
  have e : ((pairs l).drop (j * 2)).take 2 = [.int .i64 (x.1 : Int), .int .i64 (x.2 : Int)] := pairs_drop l j x hx
  show k31.M W base _ (toS x) (((pairs l).drop (j * 2)).take 2)
  rw [e]
  exact k31_mkM W base _ (toS x)
theorem place_Lines.calls (a0 : ByteArray) (r : List S31) (w : World) (h : place_Lines.f a0 = some r) :
    Calls Tryd.prog 17 #[.string a0] w fun e w' => ∃ v0_ : Value, e = .returned (v0_) ∧ Kd.R k31 31 w' w.heap.size (fun _ => True) v0_ r ∧ Below w.heap.size w w' := by
  unfold place_Lines.f at h
  by_cases hs : a0.size ≤ 1000000
  · rw [if_pos hs] at h
    obtain rfl := Option.some.inj h
    refine (callsIn_wide.1 (lines_in 9 a0 hs w)).mono ?_
    rintro e w' ⟨v, rfl, hr, hb⟩
    exact ⟨v, rfl, row_of_pairs hr, hb⟩
  · rw [if_neg hs] at h
    cases h
end Go.Proofs.YtfknoaokoncneaaDoor.HandLines

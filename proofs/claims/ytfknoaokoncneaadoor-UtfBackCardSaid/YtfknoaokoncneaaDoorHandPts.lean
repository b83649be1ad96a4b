/- The code points of a text, one by one: what the iterator of utf.points hands to its loop. No condition beyond a bound on the text's length. -/
import Derived.Test.YtfknoaokoncneaaDoorPlU
import Derived.RangeFuncBox
import Derived.RangeFuncLeaves
import Derived.Shelf.Abstract
import Derived.OwnWalkIn
import Derived.TacticsInMore
import Derived.LoopNIn
import Derived.LoopIn
import Derived.WalkSmall
set_option linter.unusedSimpArgs false
set_option linter.unusedVariables false
namespace Go.Proofs.YtfknoaokoncneaaDoor.HandPts
open Go.RowKit Go.Shelf Go.Proofs.YtfknoaokoncneaaDoorW.PrintWords Go.Proofs.YtfknoaokoncneaaDoorW.PrintLast Go.Proofs.YtfknoaokoncneaaDoorW.PrintMore Go.Proofs.YtfknoaokoncneaaDoor.PU Go.Proofs.YtfknoaokoncneaaDoor.PlU
theorem wide_fn (f : FuncId) : Fence.wide.fn f = True := rfl
theorem wide_depth : Fence.wide.depth = none := rfl
theorem round_fn (l : Nat) (f : FuncId) : (Fence.wide.inRound l).fn f = True := rfl
theorem round_depth (l : Nat) : (Fence.wide.inRound l).depth = none := rfl
attribute [local go_sem] Oper.semAt_some wide_fn wide_depth round_fn round_depth
/-- The library's two tables are read. -/
structure Tabs (W : World) : Prop where
  first : Kd.C (Kd.int .u8) W (some ⟨2, 0, none⟩) tab_utf8_first.length tab_utf8_first
  accept : Kd.C k69 W (some ⟨3, 0, none⟩) tab_utf8_acceptRanges.length tab_utf8_acceptRanges
theorem Tabs.below {W W' : World} (h : Tabs W) (hb : Below W.heap.size W W') : Tabs W' := ⟨Kd.C_below h.first hb, Kd.C_below h.accept hb⟩
/-- The code points of a text, by so many steps. -/
def allN : Nat → ByteArray → List Int
  | 0, _ => []
  | d + 1, s => if s.size = 0 then [] else (getU s).1 :: allN d (s.extract (getU s).2.toNat s.size)
def allU (s : ByteArray) : List Int := allN s.size s
theorem rest_size (s : ByteArray) : (s.extract (getU s).2.toNat s.size).size = s.size - (getU s).2.toNat := by simp
theorem allN_more (d : Nat) : ∀ (e : Nat) (s : ByteArray), s.size ≤ d → s.size ≤ e → allN d s = allN e s := by
  induction d with
  | zero =>
    intro e s h _
    cases e with
    | zero => rfl
    | succ e => rw [allN, allN, if_pos (by omega)]
  | succ d ih =>
    intro e s h he
    by_cases h0 : s.size = 0
    · rw [allN, if_pos h0]
      cases e with
      | zero => rfl
      | succ e => rw [allN, if_pos h0]
    · obtain ⟨e, rfl⟩ : ∃ e', e = e' + 1 := ⟨e - 1, by omega⟩
      obtain ⟨_, _, _, _, _, _, g7, g8⟩ := getU_two s
      have hr := rest_size s
      have := g7 (by omega)
      rw [allN, allN, if_neg h0, if_neg h0, ih e _ (by omega) (by omega)]
theorem allU_next (s : ByteArray) (h : 0 < s.size) : allU s = (getU s).1 :: allU (s.extract (getU s).2.toNat s.size) := by
  obtain ⟨d, hd⟩ : ∃ d, s.size = d + 1 := ⟨s.size - 1, by omega⟩
  obtain ⟨_, _, _, _, _, _, g7, g8⟩ := getU_two s
  have hr := rest_size s
  have := g7 h
  unfold allU
  rw [hd, allN, if_neg (by omega)]
  congr 1
  rw [← hd]
  exact allN_more d _ _ (by omega) (Nat.le_refl _)
theorem allU_nil (s : ByteArray) (h : s.size = 0) : allU s = [] := by unfold allU; rw [h]; rfl
theorem get_in (m : Nat) (s : ByteArray) (w : World) (hT : Tabs w) :
    CallsIn Fence.wide m Tryd.prog 40 #[.string s] w fun e w' => e = .returned (.tuple #[.int .i64 (getU s).1, .int .i64 (getU s).2]) ∧ Below w.heap.size w w' :=
  callsIn_wide.2 (utf_Get.calls 2 s _ _ w hT.first hT.accept (Get_f s 0))
theorem box_under {W W' : World} {B : Nat} {t : TypeId} {v : Value} (h : Boxed W B t v) (hb : Below W.heap.size W W') : Boxed W' B t v := (hb.block B h.lt).trans h
def KeepsB (Bs : Nat) (W W' : World) : Prop := ∀ t : ByteArray, Boxed W Bs 9 (.string t) → Boxed W' Bs 9 (.string t)
def measB (Bs : Nat) (w : World) : Nat := match w.cell? ⟨Bs, 0, none⟩ with | some (.string t) => t.size | _ => 0
set_option maxRecDepth 100000 in
set_option maxHeartbeats 2000000 in
theorem each1_in (m : Nat) (hm : 1 ≤ m) (l Bs : Nat) (s0 : ByteArray) (hs : s0.size ≤ 1000000) (J Jx : List Int → World → Prop)
    (hJT : ∀ pre W, J pre W → Tabs W)
    (hJb : ∀ pre W W', J pre W → Below W.heap.size W W' → J pre W')
    (hJs : ∀ pre W (t u : ByteArray), J pre W → Boxed W Bs 9 (.string t) → J pre (W.setCell ⟨Bs, 0, none⟩ (.string u)))
    (hY : ∀ pre x W, J pre W → pre.length < s0.size → YieldAt Fence.wide (m - 1) Tryd.prog l #[.int .i64 x] W fun e W' =>
      (e = .returned (.bool true) ∧ J (pre ++ [x]) W' ∧ KeepsB Bs W W') ∨ (e = .returned (.bool false) ∧ Jx (pre ++ [x]) W'))
    (W : World) (hc : Boxed W Bs 9 (.string s0)) (h0 : J [] W) :
    CallsIn Fence.wide m Tryd.prog 60 #[.func (.yield l) #[] #[], .pointer (some ⟨Bs, 0, none⟩)] W fun e W' => (∃ v, e = .returned v) ∧
      (J (allU s0) W' ∨ ∃ pre rest, pre ++ rest = allU s0 ∧ Jx pre W') := by
  have HJ0 := Aside0.mk h0
  have HC0 := Aside0.mk hc
  clear h0 hc
  refine callsIn_of_wp Tryd.func60 rfl trivial ?_ rfl
  simp only [Tryd.ntmps60, List.size_toArray, List.length_cons, List.length_nil, Nat.reduceAdd, Nat.reduceSub, Array.replicate_succ, Array.replicate_zero, List.push_toArray, List.append_toArray, List.nil_append, List.cons_append]
  gi_wp2_with fail
  gi_loopw [3] (fun _ wr => ∃ (t : ByteArray) (pre : List Int), Aside0 (pre ++ allU t = allU s0 ∧ pre.length + t.size ≤ s0.size) ∧ Aside0 (J pre wr) ∧ Aside0 (Boxed wr Bs 9 (.string t)))
    (fun _ wr => measB Bs wr)
  case atStart => exact ⟨s0, [], ⟨by simp⟩, HJ0, HC0⟩
  case round =>
    clear HJ0 HC0
    obtain ⟨t, pre, HP, HJ, HB⟩ := hrel
    have hc := HB.out.cell
    have hf := HB.out.frozen
    by_cases ht : t.size = 0
    · have c0 : t.toList = ([] : List UInt8) := PlD.L_nil.mpr (List.length_eq_zero_iff.mp (by rw [PlD.L_len]; exact ht))
      have c1 : (t.toList == ([] : List UInt8)) = true := beq_iff_eq.mpr c0
      have c2 : (t.toList != ([] : List UInt8)) = false := bne_eq_false_iff_eq.mpr c0
      have HX : Aside0 (pre = allU s0) := ⟨by have := HP.out.1; rwa [allU_nil t ht, List.append_nil] at this⟩
      clear c0 ht hY
      gi_wp2_with fail
      go_end0
      exact ⟨⟨_, rfl⟩, .inl (by rw [← HX.out]; exact HJ.out)⟩
    · have c0 : ¬ t.toList = ([] : List UInt8) := fun e => ht (by rw [← PlD.L_len, PlD.L_nil.mp e]; rfl)
      have c1 : (t.toList == ([] : List UInt8)) = false := beq_eq_false_iff_ne.mpr c0
      have c2 : (t.toList != ([] : List UInt8)) = true := bne_iff_ne.mpr c0
      obtain ⟨_, _, g3, _, _, _, g7, g8⟩ := getU_two t
      have g7' := g7 (by omega)
      have hrs := rest_size t
      have hnext := allU_next t (by omega)
      have HX : Aside0 ((pre ++ [(getU t).1]) ++ allU (t.extract (getU t).2.toNat t.size) = allU s0 ∧ (pre ++ [(getU t).1]).length + (t.extract (getU t).2.toNat t.size).size ≤ s0.size ∧ (t.extract (getU t).2.toNat t.size).size < t.size ∧ pre.length < s0.size) := ⟨by
        have := HP.out.1
        rw [hnext] at this
        rw [List.append_assoc]
        exact this, by have := HP.out.2; rw [List.length_append, List.length_singleton]; omega, by omega, by have := HP.out.2; omega⟩
      have p1 : (0 ≤ (getU t).2) = True := eq_true g3
      have q1 : ((getU t).2 ≤ (t.size : Int)) = True := eq_true g8
      have HM : Aside0 (measB Bs wr = t.size) := ⟨by unfold measB; rw [hc]⟩
      clear c0 ht g3 g7 g7' g8 hnext HP hrs
      gi_wp2_with (gi_at_call 40; refine (get_in _ t _ (hJT _ _ HJ.out)).mono ?_; rintro e W1 ⟨rfl, hb1⟩; have HB1 := Aside0.mk (box_under HB.out hb1); have HJ1 := Aside0.mk (hJb _ _ _ HJ.out hb1); have hc1 := HB1.out.cell; have hf1 := HB1.out.frozen; clear HB HJ hb1 hc hf)
      have HB2 := Aside0.mk (HB1.out.set (.string (t.extract (getU t).2.toNat t.size)))
      have HJ2 := Aside0.mk (hJs _ _ t (t.extract (getU t).2.toNat t.size) HJ1.out HB1.out)
      obtain ⟨fn, tmps, assign, body, hy, hR⟩ := hY pre (getU t).1 _ HJ2.out HX.out.2.2.2
      clear HJ1 HB1 hc1 hf1
      rw [hy, Oper.uponIn_round]
      refine ⟨fun _ => hm, ?_⟩
      refine hR.mono ?_
      clear hY hR hy
      rintro e W3 (⟨rfl, hJ3, hk3⟩ | ⟨rfl, hJx3⟩)
      · have HB3 := Aside0.mk (hk3 _ HB2.out)
        have HJ3 := Aside0.mk hJ3
        clear hk3 hJ3
        gi_wp2_with fail
        go_roundw
        case rel => exact ⟨_, _, ⟨HX.out.1, HX.out.2.1⟩, HJ3, HB3⟩
        case measure =>
          have e3 : measB Bs W3 = (t.extract (getU t).2.toNat t.size).size := by unfold measB; rw [HB3.out.cell]
          rw [e3, HM.out]
          exact HX.out.2.2.1
      · have HJX := Aside0.mk hJx3
        clear hJx3
        gi_wp2_with fail
        first | go_end0 | go_ret | ((try simp only [Exit.inBlock, Exit.then]); refine bodyPost_ret (results_none rfl _ _ _) rfl ?_)
        exact ⟨⟨_, rfl⟩, .inr ⟨_, _, HX.out.1, HJX.out⟩⟩
end Go.Proofs.YtfknoaokoncneaaDoor.HandPts

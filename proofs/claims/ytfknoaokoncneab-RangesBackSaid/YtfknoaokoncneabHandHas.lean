/- Whether a number is in one of some ranges: what ranges.Has tells. No condition. -/
import Derived.Test.YtfknoaokoncneabPlS
import Derived.Test.YtfknoaokoncneabHandHeap
set_option linter.unusedSimpArgs false
set_option linter.unusedVariables false
namespace Go.Proofs.Ytfknoaokoncneab.HandHas
open Go.RowKit Go.Shelf Go.Proofs.YtfknoaokoncneabW.PrintWords Go.Proofs.YtfknoaokoncneabW.PrintLast Go.Proofs.YtfknoaokoncneabW.PrintMore Go.Proofs.Ytfknoaokoncneab.PR Go.Proofs.Ytfknoaokoncneab.Sets Go.Proofs.Ytfknoaokoncneab.Heap
def within (c : Int) (r : S35) : Bool := decide (r.f0 ≤ c) && decide (c ≤ r.f1)
set_option maxRecDepth 100000 in
set_option maxHeartbeats 400000 in
theorem lit_calls (q : Nat) (c : Int) (r : S35) (W : World) (h : Boxed W q 3 (.int .i64 c)) :
    Calls Try.prog 27 #[.agg #[.int .i64 r.f0, .int .i64 r.f1], .pointer (some ⟨q, 0, none⟩)] W fun e W' => e = .returned (.bool (within c r)) ∧ Below W.heap.size W W' := by
  have hc := h.cell
  have h1 := (h.alloc (.cells #[.int .i64 r.f0, .int .i64 r.f1] 35)).cell
  have hq := h.lt
  by_cases h0 : r.f0 ≤ c
  · have c0 : decide (r.f0 ≤ c) = true := decide_eq_true h0
    have e1 : within c r = decide (c ≤ r.f1) := by unfold within; rw [c0, Bool.true_and]
    rw [e1]
    clear h h0 e1 hq
    go_enter Try.func27, Try.ntmps27
    go_wp2_with fail
    go_ret
    exact ⟨rfl, (Below.refl _ W).alloc (Nat.le_refl _) _⟩
  · have c0 : decide (r.f0 ≤ c) = false := decide_eq_false h0
    have e1 : within c r = false := by unfold within; rw [c0, Bool.false_and]
    rw [e1]
    clear h h0 e1 hq
    go_enter Try.func27, Try.ntmps27
    go_wp2_with fail
    go_ret
    exact ⟨rfl, (Below.refl _ W).alloc (Nat.le_refl _) _⟩
def measI (n : Nat) (v : Value) : Nat := n - (intOf v).toNat
set_option maxRecDepth 100000 in
set_option maxHeartbeats 400000 in
theorem index_calls (A0 : Option Addr) (c0 : Nat) (l0 : List S35) (q : Nat) (c : Int) (w : World) (hr0 : Kd.C k35 w A0 l0.length l0) (hlen : l0.length ≤ c0) (h : Boxed w q 3 (.int .i64 c)) :
    Calls Try.prog 33 #[.slice A0 l0.length c0, .func (.func 27) #[] #[.pointer (some ⟨q, 0, none⟩)]] w fun e w' => ∃ r : Int, e = .returned (.int .i64 r) ∧ decide (0 ≤ r) = l0.any (within c) ∧ Below w.heap.size w w' := by
  go_enter Try.func33, Try.ntmps33
  go_wp2_with fail
  have HR := Aside0.mk hr0
  have HB := Aside0.mk h
  clear hr0 h hlen
  go_loopw [8] (fun vj wr => ∃ (j : Nat), vj = .int .i64 (j : Int) ∧ Aside0 (j ≤ l0.length ∧ (l0.take j).any (within c) = false) ∧ Aside0 (Below w.heap.size w wr))
    (fun vj _ => measI l0.length vj)
  case atStart => exact ⟨0, rfl, ⟨by omega, rfl⟩, ⟨Below.refl _ _⟩⟩
  case round =>
    obtain ⟨j, rfl, HJ, HW⟩ := hrel
    by_cases hj : j < l0.length
    · have hC := Kd.C_below HR.out HW.out
      have hlen : l0.length ≤ 9223372036854775807 := hC.2.1
      have p1 : 0 ≤ (j : Int) := by omega
      have q1 : (j : Int) < (l0.length : Int) := by omega
      obtain ⟨ad, e1, hx0, hx1⟩ := at_T35 hC (j : Int) p1 q1
      simp only [Int.toNat_natCast] at hx0 hx1
      subst e1
      have c1 : decide (j < l0.length) = true := decide_eq_true hj
      have hj1 : wrap64 ((j : Int) + 1) = ((j + 1 : Nat) : Int) := by unfold wrap64; omega
      have HJ1 : Aside0 (j < l0.length ∧ (l0.take (j + 1)).any (within c) = within c (rd_T35 l0 (j : Int))) := ⟨hj, by
        have e : l0.take (j + 1) = l0.take j ++ [rd_T35 l0 (j : Int)] := by
          rw [List.take_succ_eq_append_getElem hj]
          rw [show rd_T35 l0 (j : Int) = l0.getD j z35 from rfl, List.getD_eq_getElem?_getD, List.getElem?_eq_getElem hj]
          rfl
        rw [e, List.any_append, HJ.out.2, Bool.false_or]
        simp⟩
      replace p1 := eq_true p1
      replace q1 := eq_true q1
      have hbx := (HW.out.block q HB.out.lt).trans HB.out
      have HX := Aside0.mk hbx
      clear hj hC hlen hbx
      cases hwi : within c (rd_T35 l0 (j : Int)) with
      | true =>
        have HWI := Aside0.mk hwi
        go_wp2_with (go_at_call 27; refine (lit_calls q c (rd_T35 l0 (j : Int)) wr HX.out).mono ?_; rw [HWI.out]; rintro e W1 ⟨rfl, hb⟩; have HB1 := Aside0.mk (below_then HW.out HW.out.size hb); clear hb)
        go_ret
        refine ⟨_, rfl, ?_, HB1.out⟩
        rw [decide_eq_true (by omega)]
        symm
        have := HJ1.out.2
        rw [HWI.out] at this
        obtain ⟨x, hx, hx2⟩ := List.any_eq_true.mp this
        exact List.any_eq_true.mpr ⟨x, List.mem_of_mem_take hx, hx2⟩
      | false =>
        have HWI := Aside0.mk hwi
        clear hwi
        go_wp2_with (go_at_call 27; refine (lit_calls q c (rd_T35 l0 (j : Int)) wr HX.out).mono ?_; rw [HWI.out]; rintro e W1 ⟨rfl, hb⟩; have HB1 := Aside0.mk (below_then HW.out HW.out.size hb); clear hb)
        constructor
        · exact ⟨j + 1, congrArg (Value.int .i64) hj1, ⟨by have := HJ1.out.1; omega, by rw [HJ1.out.2, HWI.out]⟩, HB1⟩
        · have := HJ1.out.1
          rw [hj1]; unfold measI; simp [intOf]; omega
    · have c1 : decide (j < l0.length) = false := decide_eq_false hj
      have HX : Aside0 (l0.any (within c) = false) := ⟨by
        have := HJ.out.2
        rwa [List.take_of_length_le (by omega)] at this⟩
      clear hj
      go_wp2_with fail
      go_ret
      exact ⟨_, rfl, by rw [HX.out]; rfl, HW.out⟩
set_option maxRecDepth 100000 in
set_option maxHeartbeats 400000 in
theorem contains_calls (A0 : Option Addr) (c0 : Nat) (l0 : List S35) (q : Nat) (c : Int) (w : World) (hr0 : Kd.C k35 w A0 l0.length l0) (hlen : l0.length ≤ c0) (h : Boxed w q 3 (.int .i64 c)) :
    Calls Try.prog 26 #[.slice A0 l0.length c0, .func (.func 27) #[] #[.pointer (some ⟨q, 0, none⟩)]] w fun e w' => e = .returned (.bool (l0.any (within c))) ∧ Below w.heap.size w w' := by
  have HI := Aside0.mk (index_calls A0 c0 l0 q c w hr0 hlen h)
  clear hr0 hlen h
  go_enter Try.func26, Try.ntmps26
  go_wp2_with (go_at_call 33; refine HI.out.mono ?_; rintro e W1 ⟨r, rfl, hr, hb⟩; have HB1 := Aside0.mk hb; clear hb)
  go_ret
  exact ⟨rfl, HB1.out⟩
/-- Whether a number is in one of some ranges. -/
def ranges_Has.f (l : List S35) (c : Int) : Option Bool := some (hasL l c)
set_option maxRecDepth 100000 in
set_option maxHeartbeats 400000 in
theorem ranges_Has.calls (A0 : Option Addr) (c0 : Nat) (l0 : List S35) (a1 : Int) (r : Bool) (w : World) (hr0 : Kd.C k35 w A0 l0.length l0) (hc0 : l0.length ≤ c0) (h : ranges_Has.f l0 a1 = some r) :
    Calls Try.prog 12 #[.slice A0 l0.length c0, .int .i64 a1] w fun e w' => e = .returned (.bool r) ∧ Below w.heap.size w w' := by
  obtain rfl := Option.some.inj h
  clear h
  have hbx := Boxed.new w 3 (.int .i64 a1)
  have hc := hbx.cell
  by_cases h0 : a1 < 0
  · have c1 : decide (a1 < 0) = true := decide_eq_true h0
    have e1 : hasL l0 a1 = false := by unfold hasL; rw [decide_eq_false (by omega)]; rfl
    rw [e1]
    clear hbx hr0 hc0 e1 h0
    go_enter Try.func12, Try.ntmps12
    go_wp2_with fail
    go_ret
    exact ⟨rfl, (Below.refl _ w).alloc (Nat.le_refl _) _⟩
  · have c1 : decide (a1 < 0) = false := decide_eq_false h0
    by_cases h1 : 1114111 < a1
    · have c2 : decide (1114111 < a1) = true := decide_eq_true h1
      have e1 : hasL l0 a1 = false := by unfold hasL; rw [decide_eq_false (show ¬ a1 ≤ 1114111 by omega), Bool.and_false]; rfl
      rw [e1]
      clear hbx hr0 hc0 e1 h0 h1
      go_enter Try.func12, Try.ntmps12
      go_wp2_with fail
      go_ret
      exact ⟨rfl, (Below.refl _ w).alloc (Nat.le_refl _) _⟩
    · have c2 : decide (1114111 < a1) = false := decide_eq_false h1
      have e1 : hasL l0 a1 = l0.any (within a1) := by unfold hasL; rw [decide_eq_true (show 0 ≤ a1 by omega), decide_eq_true (show a1 ≤ 1114111 by omega)]; rfl
      rw [e1]
      have HX := Aside0.mk (contains_calls A0 c0 l0 w.heap.size a1 (w.alloc (.cells #[.int .i64 a1] 3)) (Kd.C_below hr0 ((Below.refl _ w).alloc (Nat.le_refl _) _)) hc0 hbx)
      clear hbx hr0 hc0 e1 h0 h1
      go_enter Try.func12, Try.ntmps12
      go_wp2_with (go_at_call 26; refine HX.out.mono ?_; rintro e W1 ⟨rfl, hb⟩; have HB1 := Aside0.mk (below_then ((Below.refl _ w).alloc (Nat.le_refl _) (.cells #[.int .i64 a1] 3)) (by simp) hb); clear hb)
      go_ret
      exact ⟨rfl, HB1.out⟩
end Go.Proofs.Ytfknoaokoncneab.HandHas

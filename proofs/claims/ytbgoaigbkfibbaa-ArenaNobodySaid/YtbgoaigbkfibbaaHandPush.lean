/- The pile of ranges under the library's heap: one is put in. No condition beyond a bound on the pile's length. -/
import Derived.Test.YtbgoaigbkfibbaaPAx0
import Derived.Test.YtbgoaigbkfibbaaPAx2
import Derived.Test.YtbgoaigbkfibbaaHandUp
set_option linter.unusedSimpArgs false
set_option linter.unusedVariables false
set_option linter.unusedSimpArgs false
set_option linter.unusedVariables false
set_option linter.unusedSimpArgs false
set_option linter.unusedVariables false
namespace Go.Proofs.Ytbgoaigbkfibbaa.Heap
open Go.RowKit Go.Shelf Go.Proofs.YtbgoaigbkfibbaaW.PrintWords Go.Proofs.YtbgoaigbkfibbaaW.PrintLast Go.Proofs.YtbgoaigbkfibbaaW.PrintMore Go.Proofs.Ytbgoaigbkfibbaa.PA Go.Proofs.Ytbgoaigbkfibbaa.Sets
theorem assert55 (a b : Value) (W : World) : (Instr.typeAssert (.iface 55 (.agg #[a, b])) 20 55 true).run Try.prog W = .ok (.tuple #[.agg #[a, b], .bool true]) W := by
  unfold Instr.typeAssert
  go_simp
set_option maxRecDepth 100000 in
set_option maxHeartbeats 1000000 in
theorem put_calls (w0 : World) (p : Nat) (u : Value) (l : List S55) (r : S55) (hl : l.length < 8796093022208) (W : World) (h : PAt w0 p u l W) :
    Calls Try.prog 74 #[.pointer (some ⟨p, 0, none⟩), .iface 55 (.agg #[.int .i64 r.f0, .int .i64 r.f1])] W fun e W' => (∃ v, e = .returned v) ∧ ∃ u', PAt w0 p u' (l ++ [r]) W' ∧ (∀ k, own u' k → own u k ∨ W.heap.size ≤ k) ∧ Kept W W' (fun k => own u k ∨ k = p) := by
  obtain ⟨A, c, rfl, hlc, hC⟩ := R_form h.row
  have hp := h.box.cell
  have hf := h.box.frozen
  have H := Aside0.mk h
  clear h hC
  have ht := assert55 (.int .i64 r.f0) (.int .i64 r.f1) W
  go_enter Try.func74, Try.ntmps74
  go_wp2_with fail
  have hbel : Below W.heap.size W (W.alloc (.cells #[.int .i64 r.f0, .int .i64 r.f1] 55)).drew := below_drew1 ((Below.refl _ W).alloc (Nat.le_refl _) _)
  have H2 := Aside0.mk (H.out.under hbel)
  have hp0 := H2.out.box.cell
  have hp1 : (W.alloc (.cells #[.int .i64 r.f0, .int .i64 r.f1] 55)).drew.cell? ⟨W.heap.size, 0, none⟩ = some (.int .i64 r.f0) := by
    have e := World.alloc_heap_new W (.cells #[.int .i64 r.f0, .int .i64 r.f1] 55)
    show (W.alloc _).cell? _ = _
    unfold World.cell?
    dsimp only
    rw [e]
    rfl
  have hp2 : (W.alloc (.cells #[.int .i64 r.f0, .int .i64 r.f1] 55)).drew.cell? ⟨W.heap.size, 1, none⟩ = some (.int .i64 r.f1) := by
    have e := World.alloc_heap_new W (.cells #[.int .i64 r.f0, .int .i64 r.f1] 55)
    show (W.alloc _).cell? _ = _
    unfold World.cell?
    dsimp only
    rw [e]
    rfl
  have hsz : (W.alloc (.cells #[.int .i64 r.f0, .int .i64 r.f1] 55)).drew.heap.size = W.heap.size + 1 := by simp
  have HBE := Aside0.mk hbel
  have HSZ := Aside0.mk hsz
  clear hbel hp hf ht hsz
  refine start_ (n := 9) (S := fun w' => w'.cell? ⟨p, 0, none⟩ = some (.slice A l.length c) ∧ w'.cell? ⟨W.heap.size, 0, none⟩ = some (.int .i64 r.f0) ∧ w'.cell? ⟨W.heap.size, 1, none⟩ = some (.int .i64 r.f1)) (ds := [6, 8]) #[false, false, false, false, false, false, false, false, false] (by kernel_rfl) rfl rfl ⟨hp0, hp1, hp2⟩ (fun hHeld => ?_)
  generalize (W.alloc (.cells #[.int .i64 r.f0, .int .i64 r.f1] 55)).drew = W2 at H2 hp0 hp1 hp2 HSZ HBE hHeld ⊢
  refine pure_ (i := 0) (N := some 12) (v := ?_) (a' := ?_) #[true, false, false, false, false, false, false, false, false] rfl rfl (by kernel_rfl) (fun _ _ _ h => h) (Or.inl ⟨by rfl, ?_⟩) ?_ ?_
  rotate_left
  · intro w'
    go_simp
    with_reducible rfl
  rotate_left
  · simp only [Act.put, List.setIfInBounds_toArray, List.set_cons_zero, List.set_cons_succ, i64_w, i32_w]
    rfl
  refine pure_ (i := 1) (N := some 13) (v := ?_) (a' := ?_) #[true, true, false, false, false, false, false, false, false] rfl rfl (by kernel_rfl) (fun _ _ _ h => h) (Or.inl ⟨by rfl, ?_⟩) ?_ ?_
  rotate_left
  · intro w'
    go_simp
    with_reducible rfl
  rotate_left
  · simp only [Act.put, List.setIfInBounds_toArray, List.set_cons_zero, List.set_cons_succ, i64_w, i32_w]
    rfl
  refine pure_ (i := 2) (N := some 14) (v := ?_) (a' := ?_) #[true, true, true, false, false, false, false, false, false] rfl rfl (by kernel_rfl) (fun _ _ _ h => h) (Or.inl ⟨by rfl, ?_⟩) ?_ ?_
  rotate_left
  · intro w'
    go_simp
    with_reducible rfl
  rotate_left
  · simp only [Act.put, List.setIfInBounds_toArray, List.set_cons_zero, List.set_cons_succ, i64_w, i32_w]
    rfl
  refine take_ (i := 3) (N := some 15) (v := ?_) (a' := ?_) #[true, true, true, true, false, false, false, false, false] rfl rfl (by kernel_rfl) (fun _ _ _ h => h) (Or.inl ⟨by rfl, ?_⟩) hHeld ?_ ?_
  rotate_left
  · rintro w' ⟨s0, s1, s2⟩
    go_simp
    with_reducible rfl
  rotate_left
  · simp only [Act.put, List.setIfInBounds_toArray, List.set_cons_zero, List.set_cons_succ, i64_w, i32_w]
    rfl
  refine take_ (i := 4) (N := some 16) (v := ?_) (a' := ?_) #[true, true, true, true, true, false, false, false, false] rfl rfl (by kernel_rfl) (fun _ _ _ h => h) (Or.inl ⟨by rfl, ?_⟩) hHeld ?_ ?_
  rotate_left
  · rintro w' ⟨s0, s1, s2⟩
    go_simp
    with_reducible rfl
  rotate_left
  · simp only [Act.put, List.setIfInBounds_toArray, List.set_cons_zero, List.set_cons_succ, i64_w, i32_w]
    rfl
  refine one_ (i := 5) (N := some 17) #[true, true, true, true, true, true, false, false, false] rfl rfl (by kernel_rfl) (by decide) (fun K hK => ?_)
  refine value_ (w1 := ?_) (v := ?_) (by rfl) rfl ?_ ?_
  rotate_left 2
  · go_simp
    constructor
    · rfl
    · rfl
  refine hK.out _ _ ⟨(World.cell?_alloc_lt _ _ _ H2.out.box.lt).trans hp0, (World.cell?_alloc_lt _ _ _ (by have := HSZ.out; show W.heap.size < _; omega)).trans hp1, (World.cell?_alloc_lt _ _ _ (by have := HSZ.out; show W.heap.size < _; omega)).trans hp2⟩ (fun hHeld => ?_)
  clear hK K
  refine norm_ (a' := ?_) ?_ ?_
  rotate_left
  · show Act.put _ (some 17) _ = _
    simp only [Act.put, List.setIfInBounds_toArray, List.set_cons_zero, List.set_cons_succ, i64_w, i32_w]
    rfl
  refine last_ (i := 6) (N := some 18) #[true, true, true, true, true, true, true, false, false] rfl rfl (by kernel_rfl) (by decide) (fun K hK => ?_)
  refine Kd.R_append_step k55 (w0 := w0) w0.heap.size (by rfl) (.tmp 15) (.tmp 17) 79 55 (.agg #[(.int .i64 0), (.int .i64 0)]) 16 rfl Try.underlying79 info55 rfl (by decide) (by omega) (.slice A l.length c) l r [.int .i64 r.f0, .int .i64 r.f1] (fun _ => True) (fun _ => False) rfl rfl (k55_mkM _ _ _ r) (fun _ hk => hk.elim) (fun _ _ => trivial) (Kd.R_mono H2.out.row (fun _ _ => trivial)) H2.out.below H2.out.below.size (by omega) ?_
  intro v1 w3 ho hb hg hat
  obtain ⟨A1, c1, e1, _, _⟩ := R_form ho
  rw [show (l ++ [r]).length = l.length + 1 by simp] at e1
  subst e1
  have hbox := H2.out.box.kept hg (fun e => H2.out.ne e)
  have hc3 := hbox.cell
  have hf3 := hbox.frozen
  have HB3 := Aside0.mk hbox
  have HO := Aside0.mk ho
  have HW := Aside0.mk (And.intro hb (And.intro hg hat))
  clear ho hb hg hat hbox
  refine hK.out _ _ ?_
  clear hK K
  refine norm_ (a' := ?_) ?_ ?_
  rotate_left
  · show Act.put _ (some 18) _ = _
    simp only [Act.put, List.setIfInBounds_toArray, List.set_cons_zero, List.set_cons_succ, i64_w, i32_w]
    rfl
  refine pure_ (i := 7) (N := some 19) (v := ?_) (a' := ?_) #[true, true, true, true, true, true, true, true, false] rfl rfl (by kernel_rfl) (fun _ _ _ h => h) (Or.inl ⟨by rfl, ?_⟩) ?_ ?_
  rotate_left
  · intro w'
    go_simp
    with_reducible rfl
  rotate_left
  · simp only [Act.put, List.setIfInBounds_toArray, List.set_cons_zero, List.set_cons_succ, i64_w, i32_w]
    rfl
  refine last_ (i := 8) (N := none) #[true, true, true, true, true, true, true, true, true] rfl rfl (by kernel_rfl) (by decide) (fun K hK => ?_)
  refine skip_ (w1 := ?_) (by rfl) rfl ?_ ?_
  rotate_left
  · go_simp
    rfl
  refine hK.out _ _ ?_
  clear hK K
  refine done_ (by kernel_rfl) ?_

  try go_wp2
  go_end0
  obtain ⟨hb, hg, hat⟩ := HW.out
  have hne : ¬ own (.slice A1 (l.length + 1) c1) p := Kd.R_ne HO.out HB3.out (by decide)
  refine ⟨⟨_, rfl⟩, _, ⟨H.out.lo, HB3.out.set _, Kd.R_far (p := ⟨p, 0, none⟩) (tight HO.out) (fun k hk e => hne (by cases e; exact hk)) _, below_set hb H.out.lo⟩, fun k hk => ?_, ?_⟩
  · rcases hat with h1 | ⟨b, h1, h2⟩
    · exact .inl (hk.trans h1)
    · have : k = b := Option.some.inj (hk.trans h1)
      have := HSZ.out
      omega
  · refine Kept.setCell (Kept.of_grown hg (Kept.of_below HBE.out _) (fun k hk => .inl (.inl ?_))) (.inl (.inr rfl)) _
    exact hk.symm
set_option maxRecDepth 100000 in
set_option maxHeartbeats 1000000 in
theorem push_calls (w0 : World) (p : Nat) (u : Value) (l : List S55) (r : S55) (hl : l.length < 8796093022208) (W : World) (h : PAt w0 p u l W) :
    Calls Try.prog 48 #[.iface 78 (.pointer (some ⟨p, 0, none⟩)), .iface 55 (.agg #[.int .i64 r.f0, .int .i64 r.f1])] W fun e W' => (∃ v, e = .returned v) ∧ ∃ u', PAt w0 p u' (pushL l r) W' ∧ (∀ k, own u' k → own u k ∨ W.heap.size ≤ k) ∧ Kept W W' (fun k => own u k ∨ k = p) := by
  have hm := meth_push p W
  have h' := Aside0.mk h
  clear h
  go_enter Try.func48, Try.ntmps48
  go_wp2_with (first | (go_at_call 74; refine (put_calls w0 p u l r hl W h'.out).mono ?_; rintro e W1 ⟨⟨v, rfl⟩, u1, hA, hO, hK⟩; obtain ⟨A1, c1, e1, hc1, hC1⟩ := R_form hA.row; rw [show (l ++ [r]).length = l.length + 1 by simp] at e1; subst e1; have hm1 := meth_len hA.box.cell; have HL := Aside0.mk (ranges_pile_Len.calls A1 c1 (l ++ [r]) _ W1 hC1 hc1 rfl); have HA := Aside0.mk hA; have HO := Aside0.mk (And.intro hO hK); clear hA hO hK hm hc1 hC1; rw [show (l ++ [r]).length = l.length + 1 by simp] at HL) | (go_at_call 71; refine HL.out.mono ?_; rintro e W2 ⟨rfl, hd⟩; have HA2 := Aside0.mk (HA.out.under hd.below); have HD := Aside0.mk hd.below; clear hd HL HA hm1) | (go_at_call 53; refine (up_calls w0 p _ (l ++ [r]) l.length (by simp) W2 HA2.out).mono ?_; rintro e W3 ⟨⟨v3, rfl⟩, hA3, hK3⟩; have HA3 := Aside0.mk hA3; have HK3 := Aside0.mk hK3; clear hA3 hK3))
  go_end0
  have h3 := HA3.out
  rw [show (l ++ [r]).length = l.length + 1 by simp] at h3
  refine ⟨⟨_, rfl⟩, _, h3, HO.out.1, (HO.out.2.below HD.out).then_ HK3.out (fun k hk => ?_)⟩
  rcases HO.out.1 k hk with h1 | h1
  · exact .inl (.inl h1)
  · exact .inr h1
end Go.Proofs.Ytbgoaigbkfibbaa.Heap

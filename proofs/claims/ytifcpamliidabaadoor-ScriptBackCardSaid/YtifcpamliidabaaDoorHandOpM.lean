import Derived.Test.YtifcpamliidabaaDoorPSx4
import Derived.Test.YtifcpamliidabaaDoorPSx5
import Derived.Test.YtifcpamliidabaaDoorPSx6
import Derived.Test.YtifcpamliidabaaDoorHandKind
import Derived.Test.YtifcpamliidabaaDoorPSx0
/- What the reader of lines reads: a word, a number, data, an operation. Conditions: what the plain functions tell. -/
set_option linter.unusedSimpArgs false
set_option linter.unusedVariables false
namespace Go.Proofs.YtifcpamliidabaaDoor.HandRd
open Go.RowKit Go.Proofs.YtifcpamliidabaaDoorW.PrintWords Go.Proofs.YtifcpamliidabaaDoorW.PrintLast Go.Proofs.YtifcpamliidabaaDoorW.PrintMore Go.Proofs.YtifcpamliidabaaDoor.PS Go.Proofs.YtifcpamliidabaaDoor.HandKind
/-- A word: it, where it begins, where it ends. -/
def wordF (k : Nat) (s : ByteArray) (at_ : Int) : Option (ByteArray × Int × Int) :=
  (words_Next.f k s at_).bind fun b => if 0 ≤ b.1 ∧ b.1 ≤ b.2 ∧ b.2 ≤ (s.size : Int) then some (s.extract b.1.toNat b.2.toNat, b.1, b.2) else none
theorem wordF_out {k : Nat} {s : ByteArray} {at_ a b : Int} {wd : ByteArray} (h : wordF k s at_ = some (wd, a, b)) : words_Next.f k s at_ = some (a, b) ∧ 0 ≤ a ∧ a ≤ b ∧ b ≤ (s.size : Int) ∧ wd = s.extract a.toNat b.toNat := by
  unfold wordF at h
  obtain ⟨⟨x, y⟩, h1, h2⟩ := Option.bind_eq_some_iff.mp h
  dsimp only at h2
  split at h2
  · rename_i hc
    simp only [Option.some.injEq, Prod.mk.injEq] at h2
    obtain ⟨rfl, rfl, rfl⟩ := h2
    exact ⟨h1, hc.1, hc.2.1, hc.2.2, rfl⟩
  · cases h2
set_option maxRecDepth 100000 in
set_option maxHeartbeats 1000000 in
theorem word_calls (k : Nat) (g : Nat) (s : ByteArray) (at_ e_ ea : Int) (wd : ByteArray) (a b : Int) (w0 w : World) (hI : IsS60 w0 w g s at_ e_ ea) (hB : Below w0.heap.size w0 w) (h : wordF k s at_ = some (wd, a, b)) :
    Calls Tryd.prog 49 #[.pointer (some ⟨g, 0, none⟩)] w fun e w' => e = .returned (.tuple #[.string wd, .int .i64 a]) ∧ IsS60 w0 w' g s b e_ ea ∧ Below w0.heap.size w0 w' ∧ KeepBut w w' g none := by
  obtain ⟨h1, h2, h3, h4, rfl⟩ := wordF_out h
  have HN := Aside0.mk h1
  have hc0 := cellS60_0 hI.1
  have hc1 := cellS60_1 hI.1
  have HI := Aside0.mk hI
  have HB := Aside0.mk hB
  have p1 : (0 ≤ a) = True := eq_true h2
  have p2 : (a ≤ b) = True := eq_true h3
  have p3 : (b ≤ (s.size : Int)) = True := eq_true h4
  have p4 : decide (0 ≤ a) = true := decide_eq_true h2
  have p5 : decide (a ≤ b) = true := decide_eq_true h3
  have p6 : decide (b ≤ (s.size : Int)) = true := decide_eq_true h4
  clear h h1 h2 h3 h4 hI hB
  go_enter Tryd.func49, Tryd.ntmps49
  go_wp2_with fail
  refine start_ (n := 14) (S := fun w' => w'.cell? ⟨g, 0, none⟩ = some (.string s) ∧ w'.cell? ⟨g, 1, none⟩ = some (.int .i64 at_)) (ds := [8]) #[false, false, false, false, false, false, false, false, false, false, false, false, false, false] (by kernel_rfl) rfl rfl ⟨hc0, hc1⟩ (fun hHeld => ?_)
  have HI2 := Aside0.mk (IsS60.drew HI.out)
  have HB2 := Aside0.mk (below_drew HB.out)
  have HK2 : Aside0 (KeepBut w w.drew g none) := ⟨KeepBut.of_below (below_drew (Below.refl _ w)) g none⟩
  clear HI HB hc0 hc1
  refine pure_ (i := 0) (N := some 7) (v := ?_) (a' := ?_) #[true, false, false, false, false, false, false, false, false, false, false, false, false, false] rfl rfl (by kernel_rfl) (fun _ _ _ h => h) (Or.inl ⟨by rfl, ?_⟩) ?_ ?_
  rotate_left
  · intro w'
    go_simp
    with_reducible rfl
  rotate_left
  · simp only [Act.put, List.setIfInBounds_toArray, List.set_cons_zero, List.set_cons_succ, i64_w, i32_w]
    rfl
  refine pure_ (i := 1) (N := some 8) (v := ?_) (a' := ?_) #[true, true, false, false, false, false, false, false, false, false, false, false, false, false] rfl rfl (by kernel_rfl) (fun _ _ _ h => h) (Or.inl ⟨by rfl, ?_⟩) ?_ ?_
  rotate_left
  · intro w'
    go_simp
    with_reducible rfl
  rotate_left
  · simp only [Act.put, List.setIfInBounds_toArray, List.set_cons_zero, List.set_cons_succ, i64_w, i32_w]
    rfl
  refine pure_ (i := 2) (N := some 9) (v := ?_) (a' := ?_) #[true, true, true, false, false, false, false, false, false, false, false, false, false, false] rfl rfl (by kernel_rfl) (fun _ _ _ h => h) (Or.inl ⟨by rfl, ?_⟩) ?_ ?_
  rotate_left
  · intro w'
    go_simp
    with_reducible rfl
  rotate_left
  · simp only [Act.put, List.setIfInBounds_toArray, List.set_cons_zero, List.set_cons_succ, i64_w, i32_w]
    rfl
  refine pure_ (i := 4) (N := some 11) (v := ?_) (a' := ?_) #[true, true, true, false, true, false, false, false, false, false, false, false, false, false] rfl rfl (by kernel_rfl) (fun _ _ _ h => h) (Or.inl ⟨by rfl, ?_⟩) ?_ ?_
  rotate_left
  · intro w'
    go_simp
    with_reducible rfl
  rotate_left
  · simp only [Act.put, List.setIfInBounds_toArray, List.set_cons_zero, List.set_cons_succ, i64_w, i32_w]
    rfl
  refine pure_ (i := 5) (N := some 12) (v := ?_) (a' := ?_) #[true, true, true, false, true, true, false, false, false, false, false, false, false, false] rfl rfl (by kernel_rfl) (fun _ _ _ h => h) (Or.inl ⟨by rfl, ?_⟩) ?_ ?_
  rotate_left
  · intro w'
    go_simp
    with_reducible rfl
  rotate_left
  · simp only [Act.put, List.setIfInBounds_toArray, List.set_cons_zero, List.set_cons_succ, i64_w, i32_w]
    rfl
  refine pure_ (i := 6) (N := some 13) (v := ?_) (a' := ?_) #[true, true, true, false, true, true, true, false, false, false, false, false, false, false] rfl rfl (by kernel_rfl) (fun _ _ _ h => h) (Or.inl ⟨by rfl, ?_⟩) ?_ ?_
  rotate_left
  · intro w'
    go_simp
    with_reducible rfl
  rotate_left
  · simp only [Act.put, List.setIfInBounds_toArray, List.set_cons_zero, List.set_cons_succ, i64_w, i32_w]
    rfl
  refine take_ (i := 3) (N := some 10) (v := ?_) (a' := ?_) #[true, true, true, true, true, true, true, false, false, false, false, false, false, false] rfl rfl (by kernel_rfl) (fun _ _ _ h => h) (Or.inl ⟨by rfl, ?_⟩) hHeld ?_ ?_
  rotate_left
  · rintro w' ⟨s0, s1⟩
    go_simp
    with_reducible rfl
  rotate_left
  · simp only [Act.put, List.setIfInBounds_toArray, List.set_cons_zero, List.set_cons_succ, i64_w, i32_w]
    rfl
  refine take_ (i := 7) (N := some 14) (v := ?_) (a' := ?_) #[true, true, true, true, true, true, true, true, false, false, false, false, false, false] rfl rfl (by kernel_rfl) (fun _ _ _ h => h) (Or.inl ⟨by rfl, ?_⟩) hHeld ?_ ?_
  rotate_left
  · rintro w' ⟨s0, s1⟩
    go_simp
    with_reducible rfl
  rotate_left
  · simp only [Act.put, List.setIfInBounds_toArray, List.set_cons_zero, List.set_cons_succ, i64_w, i32_w]
    rfl
  refine last_ (i := 8) (N := some 15) #[true, true, true, true, true, true, true, true, true, false, false, false, false, false] rfl rfl (by kernel_rfl) (by decide) (fun K hK => ?_)
  refine goes_ Tryd.func59 (by kernel_rfl) rfl #[.string s, .int .i64 at_] (by rfl) rfl rfl (by simp only [List.map_toArray, List.map_cons, List.map_nil]; rfl) ?_
  with_reducible refine (words_Next.calls k s at_ a b _ HN.out).mono ?_
  rintro e w3 ⟨rfl, hb⟩
  have HI3 := Aside0.mk (IsS60.below HI2.out hb)
  have HB3 := Aside0.mk (below_then HB2.out HB2.out.size hb)
  have HK3 := Aside0.mk (KeepBut.trans HK2.out (KeepBut.of_below hb g none) (.inl rfl))
  clear hb
  refine ⟨_, rfl, ?_⟩
  refine hK.out _ _ ?_
  clear hK K
  refine norm_ (a' := ?_) ?_ ?_
  rotate_left
  · show Act.put _ (some 15) _ = _
    simp only [Act.put, List.setIfInBounds_toArray, List.set_cons_zero, List.set_cons_succ, i64_w, i32_w]
    rfl
  refine pure_ (i := 9) (N := some 6) (v := ?_) (a' := ?_) #[true, true, true, true, true, true, true, true, true, true, false, false, false, false] rfl rfl (by kernel_rfl) (fun _ _ _ h => h) (Or.inl ⟨by rfl, ?_⟩) ?_ ?_
  rotate_left
  · intro w'
    go_simp
    with_reducible rfl
  rotate_left
  · simp only [Act.put, List.setIfInBounds_toArray, List.set_cons_zero, List.set_cons_succ, i64_w, i32_w]
    rfl
  refine pure_ (i := 10) (N := some 16) (v := ?_) (a' := ?_) #[true, true, true, true, true, true, true, true, true, true, true, false, false, false] rfl rfl (by kernel_rfl) (fun _ _ _ h => h) (Or.inl ⟨by rfl, ?_⟩) ?_ ?_
  rotate_left
  · intro w'
    go_simp
    with_reducible rfl
  rotate_left
  · simp only [Act.put, List.setIfInBounds_toArray, List.set_cons_zero, List.set_cons_succ, i64_w, i32_w]
    rfl
  refine pure_ (i := 11) (N := some 17) (v := ?_) (a' := ?_) #[true, true, true, true, true, true, true, true, true, true, true, true, false, false] rfl rfl (by kernel_rfl) (fun _ _ _ h => h) (Or.inl ⟨by rfl, ?_⟩) ?_ ?_
  rotate_left
  · intro w'
    go_simp
    with_reducible rfl
  rotate_left
  · simp only [Act.put, List.setIfInBounds_toArray, List.set_cons_zero, List.set_cons_succ, i64_w, i32_w]
    rfl
  refine pure_ (i := 12) (N := some 4) (v := ?_) (a' := ?_) #[true, true, true, true, true, true, true, true, true, true, true, true, true, false] rfl rfl (by kernel_rfl) (fun _ _ _ h => h) (Or.inl ⟨by rfl, ?_⟩) ?_ ?_
  rotate_left
  · intro w'
    go_simp
    with_reducible rfl
  rotate_left
  · simp only [Act.put, List.setIfInBounds_toArray, List.set_cons_zero, List.set_cons_succ, i64_w, i32_w]
    rfl
  refine pure_ (i := 13) (N := some 5) (v := ?_) (a' := ?_) #[true, true, true, true, true, true, true, true, true, true, true, true, true, true] rfl rfl (by kernel_rfl) (fun _ _ _ h => h) (Or.inl ⟨by rfl, ?_⟩) ?_ ?_
  rotate_left
  · intro w'
    go_simp
    with_reducible rfl
  rotate_left
  · simp only [Act.put, List.setIfInBounds_toArray, List.set_cons_zero, List.set_cons_succ, i64_w, i32_w]
    rfl
  refine done_ (by kernel_rfl) ?_

  have hd0 := cellS60_0 HI3.out.1
  have hd1 := cellS60_1 HI3.out.1
  have hf1 := blk_frozen HI3.out.1 1
  go_wp2_with fail
  go_ret2
  exact ⟨rfl, IsS60.set_1 HI3.out b, below_set HB3.out (IsS60.ge HI3.out), KeepBut.set_ HK3.out _ _⟩
/-- What is wrong first. -/
def wrongF (e_ ea x y : Int) : Int × Int := if e_ = 0 then (x, y) else (e_, ea)
theorem wrong_calls (g : Nat) (s : ByteArray) (at_ e_ ea x y : Int) (w0 w : World) (hI : IsS60 w0 w g s at_ e_ ea) (hB : Below w0.heap.size w0 w) :
    Calls Tryd.prog 51 #[.pointer (some ⟨g, 0, none⟩), .int .i64 x, .int .i64 y] w fun e w' => e = .returned (.tuple #[]) ∧ IsS60 w0 w' g s at_ (wrongF e_ ea x y).1 (wrongF e_ ea x y).2 ∧ Below w0.heap.size w0 w' ∧ KeepBut w w' g none :=
  script_reader_wrong.calls g s at_ e_ ea x y s at_ _ _ w0 w hI hB (by unfold script_reader_wrong.f wrongF; split <;> rfl)
/-- A number: it, where what follows begins, and what is wrong first. -/
def numberF (k : Nat) (s : ByteArray) (at_ e_ ea : Int) : Option (Int × Int × Int × Int) :=
  (wordF k s at_).bind fun b => (digit_Parse.f k b.1).bind fun n =>
    some (n.1, b.2.2, if b.1.toList = ([] : List UInt8) then wrongF e_ ea 3 b.2.1 else if n.2 = false then wrongF e_ ea 2 b.2.1 else (e_, ea))
theorem numberF_out {k : Nat} {s : ByteArray} {at_ e_ ea n tt e1 ea1 : Int} (h : numberF k s at_ e_ ea = some (n, tt, e1, ea1)) :
    ∃ wd a is, wordF k s at_ = some (wd, a, tt) ∧ digit_Parse.f k wd = some (n, is) ∧ (if wd.toList = ([] : List UInt8) then wrongF e_ ea 3 a else if is = false then wrongF e_ ea 2 a else (e_, ea)) = (e1, ea1) := by
  unfold numberF at h
  obtain ⟨⟨wd, a, b⟩, h1, h2⟩ := Option.bind_eq_some_iff.mp h
  obtain ⟨⟨n', is⟩, h3, h4⟩ := Option.bind_eq_some_iff.mp h2
  simp only [Option.some.injEq, Prod.mk.injEq] at h4
  obtain ⟨rfl, rfl, h5⟩ := h4
  exact ⟨wd, a, is, h1, h3, h5⟩
set_option maxRecDepth 100000 in
set_option maxHeartbeats 1000000 in
theorem number_calls (k : Nat) (g : Nat) (s : ByteArray) (at_ e_ ea : Int) (n tt e1 ea1 : Int) (w0 w : World) (hI : IsS60 w0 w g s at_ e_ ea) (hB : Below w0.heap.size w0 w) (h : numberF k s at_ e_ ea = some (n, tt, e1, ea1)) :
    Calls Tryd.prog 52 #[.pointer (some ⟨g, 0, none⟩)] w fun e w' => e = .returned (.int .i64 n) ∧ IsS60 w0 w' g s tt e1 ea1 ∧ Below w0.heap.size w0 w' ∧ KeepBut w w' g none := by
  obtain ⟨wd, a, is, h1, h2, h3⟩ := numberF_out h
  clear h
  have h := h3
  clear h3
  have HW := Aside0.mk h1
  have HP := Aside0.mk h2
  have HI := Aside0.mk hI
  have HB := Aside0.mk hB
  clear h1 h2 hI hB
  by_cases c1 : wd.toList = ([] : List UInt8)
  · have c2 : (wd.toList == ([] : List UInt8)) = true := beq_iff_eq.mpr c1
    rw [if_pos c1] at h
    have HE := Aside0.mk h
    clear c1 h
    go_enter Tryd.func52, Tryd.ntmps52
    go_wp2_with (first | (go_at_call 49; (with_reducible refine (word_calls k g s at_ e_ ea wd a tt w0 _ HI.out HB.out HW.out).mono ?_); rintro e W1 ⟨rfl, hI1, hB1, hK1⟩; have HI1 := Aside0.mk hI1; have HB1 := Aside0.mk hB1; have HK1 := Aside0.mk hK1; clear hI1 hB1 hK1 HI HB) | (go_at_call 60; (with_reducible refine (digit_Parse.calls k wd n _ _ HP.out).mono ?_); rintro e W2 ⟨rfl, hb⟩; have HI2 := Aside0.mk (IsS60.below HI1.out hb); have HB2 := Aside0.mk (below_then HB1.out HB1.out.size hb); have HK2 := Aside0.mk (KeepBut.trans HK1.out (KeepBut.of_below hb g none) (.inl rfl)); clear hb HI1 HB1 HK1) | (go_at_call 51; (with_reducible refine (wrong_calls g s tt e_ ea 3 a w0 _ HI2.out HB2.out).mono ?_); rintro e W3 ⟨rfl, hI3, hB3, hK3⟩; have HI3 := Aside0.mk hI3; have HB3 := Aside0.mk hB3; have HK3 := Aside0.mk (KeepBut.trans HK2.out hK3 (.inl rfl)); clear hI3 hB3 hK3 HI2 HB2 HK2))
    go_ret
    exact ⟨rfl, by have h_ := HI3.out; rw [HE.out] at h_; exact h_, HB3.out, HK3.out⟩
  · have c2 : (wd.toList == ([] : List UInt8)) = false := beq_eq_false_iff_ne.mpr c1
    rw [if_neg c1] at h
    cases is with
    | false =>
      rw [if_pos rfl] at h
      have HE := Aside0.mk h
      clear c1 h
      go_enter Tryd.func52, Tryd.ntmps52
      go_wp2_with (first | (go_at_call 49; (with_reducible refine (word_calls k g s at_ e_ ea wd a tt w0 _ HI.out HB.out HW.out).mono ?_); rintro e W1 ⟨rfl, hI1, hB1, hK1⟩; have HI1 := Aside0.mk hI1; have HB1 := Aside0.mk hB1; have HK1 := Aside0.mk hK1; clear hI1 hB1 hK1 HI HB) | (go_at_call 60; (with_reducible refine (digit_Parse.calls k wd n _ _ HP.out).mono ?_); rintro e W2 ⟨rfl, hb⟩; have HI2 := Aside0.mk (IsS60.below HI1.out hb); have HB2 := Aside0.mk (below_then HB1.out HB1.out.size hb); have HK2 := Aside0.mk (KeepBut.trans HK1.out (KeepBut.of_below hb g none) (.inl rfl)); clear hb HI1 HB1 HK1) | (go_at_call 51; (with_reducible refine (wrong_calls g s tt e_ ea 2 a w0 _ HI2.out HB2.out).mono ?_); rintro e W3 ⟨rfl, hI3, hB3, hK3⟩; have HI3 := Aside0.mk hI3; have HB3 := Aside0.mk hB3; have HK3 := Aside0.mk (KeepBut.trans HK2.out hK3 (.inl rfl)); clear hI3 hB3 hK3 HI2 HB2 HK2))
      go_ret
      exact ⟨rfl, by have h_ := HI3.out; rw [HE.out] at h_; exact h_, HB3.out, HK3.out⟩
    | true =>
      rw [if_neg (by decide)] at h
      have HE := Aside0.mk h
      clear c1 h
      go_enter Tryd.func52, Tryd.ntmps52
      go_wp2_with (first | (go_at_call 49; (with_reducible refine (word_calls k g s at_ e_ ea wd a tt w0 _ HI.out HB.out HW.out).mono ?_); rintro e W1 ⟨rfl, hI1, hB1, hK1⟩; have HI1 := Aside0.mk hI1; have HB1 := Aside0.mk hB1; have HK1 := Aside0.mk hK1; clear hI1 hB1 hK1 HI HB) | (go_at_call 60; (with_reducible refine (digit_Parse.calls k wd n _ _ HP.out).mono ?_); rintro e W2 ⟨rfl, hb⟩; have HI2 := Aside0.mk (IsS60.below HI1.out hb); have HB2 := Aside0.mk (below_then HB1.out HB1.out.size hb); have HK2 := Aside0.mk (KeepBut.trans HK1.out (KeepBut.of_below hb g none) (.inl rfl)); clear hb HI1 HB1 HK1))
      go_ret
      obtain ⟨rfl, rfl⟩ := Prod.mk.injEq .. ▸ HE.out
      exact ⟨rfl, HI2.out, HB2.out, HK2.out⟩
/-- Data: they, where what follows begins, and what is wrong first. -/
def dataF (k : Nat) (s : ByteArray) (at_ e_ ea : Int) : Option (ByteArray × Int × Int × Int) :=
  (words_Next.f k s at_).bind fun b => (script_Unquote.f k s b.1).bind fun u =>
    some (if u.2.2.1 = 0 then (u.1, u.2.1, e_, ea) else (⟨#[]⟩, at_, wrongF e_ ea u.2.2.1 u.2.2.2))
theorem dataF_out {k : Nat} {s : ByteArray} {at_ e_ ea tt e1 ea1 : Int} {d : ByteArray} (h : dataF k s at_ e_ ea = some (d, tt, e1, ea1)) :
    ∃ a b u t E A, words_Next.f k s at_ = some (a, b) ∧ script_Unquote.f k s a = some (u, t, E, A) ∧ ((E = 0 ∧ d = u ∧ tt = t ∧ e1 = e_ ∧ ea1 = ea) ∨ (E ≠ 0 ∧ d = ⟨#[]⟩ ∧ tt = at_ ∧ wrongF e_ ea E A = (e1, ea1))) := by
  unfold dataF at h
  obtain ⟨⟨a, b⟩, h1, h2⟩ := Option.bind_eq_some_iff.mp h
  obtain ⟨⟨u, t, E, A⟩, h3, h4⟩ := Option.bind_eq_some_iff.mp h2
  refine ⟨a, b, u, t, E, A, h1, h3, ?_⟩
  dsimp only at h4
  by_cases hE : E = 0
  · rw [if_pos hE] at h4
    simp only [Option.some.injEq, Prod.mk.injEq] at h4
    obtain ⟨rfl, rfl, rfl, rfl⟩ := h4
    exact .inl ⟨hE, rfl, rfl, rfl, rfl⟩
  · rw [if_neg hE] at h4
    simp only [Option.some.injEq, Prod.mk.injEq] at h4
    obtain ⟨rfl, rfl, h5⟩ := h4
    exact .inr ⟨hE, rfl, rfl, by rw [← h5]⟩
set_option maxRecDepth 100000 in
set_option maxHeartbeats 1000000 in
theorem data_calls (k : Nat) (g : Nat) (s : ByteArray) (at_ e_ ea : Int) (d : ByteArray) (tt e1 ea1 : Int) (w0 w : World) (hI : IsS60 w0 w g s at_ e_ ea) (hB : Below w0.heap.size w0 w) (h : dataF k s at_ e_ ea = some (d, tt, e1, ea1)) :
    Calls Tryd.prog 56 #[.pointer (some ⟨g, 0, none⟩)] w fun e w' => e = .returned (.string d) ∧ IsS60 w0 w' g s tt e1 ea1 ∧ Below w0.heap.size w0 w' ∧ KeepBut w w' g none := by
  obtain ⟨a, b, u, t, E, A, h1, h2, h3⟩ := dataF_out h
  have HN := Aside0.mk h1
  have HU := Aside0.mk h2
  have hc0 := cellS60_0 hI.1
  have hc1 := cellS60_1 hI.1
  have HI := Aside0.mk hI
  have HB := Aside0.mk hB
  have H3 := Aside0.mk h3
  clear h h1 h2 h3 hI hB
  go_enter Tryd.func56, Tryd.ntmps56
  go_wp2_with fail
  refine start_ (n := 14) (S := fun w' => w'.cell? ⟨g, 0, none⟩ = some (.string s) ∧ w'.cell? ⟨g, 1, none⟩ = some (.int .i64 at_)) (ds := [8]) #[false, false, false, false, false, false, false, false, false, false, false, false, false, false] (by kernel_rfl) rfl rfl ⟨hc0, hc1⟩ (fun hHeld => ?_)
  have HI2 := Aside0.mk (IsS60.drew HI.out)
  have HB2 := Aside0.mk (below_drew HB.out)
  have HK2 : Aside0 (KeepBut w w.drew g none) := ⟨KeepBut.of_below (below_drew (Below.refl _ w)) g none⟩
  clear HI HB hc0 hc1
  refine pure_ (i := 0) (N := some 9) (v := ?_) (a' := ?_) #[true, false, false, false, false, false, false, false, false, false, false, false, false, false] rfl rfl (by kernel_rfl) (fun _ _ _ h => h) (Or.inl ⟨by rfl, ?_⟩) ?_ ?_
  rotate_left
  · intro w'
    go_simp
    with_reducible rfl
  rotate_left
  · simp only [Act.put, List.setIfInBounds_toArray, List.set_cons_zero, List.set_cons_succ, i64_w, i32_w]
    rfl
  refine pure_ (i := 1) (N := some 10) (v := ?_) (a' := ?_) #[true, true, false, false, false, false, false, false, false, false, false, false, false, false] rfl rfl (by kernel_rfl) (fun _ _ _ h => h) (Or.inl ⟨by rfl, ?_⟩) ?_ ?_
  rotate_left
  · intro w'
    go_simp
    with_reducible rfl
  rotate_left
  · simp only [Act.put, List.setIfInBounds_toArray, List.set_cons_zero, List.set_cons_succ, i64_w, i32_w]
    rfl
  refine pure_ (i := 2) (N := some 11) (v := ?_) (a' := ?_) #[true, true, true, false, false, false, false, false, false, false, false, false, false, false] rfl rfl (by kernel_rfl) (fun _ _ _ h => h) (Or.inl ⟨by rfl, ?_⟩) ?_ ?_
  rotate_left
  · intro w'
    go_simp
    with_reducible rfl
  rotate_left
  · simp only [Act.put, List.setIfInBounds_toArray, List.set_cons_zero, List.set_cons_succ, i64_w, i32_w]
    rfl
  refine pure_ (i := 4) (N := some 13) (v := ?_) (a' := ?_) #[true, true, true, false, true, false, false, false, false, false, false, false, false, false] rfl rfl (by kernel_rfl) (fun _ _ _ h => h) (Or.inl ⟨by rfl, ?_⟩) ?_ ?_
  rotate_left
  · intro w'
    go_simp
    with_reducible rfl
  rotate_left
  · simp only [Act.put, List.setIfInBounds_toArray, List.set_cons_zero, List.set_cons_succ, i64_w, i32_w]
    rfl
  refine pure_ (i := 5) (N := some 14) (v := ?_) (a' := ?_) #[true, true, true, false, true, true, false, false, false, false, false, false, false, false] rfl rfl (by kernel_rfl) (fun _ _ _ h => h) (Or.inl ⟨by rfl, ?_⟩) ?_ ?_
  rotate_left
  · intro w'
    go_simp
    with_reducible rfl
  rotate_left
  · simp only [Act.put, List.setIfInBounds_toArray, List.set_cons_zero, List.set_cons_succ, i64_w, i32_w]
    rfl
  refine pure_ (i := 6) (N := some 15) (v := ?_) (a' := ?_) #[true, true, true, false, true, true, true, false, false, false, false, false, false, false] rfl rfl (by kernel_rfl) (fun _ _ _ h => h) (Or.inl ⟨by rfl, ?_⟩) ?_ ?_
  rotate_left
  · intro w'
    go_simp
    with_reducible rfl
  rotate_left
  · simp only [Act.put, List.setIfInBounds_toArray, List.set_cons_zero, List.set_cons_succ, i64_w, i32_w]
    rfl
  refine take_ (i := 3) (N := some 12) (v := ?_) (a' := ?_) #[true, true, true, true, true, true, true, false, false, false, false, false, false, false] rfl rfl (by kernel_rfl) (fun _ _ _ h => h) (Or.inl ⟨by rfl, ?_⟩) hHeld ?_ ?_
  rotate_left
  · rintro w' ⟨s0, s1⟩
    go_simp
    with_reducible rfl
  rotate_left
  · simp only [Act.put, List.setIfInBounds_toArray, List.set_cons_zero, List.set_cons_succ, i64_w, i32_w]
    rfl
  refine take_ (i := 7) (N := some 16) (v := ?_) (a' := ?_) #[true, true, true, true, true, true, true, true, false, false, false, false, false, false] rfl rfl (by kernel_rfl) (fun _ _ _ h => h) (Or.inl ⟨by rfl, ?_⟩) hHeld ?_ ?_
  rotate_left
  · rintro w' ⟨s0, s1⟩
    go_simp
    with_reducible rfl
  rotate_left
  · simp only [Act.put, List.setIfInBounds_toArray, List.set_cons_zero, List.set_cons_succ, i64_w, i32_w]
    rfl
  refine last_ (i := 8) (N := some 17) #[true, true, true, true, true, true, true, true, true, false, false, false, false, false] rfl rfl (by kernel_rfl) (by decide) (fun K hK => ?_)
  refine goes_ Tryd.func59 (by kernel_rfl) rfl #[.string s, .int .i64 at_] (by rfl) rfl rfl (by simp only [List.map_toArray, List.map_cons, List.map_nil]; rfl) ?_
  with_reducible refine (words_Next.calls k s at_ a b _ HN.out).mono ?_
  rintro e w3 ⟨rfl, hb⟩
  have HI3 := Aside0.mk (IsS60.below HI2.out hb)
  have HB3 := Aside0.mk (below_then HB2.out HB2.out.size hb)
  have HK3 := Aside0.mk (KeepBut.trans HK2.out (KeepBut.of_below hb g none) (.inl rfl))
  clear hb
  refine ⟨_, rfl, ?_⟩
  refine hK.out _ _ ?_
  clear hK K
  refine norm_ (a' := ?_) ?_ ?_
  rotate_left
  · show Act.put _ (some 17) _ = _
    simp only [Act.put, List.setIfInBounds_toArray, List.set_cons_zero, List.set_cons_succ, i64_w, i32_w]
    rfl
  refine pure_ (i := 9) (N := some 8) (v := ?_) (a' := ?_) #[true, true, true, true, true, true, true, true, true, true, false, false, false, false] rfl rfl (by kernel_rfl) (fun _ _ _ h => h) (Or.inl ⟨by rfl, ?_⟩) ?_ ?_
  rotate_left
  · intro w'
    go_simp
    with_reducible rfl
  rotate_left
  · simp only [Act.put, List.setIfInBounds_toArray, List.set_cons_zero, List.set_cons_succ, i64_w, i32_w]
    rfl
  refine pure_ (i := 10) (N := some 18) (v := ?_) (a' := ?_) #[true, true, true, true, true, true, true, true, true, true, true, false, false, false] rfl rfl (by kernel_rfl) (fun _ _ _ h => h) (Or.inl ⟨by rfl, ?_⟩) ?_ ?_
  rotate_left
  · intro w'
    go_simp
    with_reducible rfl
  rotate_left
  · simp only [Act.put, List.setIfInBounds_toArray, List.set_cons_zero, List.set_cons_succ, i64_w, i32_w]
    rfl
  refine pure_ (i := 11) (N := some 19) (v := ?_) (a' := ?_) #[true, true, true, true, true, true, true, true, true, true, true, true, false, false] rfl rfl (by kernel_rfl) (fun _ _ _ h => h) (Or.inl ⟨by rfl, ?_⟩) ?_ ?_
  rotate_left
  · intro w'
    go_simp
    with_reducible rfl
  rotate_left
  · simp only [Act.put, List.setIfInBounds_toArray, List.set_cons_zero, List.set_cons_succ, i64_w, i32_w]
    rfl
  refine pure_ (i := 12) (N := some 3) (v := ?_) (a' := ?_) #[true, true, true, true, true, true, true, true, true, true, true, true, true, false] rfl rfl (by kernel_rfl) (fun _ _ _ h => h) (Or.inl ⟨by rfl, ?_⟩) ?_ ?_
  rotate_left
  · intro w'
    go_simp
    with_reducible rfl
  rotate_left
  · simp only [Act.put, List.setIfInBounds_toArray, List.set_cons_zero, List.set_cons_succ, i64_w, i32_w]
    rfl
  refine pure_ (i := 13) (N := some 4) (v := ?_) (a' := ?_) #[true, true, true, true, true, true, true, true, true, true, true, true, true, true] rfl rfl (by kernel_rfl) (fun _ _ _ h => h) (Or.inl ⟨by rfl, ?_⟩) ?_ ?_
  rotate_left
  · intro w'
    go_simp
    with_reducible rfl
  rotate_left
  · simp only [Act.put, List.setIfInBounds_toArray, List.set_cons_zero, List.set_cons_succ, i64_w, i32_w]
    rfl
  refine done_ (by kernel_rfl) ?_

  have hd0 := cellS60_0 HI3.out.1
  rcases H3.out with ⟨hE, rfl, rfl, rfl, rfl⟩ | ⟨hE, rfl, rfl, hw⟩
  · subst hE
    clear H3
    go_wp2_with (go_at_call 15; (with_reducible refine (script_Unquote.calls k s a d tt 0 A _ HU.out).mono ?_); rintro e W4 ⟨rfl, hb⟩; have HI4 := Aside0.mk (IsS60.below HI3.out hb); have HB4 := Aside0.mk (below_then HB3.out HB3.out.size hb); have HK4 := Aside0.mk (KeepBut.trans HK3.out (KeepBut.of_below hb g none) (.inl rfl)); have hf1 := blk_frozen HI4.out.1 1; have hd1 := cellS60_1 HI4.out.1; have hlt := IsS60.lt HI4.out; have hne : (g = W4.heap.size) = False := eq_false (by omega); have hne' : (W4.heap.size = g) = False := eq_false (by omega); clear hb HI3 HB3 HK3 hd0)
    go_ret
    exact ⟨rfl, IsS60.alloc (IsS60.set_1 HI4.out _) _, (below_set HB4.out (IsS60.ge HI4.out)).alloc (below_set HB4.out (IsS60.ge HI4.out)).size _, keep_alloc (KeepBut.set_ HK4.out _ _) _⟩
  · have c1 : (E == 0) = false := beq_eq_false_iff_ne.mpr hE
    have c2 : (E != 0) = true := bne_iff_ne.mpr hE
    have HE := Aside0.mk hw
    clear H3 hE hw
    go_wp2_with (first | (go_at_call 15; (with_reducible refine (script_Unquote.calls k s a u t E A _ HU.out).mono ?_); rintro e W4 ⟨rfl, hb⟩; have HI4 := Aside0.mk (IsS60.below HI3.out hb); have HB4 := Aside0.mk (below_then HB3.out HB3.out.size hb); have HK4 := Aside0.mk (KeepBut.trans HK3.out (KeepBut.of_below hb g none) (.inl rfl)); clear hb HI3 HB3 HK3 hd0) | (go_at_call 51; (with_reducible refine (wrong_calls g s tt e_ ea E A w0 _ (IsS60.alloc HI4.out _) (HB4.out.alloc HB4.out.size _)).mono ?_); rintro e W5 ⟨rfl, hI5, hB5, hK5⟩; have HI5 := Aside0.mk hI5; have HB5 := Aside0.mk hB5; have HK5 := Aside0.mk (KeepBut.trans (keep_alloc HK4.out _) hK5 (.inl rfl)); clear hI5 hB5 hK5 HI4 HB4 HK4))
    go_ret
    exact ⟨rfl, by have h_ := HI5.out; rw [HE.out] at h_; exact h_, HB5.out, HK5.out⟩
end Go.Proofs.YtifcpamliidabaaDoor.HandRd

/- What the reader of lines reads: an operation. Conditions: what the plain functions tell. -/
set_option linter.unusedSimpArgs false
set_option linter.unusedVariables false
namespace Go.Proofs.YtifcpamliidabaaDoor.HandOpM
open Go.RowKit Go.Proofs.YtifcpamliidabaaDoorW.PrintWords Go.Proofs.YtifcpamliidabaaDoorW.PrintLast Go.Proofs.YtifcpamliidabaaDoorW.PrintMore Go.Proofs.YtifcpamliidabaaDoor.PS Go.Proofs.YtifcpamliidabaaDoor.HandKind Go.Proofs.YtifcpamliidabaaDoor.HandRd
/-- The kind of an operation's name. -/
def kindF (s : ByteArray) : Int := (findL tab_script_names 0 s : Int)
/-- An operation: its kind, number and data; where what follows begins; what is wrong first. -/
def opF (k : Nat) (s : ByteArray) (at_ e_ ea : Int) : Option (Int × Int × ByteArray × Int × Int × Int) :=
  (wordF k s at_).bind fun b =>
    if kindF b.1 = 0 then some (0, 0, ⟨#[]⟩, b.2.2, wrongF e_ ea 3 b.2.1)
    else if kindF b.1 = 1 then (dataF k s b.2.2 e_ ea).bind fun d => some (1, 0, d)
    else (script_numbered.f (kindF b.1)).bind fun nb => if nb = true then (numberF k s b.2.2 e_ ea).bind fun n => some (kindF b.1, n.1, ⟨#[]⟩, n.2) else some (kindF b.1, 0, ⟨#[]⟩, b.2.2, e_, ea)
theorem kind_names (s : ByteArray) (W0 w : World) (hB : Below W0.heap.size W0 w) (hr : Kd.C Kd.string W0 (some ⟨0, 0, none⟩) tab_script_names.length tab_script_names) :
    Calls Tryd.prog 55 #[.string s] w fun e w' => e = .returned (.int .i64 (kindF s)) ∧ w' = w := kind_calls s w (Kd.C_below hr hB)
theorem blk_new (W : World) (cs : Array Value) (t : TypeId) : (W.alloc (.cells cs t)).heap[W.heap.size]? = some (.cells cs t (0, 0)) := by simpa using heap_alloc_new W (.cells cs t)
theorem keep_new {g : Nat} {w0 w w' : World} {cs : Array Value} {t : TypeId} {s : ByteArray} {at_ e_ ea : Int} (hI : IsS60 w0 w g s at_ e_ ea) (hk : KeepBut (w.alloc (.cells cs t)) w' g none) : w'.heap[w.heap.size]? = some (.cells cs t (0, 0)) :=
  KeepBut.blk hk (blk_new w cs t) (by have := hI.lt; omega) (by simp)
theorem keep_old {g x : Nat} {W w' : World} {cs : Array Value} {t : TypeId} {o : Obj} (h : W.heap[x]? = some (.cells cs t (0, 0))) (hx : x ≠ g) (hk : KeepBut (W.alloc o) w' g none) : w'.heap[x]? = some (.cells cs t (0, 0)) :=
  KeepBut.blk hk (blk_alloc h o) hx (by simp)
/-- A store into a block that was made since w. -/
theorem keep_new_set {g R : Nat} {w W : World} (hk : KeepBut w W g none) (hR : w.heap.size ≤ R) (i : Nat) (u : Value) : KeepBut w (W.setCell ⟨R, i, none⟩ u) g none :=
  ⟨by have := hk.1; simpa using this, fun j hj h1 h2 => (Below.heap_setCell W ⟨R, i, none⟩ u j (by show j ≠ R; omega)).trans (hk.2 j hj h1 h2)⟩
/-- What is behind the stores of the result. -/
theorem op_tail {g R : Nat} {w0 w W : World} {s : ByteArray} {at_ e_ ea : Int} {x0 x1 x2 : Value} (hI : IsS60 w0 W g s at_ e_ ea) (hB : Below w0.heap.size w0 W) (hK : KeepBut w W g none) (hR : W.heap[R]? = some (.cells #[x0, x1, x2] 42 (0, 0))) (hw : w.heap.size ≤ R) (h0 : w0.heap.size ≤ w.heap.size) (hg : g ≠ R) (u0 u1 u2 : Value) :
    (((W.setCell ⟨R, 0, none⟩ u0).setCell ⟨R, 1, none⟩ u1).setCell ⟨R, 2, none⟩ u2).heap[R]? = some (.cells #[u0, u1, u2] 42 (0, 0)) ∧
      IsS60 w0 (((W.setCell ⟨R, 0, none⟩ u0).setCell ⟨R, 1, none⟩ u1).setCell ⟨R, 2, none⟩ u2) g s at_ e_ ea ∧ Below w0.heap.size w0 (((W.setCell ⟨R, 0, none⟩ u0).setCell ⟨R, 1, none⟩ u1).setCell ⟨R, 2, none⟩ u2) ∧
      KeepBut w (((W.setCell ⟨R, 0, none⟩ u0).setCell ⟨R, 1, none⟩ u1).setCell ⟨R, 2, none⟩ u2) g none := by
  have hq : w0.heap.size ≤ R := Nat.le_trans h0 hw
  exact ⟨blk_set (blk_set (blk_set hR 0 u0) 1 u1) 2 u2, IsS60.far (p := ⟨R, 2, none⟩) (IsS60.far (p := ⟨R, 1, none⟩) (IsS60.far (p := ⟨R, 0, none⟩) hI hg u0) hg u1) hg u2, below_set (below_set (below_set hB hq) hq) hq, keep_new_set (keep_new_set (keep_new_set hK hw 0 u0) hw 1 u1) hw 2 u2⟩
set_option maxRecDepth 100000 in
set_option maxHeartbeats 1000000 in
theorem op_none (k : Nat) (g : Nat) (s : ByteArray) (at_ e_ ea : Int) (wd : ByteArray) (a b : Int) (w0 w : World) (hI : IsS60 w0 w g s at_ e_ ea) (hB : Below w0.heap.size w0 w) (hG : Kd.C Kd.string w0 (some ⟨0, 0, none⟩) tab_script_names.length tab_script_names)
    (h : wordF k s at_ = some (wd, a, b)) (hk : kindF wd = 0) :
    Calls Tryd.prog 37 #[.pointer (some ⟨g, 0, none⟩)] w fun e w' => e = .returned (.agg #[.int .i64 0, .int .i64 0, .string ⟨#[]⟩]) ∧ IsS60 w0 w' g s b (wrongF e_ ea 3 a).1 (wrongF e_ ea 3 a).2 ∧ Below w0.heap.size w0 w' ∧ KeepBut w w' g none := by
  have HW := Aside0.mk h
  have HK := Aside0.mk hk
  have HG := Aside0.mk hG
  have HS : Aside0 (g < w.heap.size ∧ w0.heap.size ≤ w.heap.size) := ⟨hI.lt, hB.size⟩
  have HI := Aside0.mk hI
  have HB := Aside0.mk hB
  clear h hk hG hI hB
  go_enter Tryd.func37, Tryd.ntmps37
  go_wp2_with (first | (go_at_call 49; (refine (word_calls k g s at_ e_ ea wd a b w0 _ (IsS60.alloc HI.out _) (HB.out.alloc HB.out.size _) HW.out).mono ?_); rintro e W1 ⟨rfl, hI1, hB1, hK1⟩; have HR1 := Aside0.mk (keep_new HI.out hK1); have HI1 := Aside0.mk hI1; have HB1 := Aside0.mk hB1; have HS1 := Aside0.mk hI1.lt; have HRP := Aside0.mk (Nat.ne_of_lt (blk_lt HR1.out)); have HK1 := Aside0.mk (KeepBut.trans (keep_alloc (KeepBut.refl w g none) _) hK1 (.inl rfl)); clear hI1 hB1 hK1 HI HB) | (go_at_call 55; (refine (kind_names wd w0 _ HB1.out HG.out).mono ?_); rintro e W2 ⟨rfl, hW⟩; obtain rfl := hW.symm; rw [HK.out]) | (go_at_call 51; (refine (wrong_calls g s b e_ ea 3 a w0 _ (IsS60.alloc HI1.out _) (HB1.out.alloc HB1.out.size _)).mono ?_); rintro e W3 ⟨rfl, hI3, hB3, hK3⟩; have HR3 := Aside0.mk (keep_old HR1.out (Nat.ne_of_gt HS.out.1) hK3); have HP3 := Aside0.mk (keep_new HI1.out hK3); have hx0 : W3.cell? ⟨W1.heap.size, 0, none⟩ = some (.int .i64 0) := (blk_cell HP3.out 0).trans rfl; have hx1 : W3.cell? ⟨W1.heap.size, 1, none⟩ = some (.int .i64 0) := (blk_cell HP3.out 1).trans rfl; have hx2 : W3.cell? ⟨W1.heap.size, 2, none⟩ = some (.string ⟨#[]⟩) := (blk_cell HP3.out 2).trans rfl; have hy0 : W3.cell? ⟨w.heap.size, 0, none⟩ = some (.int .i64 0) := (blk_cell HR3.out 0).trans rfl; have hy1 : W3.cell? ⟨w.heap.size, 1, none⟩ = some (.int .i64 0) := (blk_cell HR3.out 1).trans rfl; have hy2 : W3.cell? ⟨w.heap.size, 2, none⟩ = some (.string ⟨#[]⟩) := (blk_cell HR3.out 2).trans rfl; have hnw := eq_false HRP.out; have hnw2 := eq_false (Ne.symm HRP.out); have hf0 := blk_frozen HR3.out 0; have hf1 := blk_frozen HR3.out 1; have hf2 := blk_frozen HR3.out 2; have hg1 := blk_frozen HP3.out 1; have hg2 := blk_frozen HP3.out 2; have HI3 := Aside0.mk hI3; have HB3 := Aside0.mk hB3; have HK3 := Aside0.mk (KeepBut.trans (keep_alloc HK1.out _) hK3 (.inl rfl)); clear hI3 hB3 hK3))
  obtain ⟨t1, t2, t3, t4⟩ := op_tail HI3.out HB3.out HK3.out HR3.out (Nat.le_refl _) HS.out.2 (Nat.ne_of_lt HS.out.1) (.int .i64 0) (.int .i64 0) (.string ⟨#[]⟩)
  refine bodyPost_ret (results_cell_row rfl _ _ w.heap.size 42 _ (0, 0) _ rfl t1 Tryd.underlying42 rfl (by kernel_rfl)) rfl ⟨rfl, t2, t3, t4⟩
set_option maxRecDepth 100000 in
set_option maxHeartbeats 1000000 in
theorem op_feed (k : Nat) (g : Nat) (s : ByteArray) (at_ e_ ea : Int) (wd : ByteArray) (a b : Int) (d : ByteArray) (tt e1 ea1 : Int) (w0 w : World) (hI : IsS60 w0 w g s at_ e_ ea) (hB : Below w0.heap.size w0 w) (hG : Kd.C Kd.string w0 (some ⟨0, 0, none⟩) tab_script_names.length tab_script_names)
    (h : wordF k s at_ = some (wd, a, b)) (hk : kindF wd = 1) (hd : dataF k s b e_ ea = some (d, tt, e1, ea1)) :
    Calls Tryd.prog 37 #[.pointer (some ⟨g, 0, none⟩)] w fun e w' => e = .returned (.agg #[.int .i64 1, .int .i64 0, .string d]) ∧ IsS60 w0 w' g s tt e1 ea1 ∧ Below w0.heap.size w0 w' ∧ KeepBut w w' g none := by
  have HD := Aside0.mk hd
  clear hd
  have HW := Aside0.mk h
  have HK := Aside0.mk hk
  have HG := Aside0.mk hG
  have HS : Aside0 (g < w.heap.size ∧ w0.heap.size ≤ w.heap.size) := ⟨hI.lt, hB.size⟩
  have HI := Aside0.mk hI
  have HB := Aside0.mk hB
  clear h hk hG hI hB
  go_enter Tryd.func37, Tryd.ntmps37
  go_wp2_with (first | (go_at_call 49; (refine (word_calls k g s at_ e_ ea wd a b w0 _ (IsS60.alloc HI.out _) (HB.out.alloc HB.out.size _) HW.out).mono ?_); rintro e W1 ⟨rfl, hI1, hB1, hK1⟩; have HR1 := Aside0.mk (keep_new HI.out hK1); have HI1 := Aside0.mk hI1; have HB1 := Aside0.mk hB1; have HS1 := Aside0.mk hI1.lt; have HRP := Aside0.mk (Nat.ne_of_lt (blk_lt HR1.out)); have HK1 := Aside0.mk (KeepBut.trans (keep_alloc (KeepBut.refl w g none) _) hK1 (.inl rfl)); clear hI1 hB1 hK1 HI HB) | (go_at_call 55; (refine (kind_names wd w0 _ HB1.out HG.out).mono ?_); rintro e W2 ⟨rfl, hW⟩; obtain rfl := hW.symm; rw [HK.out]) | (go_at_call 56; (refine (data_calls k g s b e_ ea d tt e1 ea1 w0 _ (IsS60.alloc HI1.out _) (HB1.out.alloc HB1.out.size _) HD.out).mono ?_); rintro e W3 ⟨rfl, hI3, hB3, hK3⟩; have HR3 := Aside0.mk (keep_old HR1.out (Nat.ne_of_gt HS.out.1) hK3); have HP3 := Aside0.mk (keep_new HI1.out hK3); have hx0 : W3.cell? ⟨W1.heap.size, 0, none⟩ = some (.int .i64 1) := (blk_cell HP3.out 0).trans rfl; have hx1 : W3.cell? ⟨W1.heap.size, 1, none⟩ = some (.int .i64 0) := (blk_cell HP3.out 1).trans rfl; have hx2 : W3.cell? ⟨W1.heap.size, 2, none⟩ = some (.string ⟨#[]⟩) := (blk_cell HP3.out 2).trans rfl; have hy0 : W3.cell? ⟨w.heap.size, 0, none⟩ = some (.int .i64 0) := (blk_cell HR3.out 0).trans rfl; have hy1 : W3.cell? ⟨w.heap.size, 1, none⟩ = some (.int .i64 0) := (blk_cell HR3.out 1).trans rfl; have hy2 : W3.cell? ⟨w.heap.size, 2, none⟩ = some (.string ⟨#[]⟩) := (blk_cell HR3.out 2).trans rfl; have hnw := eq_false HRP.out; have hnw2 := eq_false (Ne.symm HRP.out); have hf0 := blk_frozen HR3.out 0; have hf1 := blk_frozen HR3.out 1; have hf2 := blk_frozen HR3.out 2; have hg1 := blk_frozen HP3.out 1; have hg2 := blk_frozen HP3.out 2; have HI3 := Aside0.mk hI3; have HB3 := Aside0.mk hB3; have HK3 := Aside0.mk (KeepBut.trans (keep_alloc HK1.out _) hK3 (.inl rfl)); clear hI3 hB3 hK3))
  have hP : W1.heap.size ≠ g := by have := HS1.out; omega
  obtain ⟨t1, t2, t3, t4⟩ := op_tail (IsS60.far (p := ⟨W1.heap.size, 2, none⟩) HI3.out hP.symm (.string d)) (below_set HB3.out HB1.out.size) (keep_new_set HK3.out HK1.out.1 2 (.string d)) (blk_far HR3.out (p := ⟨W1.heap.size, 2, none⟩) HRP.out _) (Nat.le_refl _) HS.out.2 (Nat.ne_of_lt HS.out.1) (.int .i64 1) (.int .i64 0) (.string d)
  refine bodyPost_ret (results_cell_row rfl _ _ w.heap.size 42 _ (0, 0) _ rfl t1 Tryd.underlying42 rfl (by kernel_rfl)) rfl ⟨rfl, t2, t3, t4⟩
set_option maxRecDepth 100000 in
set_option maxHeartbeats 1000000 in
theorem op_number (k : Nat) (g : Nat) (s : ByteArray) (at_ e_ ea : Int) (wd : ByteArray) (a b : Int) (K n tt e1 ea1 : Int) (w0 w : World) (hI : IsS60 w0 w g s at_ e_ ea) (hB : Below w0.heap.size w0 w) (hG : Kd.C Kd.string w0 (some ⟨0, 0, none⟩) tab_script_names.length tab_script_names)
    (h : wordF k s at_ = some (wd, a, b)) (hk : kindF wd = K) (hk0 : K ≠ 0) (hk1 : K ≠ 1) (hnb : script_numbered.f K = some true) (hd : numberF k s b e_ ea = some (n, tt, e1, ea1)) :
    Calls Tryd.prog 37 #[.pointer (some ⟨g, 0, none⟩)] w fun e w' => e = .returned (.agg #[.int .i64 K, .int .i64 n, .string ⟨#[]⟩]) ∧ IsS60 w0 w' g s tt e1 ea1 ∧ Below w0.heap.size w0 w' ∧ KeepBut w w' g none := by
  have HD := Aside0.mk hd
  have HNB := Aside0.mk hnb
  have k0 : (K == 0) = false := beq_eq_false_iff_ne.mpr hk0
  have k1 : (K == 1) = false := beq_eq_false_iff_ne.mpr hk1
  clear hd hnb hk0 hk1
  have HW := Aside0.mk h
  have HK := Aside0.mk hk
  have HG := Aside0.mk hG
  have HS : Aside0 (g < w.heap.size ∧ w0.heap.size ≤ w.heap.size) := ⟨hI.lt, hB.size⟩
  have HI := Aside0.mk hI
  have HB := Aside0.mk hB
  clear h hk hG hI hB
  go_enter Tryd.func37, Tryd.ntmps37
  go_wp2_with (first | (go_at_call 49; (refine (word_calls k g s at_ e_ ea wd a b w0 _ (IsS60.alloc HI.out _) (HB.out.alloc HB.out.size _) HW.out).mono ?_); rintro e W1 ⟨rfl, hI1, hB1, hK1⟩; have HR1 := Aside0.mk (keep_new HI.out hK1); have HI1 := Aside0.mk hI1; have HB1 := Aside0.mk hB1; have HS1 := Aside0.mk hI1.lt; have HRP := Aside0.mk (Nat.ne_of_lt (blk_lt HR1.out)); have HK1 := Aside0.mk (KeepBut.trans (keep_alloc (KeepBut.refl w g none) _) hK1 (.inl rfl)); clear hI1 hB1 hK1 HI HB) | (go_at_call 55; (refine (kind_names wd w0 _ HB1.out HG.out).mono ?_); rintro e W2 ⟨rfl, hW⟩; obtain rfl := hW.symm; rw [HK.out]) | (go_at_call 42; (refine (script_numbered.calls K true _ HNB.out).mono ?_); rintro e W2 ⟨rfl, ⟨nd, rfl⟩⟩) | (go_at_call 52; (refine (number_calls k g s b e_ ea n tt e1 ea1 w0 _ (IsS60.drewN (IsS60.alloc HI1.out _) _) (pw_below_drewN (HB1.out.alloc HB1.out.size _) _) HD.out).mono ?_); rintro e W3 ⟨rfl, hI3, hB3, hK3⟩; have HR3 := Aside0.mk (keep_old HR1.out (Nat.ne_of_gt HS.out.1) hK3); have HP3 := Aside0.mk (keep_new HI1.out hK3); have hx0 : W3.cell? ⟨W1.heap.size, 0, none⟩ = some (.int .i64 K) := (blk_cell HP3.out 0).trans rfl; have hx1 : W3.cell? ⟨W1.heap.size, 1, none⟩ = some (.int .i64 0) := (blk_cell HP3.out 1).trans rfl; have hx2 : W3.cell? ⟨W1.heap.size, 2, none⟩ = some (.string ⟨#[]⟩) := (blk_cell HP3.out 2).trans rfl; have hy0 : W3.cell? ⟨w.heap.size, 0, none⟩ = some (.int .i64 0) := (blk_cell HR3.out 0).trans rfl; have hy1 : W3.cell? ⟨w.heap.size, 1, none⟩ = some (.int .i64 0) := (blk_cell HR3.out 1).trans rfl; have hy2 : W3.cell? ⟨w.heap.size, 2, none⟩ = some (.string ⟨#[]⟩) := (blk_cell HR3.out 2).trans rfl; have hnw := eq_false HRP.out; have hnw2 := eq_false (Ne.symm HRP.out); have hf0 := blk_frozen HR3.out 0; have hf1 := blk_frozen HR3.out 1; have hf2 := blk_frozen HR3.out 2; have hg1 := blk_frozen HP3.out 1; have hg2 := blk_frozen HP3.out 2; have HI3 := Aside0.mk hI3; have HB3 := Aside0.mk hB3; have HK3 := Aside0.mk (KeepBut.trans (keep_alloc HK1.out _) hK3 (.inl rfl)); clear hI3 hB3 hK3))
  have hP : W1.heap.size ≠ g := by have := HS1.out; omega
  obtain ⟨t1, t2, t3, t4⟩ := op_tail (IsS60.far (p := ⟨W1.heap.size, 1, none⟩) HI3.out hP.symm (.int .i64 n)) (below_set HB3.out HB1.out.size) (keep_new_set HK3.out HK1.out.1 1 (.int .i64 n)) (blk_far HR3.out (p := ⟨W1.heap.size, 1, none⟩) HRP.out _) (Nat.le_refl _) HS.out.2 (Nat.ne_of_lt HS.out.1) (.int .i64 K) (.int .i64 n) (.string ⟨#[]⟩)
  refine bodyPost_ret (results_cell_row rfl _ _ w.heap.size 42 _ (0, 0) _ rfl t1 Tryd.underlying42 rfl (by kernel_rfl)) rfl ⟨rfl, t2, t3, t4⟩
set_option maxRecDepth 100000 in
set_option maxHeartbeats 1000000 in
theorem op_plain (k : Nat) (g : Nat) (s : ByteArray) (at_ e_ ea : Int) (wd : ByteArray) (a b : Int) (K : Int) (w0 w : World) (hI : IsS60 w0 w g s at_ e_ ea) (hB : Below w0.heap.size w0 w) (hG : Kd.C Kd.string w0 (some ⟨0, 0, none⟩) tab_script_names.length tab_script_names)
    (h : wordF k s at_ = some (wd, a, b)) (hk : kindF wd = K) (hk0 : K ≠ 0) (hk1 : K ≠ 1) (hnb : script_numbered.f K = some false) :
    Calls Tryd.prog 37 #[.pointer (some ⟨g, 0, none⟩)] w fun e w' => e = .returned (.agg #[.int .i64 K, .int .i64 0, .string ⟨#[]⟩]) ∧ IsS60 w0 w' g s b e_ ea ∧ Below w0.heap.size w0 w' ∧ KeepBut w w' g none := by
  have HNB := Aside0.mk hnb
  have k0 : (K == 0) = false := beq_eq_false_iff_ne.mpr hk0
  have k1 : (K == 1) = false := beq_eq_false_iff_ne.mpr hk1
  clear hnb hk0 hk1
  have HW := Aside0.mk h
  have HK := Aside0.mk hk
  have HG := Aside0.mk hG
  have HS : Aside0 (g < w.heap.size ∧ w0.heap.size ≤ w.heap.size) := ⟨hI.lt, hB.size⟩
  have HI := Aside0.mk hI
  have HB := Aside0.mk hB
  clear h hk hG hI hB
  go_enter Tryd.func37, Tryd.ntmps37
  go_wp2_with (first | (go_at_call 49; (refine (word_calls k g s at_ e_ ea wd a b w0 _ (IsS60.alloc HI.out _) (HB.out.alloc HB.out.size _) HW.out).mono ?_); rintro e W1 ⟨rfl, hI1, hB1, hK1⟩; have HR1 := Aside0.mk (keep_new HI.out hK1); have HI1 := Aside0.mk hI1; have HB1 := Aside0.mk hB1; have HS1 := Aside0.mk hI1.lt; have HRP := Aside0.mk (Nat.ne_of_lt (blk_lt HR1.out)); have HK1 := Aside0.mk (KeepBut.trans (keep_alloc (KeepBut.refl w g none) _) hK1 (.inl rfl)); clear hI1 hB1 hK1 HI HB) | (go_at_call 55; (refine (kind_names wd w0 _ HB1.out HG.out).mono ?_); rintro e W2 ⟨rfl, hW⟩; obtain rfl := hW.symm; rw [HK.out]) | (go_at_call 42; (refine (script_numbered.calls K false _ HNB.out).mono ?_); rintro e W2 ⟨rfl, ⟨nd, rfl⟩⟩; have hy0 : W1.cell? ⟨w.heap.size, 0, none⟩ = some (.int .i64 0) := (blk_cell HR1.out 0).trans rfl; have hy1 : W1.cell? ⟨w.heap.size, 1, none⟩ = some (.int .i64 0) := (blk_cell HR1.out 1).trans rfl; have hy2 : W1.cell? ⟨w.heap.size, 2, none⟩ = some (.string ⟨#[]⟩) := (blk_cell HR1.out 2).trans rfl; have hf0 := blk_frozen HR1.out 0; have hf1 := blk_frozen HR1.out 1; have hf2 := blk_frozen HR1.out 2; have hnw := eq_false HRP.out; have hnw2 := eq_false (Ne.symm HRP.out); have hlt := eq_true (blk_lt HR1.out)))
  obtain ⟨t1, t2, t3, t4⟩ := op_tail (IsS60.drewN (IsS60.alloc HI1.out (.cells #[.int .i64 K, .int .i64 0, .string ⟨#[]⟩] 42)) nd) (pw_below_drewN (HB1.out.alloc HB1.out.size _) nd) (KeepBut.trans (keep_alloc HK1.out _) (KeepBut.of_below (pw_below_drewN (Below.refl _ _) nd) g none) (.inl rfl)) (blk_drewN (blk_alloc HR1.out _) nd) (Nat.le_refl _) HS.out.2 (Nat.ne_of_lt HS.out.1) (.int .i64 K) (.int .i64 0) (.string ⟨#[]⟩)
  refine bodyPost_ret (results_cell_row rfl _ _ w.heap.size 42 _ (0, 0) _ rfl t1 Tryd.underlying42 rfl (by kernel_rfl)) rfl ⟨rfl, t2, t3, t4⟩
/-- What op reads. -/
theorem op_calls (k : Nat) (g : Nat) (s : ByteArray) (at_ e_ ea : Int) (K n : Int) (d : ByteArray) (tt e1 ea1 : Int) (w0 w : World) (hI : IsS60 w0 w g s at_ e_ ea) (hB : Below w0.heap.size w0 w) (hG : Kd.C Kd.string w0 (some ⟨0, 0, none⟩) tab_script_names.length tab_script_names) (h : opF k s at_ e_ ea = some (K, n, d, tt, e1, ea1)) :
    Calls Tryd.prog 37 #[.pointer (some ⟨g, 0, none⟩)] w fun e w' => e = .returned (.agg #[.int .i64 K, .int .i64 n, .string d]) ∧ IsS60 w0 w' g s tt e1 ea1 ∧ Below w0.heap.size w0 w' ∧ KeepBut w w' g none := by
  unfold opF at h
  obtain ⟨⟨wd, a, b⟩, h1, h2⟩ := Option.bind_eq_some_iff.mp h
  clear h
  dsimp only at h2
  by_cases hk0 : kindF wd = 0
  · rw [if_pos hk0] at h2
    simp only [Option.some.injEq, Prod.mk.injEq] at h2
    obtain ⟨rfl, rfl, rfl, rfl, h3⟩ := h2
    have h4 := op_none k g s at_ e_ ea wd a b w0 w hI hB hG h1 hk0
    rw [h3] at h4
    exact h4
  · rw [if_neg hk0] at h2
    by_cases hk1 : kindF wd = 1
    · rw [if_pos hk1] at h2
      obtain ⟨⟨d', t', e', ea'⟩, h3, h4⟩ := Option.bind_eq_some_iff.mp h2
      simp only [Option.some.injEq, Prod.mk.injEq] at h4
      obtain ⟨rfl, rfl, rfl, rfl, rfl, rfl⟩ := h4
      exact op_feed k g s at_ e_ ea wd a b _ _ _ _ w0 w hI hB hG h1 hk1 h3
    · rw [if_neg hk1] at h2
      obtain ⟨nb, h3, h4⟩ := Option.bind_eq_some_iff.mp h2
      cases nb with
      | true =>
        rw [if_pos rfl] at h4
        obtain ⟨⟨n', t', e', ea'⟩, h5, h6⟩ := Option.bind_eq_some_iff.mp h4
        simp only [Option.some.injEq, Prod.mk.injEq] at h6
        obtain ⟨rfl, rfl, rfl, rfl, rfl, rfl⟩ := h6
        exact op_number k g s at_ e_ ea wd a b _ _ _ _ _ w0 w hI hB hG h1 rfl hk0 hk1 h3 h5
      | false =>
        rw [if_neg (by decide)] at h4
        simp only [Option.some.injEq, Prod.mk.injEq] at h4
        obtain ⟨rfl, rfl, rfl, rfl, rfl, rfl⟩ := h4
        exact op_plain k g s at_ e_ ea wd a b _ w0 w hI hB hG h1 rfl hk0 hk1 h3
end Go.Proofs.YtifcpamliidabaaDoor.HandOpM

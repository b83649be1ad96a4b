/- All code points of a text, and whether all are right: what utf.All and utf.Valid tell. No condition beyond a bound on the text's length. -/
import Derived.Test.YtfknoaokoncneaaDoorHandRng
set_option linter.unusedSimpArgs false
set_option linter.unusedVariables false
namespace Go.Proofs.YtfknoaokoncneaaDoor.HandAll
open Go.RowKit Go.Shelf Go.Proofs.YtfknoaokoncneaaDoorW.PrintWords Go.Proofs.YtfknoaokoncneaaDoorW.PrintLast Go.Proofs.YtfknoaokoncneaaDoorW.PrintMore Go.Proofs.YtfknoaokoncneaaDoor.PU Go.Proofs.YtfknoaokoncneaaDoor.PlU Go.Proofs.YtfknoaokoncneaaDoor.HandPts
attribute [local go_sem] Oper.semAt_some wide_fn wide_depth round_fn round_depth
set_option maxRecDepth 100000 in
set_option maxHeartbeats 1000000 in
theorem points_in (m : Nat) (s : ByteArray) (w : World) :
    CallsIn Fence.wide m Tryd.prog 57 #[.string s] w fun e w' => e = .returned (.func (.func 60) #[] #[.pointer (some ⟨w.heap.size, 0, none⟩)]) ∧ w' = w.alloc (.cells #[.string s] 9) := by
  refine callsIn_of_wp Tryd.func57 rfl trivial ?_ rfl
  simp only [Tryd.ntmps57, List.size_toArray, List.length_cons, List.length_nil, Nat.reduceAdd, Nat.reduceSub, Array.replicate_succ, Array.replicate_zero, List.push_toArray, List.append_toArray, List.nil_append, List.cons_append]
  gi_wp2
  go_ret
  exact ⟨rfl, rfl⟩
def cells (l : List Int) : List Value := l.map fun x => .int .i64 x
/-- Between two rounds of All's loop. -/
structure AllAt (w0 : World) (B : Nat) (pre : List Int) (W : World) : Prop where
  box : ∃ v, Boxed W B 47 v ∧ W.ownsRow w0.heap.size 3 1 v pre.length (cells pre)
  below : Below w0.heap.size w0 W
theorem box_ne {W : World} {B B' : Nat} {t t' : TypeId} {v v' : Value} (h : Boxed W B t v) (h' : Boxed W B' t' v') (hne : t ≠ t') : B ≠ B' := by
  rintro rfl
  have := (show W.heap[B]? = _ from h).symm.trans h'
  simp only [Option.some.injEq, Obj.cells.injEq] at this
  exact hne this.2.1
theorem AllAt.under {w0 : World} {B : Nat} {pre : List Int} {W W' : World} (h : AllAt w0 B pre W) (hb : Below W.heap.size W W') : AllAt w0 B pre W' := by
  obtain ⟨v, hv, hr⟩ := h.box
  exact ⟨⟨v, box_under hv hb, hr.kept (grown_of_below hb none) (by cases v.ownBlock <;> simp)⟩, below_then h.below h.below.size hb⟩
theorem AllAt.text {w0 : World} {B Bs : Nat} {pre : List Int} {W : World} {t u : ByteArray} (h : AllAt w0 B pre W) (hB : w0.heap.size ≤ Bs) (ht : Boxed W Bs 9 (.string t)) : AllAt w0 B pre (W.setCell ⟨Bs, 0, none⟩ (.string u)) := by
  obtain ⟨v, hv, hr⟩ := h.box
  exact ⟨⟨v, hv.kept (grownBy_setCell' W Bs _) (fun e => box_ne hv ht (by decide) (Option.some.inj e)), hr.kept (grownBy_setCell' W Bs _) (by
    cases hq : v.ownBlock with
    | none => exact .inl rfl
    | some r => exact .inr (fun e => ht.not_row (by decide) hr (by rw [hq]; exact e.symm)))⟩, below_set h.below hB⟩
theorem AllAt.put {w0 : World} {B k : Nat} {pre : List Int} {W : World} {o o' : Obj} (h : AllAt w0 B pre W) (hk : w0.heap.size ≤ k) (ho : W.heap[k]? = some o) (hc : o.isCells = false) : AllAt w0 B pre (W.putObj k o') := by
  obtain ⟨v, hv, hr⟩ := h.box
  exact ⟨⟨v, far_put hv ho hc, ownsRow_putObj hr o' ho hc⟩, h.below.grown (grownBy_putObj' W _ _) h.below.size (fun j e => by cases e; exact hk)⟩
theorem info3' : ∃ i, Tryd.prog.info? 3 = some i ∧ i.zero = some (.int .i64 0) ∧ i.size = 1 ∧ i.bytes = 8 := by
  obtain ⟨i, h1, h2, h3, h4⟩ := info_parts info3
  exact ⟨i, h1, h2, h3, h4⟩
set_option maxRecDepth 100000 in
set_option maxHeartbeats 2000000 in
theorem all_in (m : Nat) (hm : 4 ≤ m) (s : ByteArray) (hs : s.size ≤ 1000000) (w : World) (hT : Tabs w) :
    CallsIn Fence.wide m Tryd.prog 43 #[.string s] w fun e w' => ∃ v : Value, e = .returned v ∧ w'.ownsRow w.heap.size 3 1 v (allU s).length (cells (allU s)) ∧ Below w.heap.size w w' := by
  obtain ⟨i0, hi, hz0, hz1, hz2⟩ := info3'
  refine callsIn_of_wp_marks Tryd.func43 rfl trivial ?_ rfl
  simp only [Tryd.ntmps43, List.size_toArray, List.length_cons, List.length_nil, Nat.reduceAdd, Nat.reduceSub, Array.replicate_succ, Array.replicate_zero, List.push_toArray, List.append_toArray, List.nil_append, List.cons_append]
  gi_wp2_with (gi_at_call 57; refine (points_in _ s _).mono ?_; rintro e w' ⟨rfl, rfl⟩)
  have e1 : Boxed (w.alloc (.cells #[.slice none 0 0] 47)) w.heap.size 47 (.slice none 0 0) := Boxed.new w 47 _
  have e2 : Boxed ((w.alloc (.cells #[.slice none 0 0] 47)).alloc (.cells #[.string s] 9)) (w.heap.size + 1) 9 (.string s) := by
    have := Boxed.new (w.alloc (.cells #[.slice none 0 0] 47)) 9 (.string s)
    rwa [World.size_alloc] at this
  have hsz : ((w.alloc (.cells #[.slice none 0 0] 47)).alloc (.cells #[.string s] 9)).heap.size = w.heap.size + 2 := by simp
  refine range60 m (by omega) (w.heap.size + 1) s hs rfl rfl e2 (AllAt w w.heap.size) (fun _ _ => False)
    (fun pre W h => hT.below h.below) (fun pre W W' h hb => h.under hb) (fun pre W t u h hb => h.text (by omega) hb) (fun pre W k o o' h hk ho hc => h.put (by omega) ho hc) (fun _ _ _ _ _ h => h.elim)
    ⟨⟨_, e1.alloc _, World.ownsRow_nil _ _ _ _⟩, ((Below.refl _ w).alloc (Nat.le_refl _) _).alloc (by simp) _⟩
    (fun x => { tmps := #[.string s, undef, .slice none 0 0, .pointer (some ⟨w.heap.size, 0, none⟩), .int .i64 x, .string s, .func (.func 60) #[] #[.pointer (some ⟨w.heap.size + 1, 0, none⟩)], .int .i64 x, undef, undef, undef, undef, undef], defers := [] }) ?assign ?body ?done ?stop
  case assign =>
    intro l x W K hK
    gi_wp2
    exact hK
  case body =>
    rintro l pre x W h hlen
    obtain ⟨v, hv, hrow⟩ := h.box
    have hn := h.below.size
    have hc := hv.cell
    have hf := hv.frozen
    have HV := Aside0.mk hv
    have HB := Aside0.mk h.below
    clear hv h e1 e2
    gi_wp2_with (gi_at_builtin; refine wpListIn_append_own _ rfl _ _ 47 rfl w.heap.size 3 i0 (.int .i64 0) 1 8 Tryd.underlying47 hi hz0 hz1 hz2 rfl (by decide) _ _ _ rfl (hrow.alloc _) ⟨W.heap.size, 0, none⟩ 1 1 [.int .i64 x] rfl rfl (cell_one_new _ _ _) (by simp [Value.oneCell']) (by unfold maxLen; omega) (by omega) (by simp; omega) ?_; intro v' w3 hown' hg3 hnil3; clear hnil3; obtain ⟨g, cap, hq⟩ := ownsRow_succ hown'; rw [hq]; rw [hq] at hown'; clear hq; have HA := Aside0.mk (HV.out.appended (by decide) hrow hn (Nat.le_refl _) hown' hg3); have HO := Aside0.mk hown'; have HG := Aside0.mk hg3; have hc3 := HA.out.1.cell; have hf3 := HA.out.1.frozen; clear hown' hg3 hc hf)
    obtain ⟨a1, a2, a3, a4, a5⟩ := HA.out
    refine ⟨a4.from _, fun t ht => ((ht.alloc _).kept HG.out (ht.not_row (by decide) hrow)).kept (grownBy_setCell' _ _ _) (by simp), ⟨⟨_, a2, ?_⟩, HB.out.trans a5⟩⟩
    have ec : cells (pre ++ [x]) = cells pre ++ [.int .i64 x] := by simp [cells]
    rw [List.length_append, ec]
    exact a3
  case done =>
    intro D W hD h hK
    have hD2 : w.heap.size ≤ D := by omega
    clear hD
    obtain ⟨v, hv, hrow⟩ := h.box
    have hc := hv.cell
    have hf := hv.frozen
    have HROW := Aside0.mk hrow
    have HB := Aside0.mk h.below
    have HK := Aside0.mk hK
    clear hv h hrow hK e1 e2
    gi_wp2
    refine ⟨by simp, .inl ⟨_, _, rfl, run_takeDeferred HK.out, ?_⟩⟩
    exact ⟨_, results_tmp rfl _ _ _, _, rfl, ownsRow_putObj HROW.out _ HK.out rfl, HB.out.grown (grownBy_putObj' W _ _) HB.out.size (fun k e => by cases e; omega)⟩
  case stop =>
    rintro D pre rest W _ _ h _
    exact h.elim
/-! ### Valid -/
/-- Between two rounds of Valid's loop; and where it was left. -/
structure VAt (w0 : World) (B : Nat) (pre : List Int) (W : World) : Prop where
  box : ∃ v, Boxed W B 4 v
  sign : ∀ x ∈ pre, 0 ≤ x
  below : Below w0.heap.size w0 W
structure VEx (w0 : World) (B : Nat) (pre : List Int) (W : World) : Prop where
  box : Boxed W B 4 (.bool false)
  sign : ∃ x ∈ pre, ¬ 0 ≤ x
  below : Below w0.heap.size w0 W
theorem VAt.under {w0 : World} {B : Nat} {pre : List Int} {W W' : World} (h : VAt w0 B pre W) (hb : Below W.heap.size W W') : VAt w0 B pre W' := by
  obtain ⟨v, hv⟩ := h.box
  exact ⟨⟨v, box_under hv hb⟩, h.sign, below_then h.below h.below.size hb⟩
theorem VAt.text {w0 : World} {B Bs : Nat} {pre : List Int} {W : World} {t u : ByteArray} (h : VAt w0 B pre W) (hB : w0.heap.size ≤ Bs) (ht : Boxed W Bs 9 (.string t)) : VAt w0 B pre (W.setCell ⟨Bs, 0, none⟩ (.string u)) := by
  obtain ⟨v, hv⟩ := h.box
  exact ⟨⟨v, hv.kept (grownBy_setCell' W Bs _) (fun e => box_ne hv ht (by decide) (Option.some.inj e))⟩, h.sign, below_set h.below hB⟩
theorem VAt.put {w0 : World} {B k : Nat} {pre : List Int} {W : World} {o o' : Obj} (h : VAt w0 B pre W) (hk : w0.heap.size ≤ k) (ho : W.heap[k]? = some o) (hc : o.isCells = false) : VAt w0 B pre (W.putObj k o') := by
  obtain ⟨v, hv⟩ := h.box
  exact ⟨⟨v, far_put hv ho hc⟩, h.sign, h.below.grown (grownBy_putObj' W _ _) h.below.size (fun j e => by cases e; exact hk)⟩
theorem VEx.put {w0 : World} {B k : Nat} {pre : List Int} {W : World} {o o' : Obj} (h : VEx w0 B pre W) (hk : w0.heap.size ≤ k) (ho : W.heap[k]? = some o) (hc : o.isCells = false) : VEx w0 B pre (W.putObj k o') :=
  ⟨far_put h.box ho hc, h.sign, h.below.grown (grownBy_putObj' W _ _) h.below.size (fun j e => by cases e; exact hk)⟩
theorem results_bool {tmps : Array Value} {w : World} {B : Nat} {b : Bool} (hp : tmps.getD 2 undef = .pointer (some ⟨B, 0, none⟩)) (hb : Boxed w B 4 (.bool b)) : (results Tryd.f45 tmps).run Tryd.prog w = .ok (.bool b) w := by
  have hp' : tmps[2]?.getD undef = .pointer (some ⟨B, 0, none⟩) := by simpa using hp
  have hc := hb.cell
  have hf := hb.frozen
  have hr : Tryd.f45.results = #[ResultVar.cell 2 4] := rfl
  have hu : Tryd.prog.underlying 4 = some .bool := Tryd.underlying4
  simp [results, hr, hp', asAddr, loadVar, isAgg, hu, hc, go_sem]
set_option maxRecDepth 100000 in
set_option maxHeartbeats 2000000 in
theorem valid_in (m : Nat) (hm : 4 ≤ m) (s : ByteArray) (hs : s.size ≤ 1000000) (w : World) (hT : Tabs w) :
    CallsIn Fence.wide m Tryd.prog 45 #[.string s] w fun e w' => e = .returned (.bool (decide (∀ x ∈ allU s, 0 ≤ x))) ∧ Below w.heap.size w w' := by
  refine callsIn_of_wp_marks Tryd.func45 rfl trivial ?_ rfl
  simp only [Tryd.ntmps45, List.size_toArray, List.length_cons, List.length_nil, Nat.reduceAdd, Nat.reduceSub, Array.replicate_succ, Array.replicate_zero, List.push_toArray, List.append_toArray, List.nil_append, List.cons_append]
  gi_wp2_with (gi_at_call 57; refine (points_in _ s _).mono ?_; rintro e w' ⟨rfl, rfl⟩)
  have e1 : Boxed (w.alloc (.cells #[.bool false] 4)) w.heap.size 4 (.bool false) := Boxed.new w 4 _
  have e2 : Boxed ((w.alloc (.cells #[.bool false] 4)).alloc (.cells #[.string s] 9)) (w.heap.size + 1) 9 (.string s) := by
    have := Boxed.new (w.alloc (.cells #[.bool false] 4)) 9 (.string s)
    rwa [World.size_alloc] at this
  have hsz : ((w.alloc (.cells #[.bool false] 4)).alloc (.cells #[.string s] 9)).heap.size = w.heap.size + 2 := by simp
  refine range60 m (by omega) (w.heap.size + 1) s hs rfl rfl e2 (VAt w w.heap.size) (VEx w w.heap.size)
    (fun pre W h => hT.below h.below) (fun pre W W' h hb => h.under hb) (fun pre W t u h hb => h.text (by omega) hb) (fun pre W k o o' h hk ho hc => h.put (by omega) ho hc) (fun pre W k o o' h hk ho hc => h.put (by omega) ho hc)
    ⟨⟨_, e1.alloc _⟩, (by simp), ((Below.refl _ w).alloc (Nat.le_refl _) _).alloc (by simp) _⟩
    (fun x => { tmps := #[.string s, undef, .pointer (some ⟨w.heap.size, 0, none⟩), .int .i64 x, .string s, .func (.func 60) #[] #[.pointer (some ⟨w.heap.size + 1, 0, none⟩)], .int .i64 x, undef, undef], defers := [] }) ?assign ?body ?done ?stop
  case assign =>
    intro l x W K hK
    gi_wp2
    exact hK
  case body =>
    rintro l pre x W h hlen
    obtain ⟨v, hv⟩ := h.box
    have hc := hv.cell
    have hf := hv.frozen
    have HV := Aside0.mk hv
    have HH := Aside0.mk h
    clear hv h e1 e2
    by_cases hx : 0 ≤ x
    · have hd : decide (x < 0) = false := by simp; omega
      have HX := Aside0.mk hx
      clear hx
      gi_wp2
      refine ⟨KeepsFrom.refl _ _, fun t ht => ht, ⟨⟨_, HV.out⟩, ?_, HH.out.below⟩⟩
      intro y hy
      rcases List.mem_append.mp hy with h | h
      · exact HH.out.sign y h
      · rw [List.mem_singleton.mp h]; exact HX.out
    · have hd : decide (x < 0) = true := by simp; omega
      have HX := Aside0.mk hx
      clear hx
      gi_wp2
      refine ⟨(KeepsOthers.setCell _ _ _).from _, ?_⟩
      exact ⟨HV.out.set _, ⟨x, List.mem_append.mpr (.inr (List.mem_singleton.mpr rfl)), by have := HX.out; omega⟩, below_set HH.out.below (Nat.le_refl _)⟩
  case done =>
    intro D W hD h hK
    have hD2 : w.heap.size ≤ D := by omega
    clear hD
    obtain ⟨v, hv⟩ := h.box
    have hc := hv.cell
    have hf := hv.frozen
    have HV := Aside0.mk hv
    have HH := Aside0.mk h
    have HK := Aside0.mk hK
    clear hv h hK e1 e2
    gi_wp2
    have HB2 := Aside0.mk (HV.out.set (.bool true))
    have hk2 : (W.setCell ⟨w.heap.size, 0, none⟩ (.bool true)).heap[D]? = some (Obj.deferred (some [])) := obj_set _ HV.out HK.out rfl
    have HW2 := Aside0.mk (below_set (v := .bool true) (j := 0) HH.out.below (Nat.le_refl _))
    have HS := Aside0.mk HH.out.sign
    clear hc hf HV HH HK
    refine ⟨by simp, .inl ⟨_, _, rfl, run_takeDeferred hk2, ?_⟩⟩
    refine ⟨_, results_bool rfl (far_put HB2.out hk2 rfl), ?_, HW2.out.grown (grownBy_putObj' _ _ _) HW2.out.size (fun k e => by cases e; exact hD2)⟩
    rw [decide_eq_true HS.out]
  case stop =>
    rintro D pre rest W hD he h hK
    have hD2 : w.heap.size ≤ D := by omega
    clear hD
    have HH := Aside0.mk h
    have HK := Aside0.mk hK
    have HE := Aside0.mk he
    clear h he hK e1 e2
    gi_wp2
    have hk2 := HK.out
    refine ⟨by simp, .inl ⟨_, _, rfl, run_takeDeferred hk2, ?_⟩⟩
    refine ⟨_, results_bool rfl (far_put HH.out.box hk2 rfl), ?_, HH.out.below.grown (grownBy_putObj' _ _ _) HH.out.below.size (fun k e => by cases e; exact hD2)⟩
    rw [decide_eq_false]
    intro hall
    obtain ⟨x, hx, hn⟩ := HH.out.sign
    exact hn (hall x (by rw [← HE.out]; exact List.mem_append.mpr (.inl hx)))
/-! ### as the printed texts want them told -/
def utf_All.f (s : ByteArray) : Option (List Int) := if s.size ≤ 1000000 then some (allU s) else none
def utf_Valid.f (s : ByteArray) : Option Bool := if s.size ≤ 1000000 then some (decide (∀ x ∈ allU s, 0 ≤ x)) else none
theorem row_of_ints {W : World} {base : Nat} {v : Value} {l : List Int} (h : W.ownsRow base 3 1 v l.length (cells l)) : Kd.R (Kd.int .i64) 3 W base (fun _ => True) v l := by
  refine ⟨fun _ _ => trivial, cells l, h, ⟨by rw [show (Kd.int .i64).sz = 1 from rfl]; simp [cells], fun j p hp => ?_⟩⟩
  have e : ((cells l).drop (j * 1)).take 1 = [.int .i64 p] := by
    have hj := (List.getElem?_eq_some_iff.1 hp).1
    have he := (List.getElem?_eq_some_iff.1 hp).2
    rw [Nat.mul_one]
    apply List.ext_getElem?
    intro n
    rw [List.getElem?_take, List.getElem?_drop]
    cases n with
    | zero => simp [cells, hp]
    | succ n => simp
  show (Kd.int .i64).M W base _ p (((cells l).drop (j * 1)).take 1)
  rw [e]
  rfl
theorem utf_All.calls (a0 : ByteArray) (r : List Int) (w : World) (hrG2 : Kd.C (Kd.int .u8) w (some ⟨2, 0, none⟩) tab_utf8_first.length tab_utf8_first) (hrG3 : Kd.C k69 w (some ⟨3, 0, none⟩) tab_utf8_acceptRanges.length tab_utf8_acceptRanges) (h : utf_All.f a0 = some r) :
    Calls Tryd.prog 43 #[.string a0] w fun e w' => ∃ v0_ : Value, e = .returned (v0_) ∧ Kd.R (Kd.int .i64) 3 w' w.heap.size (fun _ => True) v0_ r ∧ Below w.heap.size w w' := by
  unfold utf_All.f at h
  by_cases hs : a0.size ≤ 1000000
  · rw [if_pos hs] at h
    obtain rfl := Option.some.inj h
    refine (callsIn_wide.1 (all_in 9 (by omega) a0 hs w ⟨hrG2, hrG3⟩)).mono ?_
    rintro e w' ⟨v, rfl, hr, hb⟩
    exact ⟨v, rfl, row_of_ints hr, hb⟩
  · rw [if_neg hs] at h
    cases h
theorem utf_Valid.calls (a0 : ByteArray) (r : Bool) (w : World) (hrG2 : Kd.C (Kd.int .u8) w (some ⟨2, 0, none⟩) tab_utf8_first.length tab_utf8_first) (hrG3 : Kd.C k69 w (some ⟨3, 0, none⟩) tab_utf8_acceptRanges.length tab_utf8_acceptRanges) (h : utf_Valid.f a0 = some r) :
    Calls Tryd.prog 45 #[.string a0] w fun e w' => e = .returned (.bool r) ∧ Below w.heap.size w w' := by
  unfold utf_Valid.f at h
  by_cases hs : a0.size ≤ 1000000
  · rw [if_pos hs] at h
    obtain rfl := Option.some.inj h
    exact callsIn_wide.1 (valid_in 9 (by omega) a0 hs w ⟨hrG2, hrG3⟩)
  · rw [if_neg hs] at h
    cases h
end Go.Proofs.YtfknoaokoncneaaDoor.HandAll

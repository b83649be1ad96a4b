/- A set folded: what fold.Set tells, off the table of rows. Condition: a bound on how many ranges there are. -/
import Derived.Test.YtfknoaokoncneabDoorHandOther
import Derived.Test.YtfknoaokoncneabDoorHandUnion
import Derived.Test.YtfknoaokoncneabDoorPfR
set_option linter.unusedSimpArgs false
set_option linter.unusedVariables false
namespace Go.Proofs.YtfknoaokoncneabDoor.HandSet
open Go.RowKit Go.Shelf Go.Proofs.YtfknoaokoncneabDoorW.PrintWords Go.Proofs.YtfknoaokoncneabDoorW.PrintLast Go.Proofs.YtfknoaokoncneabDoorW.PrintMore Go.Proofs.YtfknoaokoncneabDoor.PF Go.Proofs.YtfknoaokoncneabDoor.Sets Go.Proofs.YtfknoaokoncneabDoor.Heap Go.Proofs.YtfknoaokoncneabDoor.HandThr Go.Proofs.YtfknoaokoncneabDoor.PlF Go.Proofs.YtfknoaokoncneabDoor.HandOther Go.Proofs.YtfknoaokoncneabDoor.HandOf Go.Proofs.YtfknoaokoncneabDoor.HandUnion Go.Proofs.YtfknoaokoncneabDoor.PfR
theorem info27 : (Tryd.prog.info? 27).map (fun i => (i.zero, i.size, i.bytes)) = some (some (.slice none 0 0), 1, 24) := by kernel_rfl
theorem row_form {α : Type} {d : Kd α} {e base : Nat} {ok : Nat → Prop} {w : World} {v : Value} {xs : List α} (h : d.R e w base ok v xs) : ∃ A c, v = .slice A xs.length c ∧ xs.length ≤ c ∧ d.C w A xs.length xs := by
  obtain ⟨A, c, rfl⟩ := own_slice h.2.choose_spec.1
  obtain ⟨h1, h2, h3⟩ := Kd.R_reads' h
  exact ⟨A, c, rfl, by omega, h3⟩
/-- Two rows, just laid side by side. -/
theorem two_rows (W : World) (base : Nat) (v v1 v2 : Value) (La Lb : List S33) (h1 : Kd.R k33 33 W base (fun k => some k ≠ v.ownBlock) v1 La) (h2 : Kd.R k33 33 W base (fun k => some k ≠ v.ownBlock) v2 Lb) :
    ReadsRow (fun x cs => (Kd.slice 33 k33).M (W.alloc (.cells #[v1, v2] 27)) base (fun k => some k ≠ v.ownBlock) x cs) (Kd.slice 33 k33).sz (W.alloc (.cells #[v1, v2] 27)) (some ⟨W.heap.size, 0, none⟩) 2 [La, Lb] := by
  refine ⟨rfl, by omega, fun _ => ⟨_, rfl, fun j p hp => ?_⟩⟩
  match j, hp with
  | 0, hp =>
    obtain rfl := Option.some.inj hp
    refine ⟨[v1], rfl, ⟨v1, rfl, Kd.R_alloc h1 _⟩, fun i u hu => ?_⟩
    match i, hu with
    | 0, hu => obtain rfl := Option.some.inj hu; exact new_cell W 27 #[v1, v2] 0 v1 rfl
    | i + 1, hu => simp at hu
  | 1, hp =>
    obtain rfl := Option.some.inj hp
    refine ⟨[v2], rfl, ⟨v2, rfl, Kd.R_alloc h2 _⟩, fun i u hu => ?_⟩
    match i, hu with
    | 0, hu => obtain rfl := Option.some.inj hu; rw [add_plain]; exact new_cell W 27 #[v1, v2] 1 v2 rfl
    | i + 1, hu => simp at hu
  | j + 2, hp => simp at hp
/-- One row of rows, just laid. -/
theorem one_rows (W : World) (base : Nat) (hb : base ≤ W.heap.size) (v : Value) (m : List S33) (h : Kd.R k33 33 W base (fun _ => True) v m) :
    Kd.R (Kd.slice 33 k33) 27 (W.alloc (.cells #[v] 27)) base (fun _ => True) (.slice (some ⟨W.heap.size, 0, none⟩) 1 1) [m] := by
  refine ⟨fun _ _ => trivial, [v], World.ownsRow_lit W #[v] 1 hb (by unfold maxLen; omega) rfl, ⟨rfl, fun j p hp => ?_⟩⟩
  match j, hp with
  | 0, hp =>
    obtain rfl := Option.some.inj hp
    exact ⟨v, rfl, Kd.R_alloc (Kd.R_mono (Kd.R_bound h) (fun k hk => ⟨trivial, fun e => by have e2 : k = W.heap.size := Option.some.inj e; have := hk.2.2.1; omega⟩)) _⟩
  | j + 1, hp => simp at hp
theorem parts_snoc (qs : List S35) (q : S35) (m : List S33) : partsL (qs ++ [q]) m = partsL qs m ++ [thr (smallR q) m, thr (greatR q) m] := by
  unfold partsL
  rw [List.flatMap_append]
  rfl
theorem parts_n (qs : List S35) (m : List S33) : (partsL qs m).length = 1 + 2 * qs.length := by
  induction qs with
  | nil => rfl
  | cons q qs ih =>
    unfold partsL at ih ⊢
    rw [List.flatMap_cons, List.length_cons, List.length_append, List.length_cons] at *
    simp only [List.length_cons, List.length_nil] at *
    omega
theorem take_row (j : Nat) (h : j < 7) : tab_fold_rows.take (j + 1) = tab_fold_rows.take j ++ [rd_T35 tab_fold_rows (j : Int)] := by
  rw [List.take_succ_eq_append_getElem (show j < tab_fold_rows.length from h), show rd_T35 tab_fold_rows (j : Int) = tab_fold_rows.getD j z35 from rfl, List.getD_eq_getElem?_getD, List.getElem?_eq_getElem (show j < tab_fold_rows.length from h)]
  rfl
set_option maxRecDepth 100000 in
set_option maxHeartbeats 1000000 in
theorem set_calls (A0 : Option Addr) (c0 : Nat) (l0 : List S33) (w : World) (hl : l0.length < 100000000) (hr0 : Kd.C k33 w A0 l0.length l0) (hc0 : l0.length ≤ c0) (hr : Kd.C k35 w (some ⟨0, 0, none⟩) tab_fold_rows.length tab_fold_rows) :
    Calls Tryd.prog 11 #[.slice A0 l0.length c0] w fun e w' => ∃ v : Value, e = .returned v ∧ Kd.R k33 33 w' w.heap.size (fun _ => True) v (foldL l0) ∧ Below w.heap.size w w' := by
  have HOF := Aside0.mk (of_calls A0 c0 l0 w (by omega) hr0 hc0)
  have hml := ofL_len l0
  obtain ⟨m, hm⟩ : ∃ m, ofL l0 = m := ⟨_, rfl⟩
  have HF : Aside0 (foldL l0 = ofL (partsL tab_fold_rows m).flatten) := ⟨by rw [foldL, hm]⟩
  rw [hm] at HOF hml
  have HM := Aside0.mk (show m.length < 8796093022208 by omega)
  have HM1 := Aside0.mk (show m.length < 100000000 by omega)
  have HT := Aside0.mk (tab_cells w hr)
  clear hr hr0 hl hc0 hml hm
  go_enter Tryd.func11, Tryd.ntmps11
  go_wp2_with (first | (go_at_call 21; refine HOF.out.mono ?_; rintro e W1 ⟨v0, rfl, hv, hb⟩; obtain ⟨Am, cm, rfl, hlc, hC⟩ := R_form hv; have HV := Aside0.mk hv; have HM0 := Aside0.mk hlc; have HB1 := Aside0.mk hb; clear hv hb hlc hC) | (refine wpList_load_cells (o := ⟨some 10, _, _, _, _, _⟩) rfl 36 _ rfl ⟨0, 0, none⟩ (by rfl) tabCells _ (fun j v hj => (((HB1.out.alloc HB1.out.size _).cell (p := (⟨0, 0, none⟩ : Addr).add j) (World.block_lt_of_cell? w _ (HT.out j v hj))).trans (HT.out j v hj))) Tryd.underlying36 rfl (by kernel_rfl) ?_))
  go_loopw [3, 11] (fun vo vj wr => ∃ (j : Nat), vj = .int .i64 (j : Int) ∧ Aside0 (j ≤ 7) ∧ Aside0 (Kd.R (Kd.slice 33 k33) 27 wr w.heap.size (fun _ => True) vo (partsL (tab_fold_rows.take j) m)) ∧ Aside0 (Kd.R k33 33 wr w.heap.size (fun _ => True) (.slice Am m.length cm) m) ∧ Aside0 (Below w.heap.size w wr))
    (fun _ vj _ => measO vj)
  case atStart => exact ⟨0, rfl, ⟨by omega⟩, ⟨one_rows W1 w.heap.size HB1.out.size _ m HV.out⟩, ⟨Kd.R_alloc HV.out _⟩, ⟨HB1.out.alloc HB1.out.size _⟩⟩
  case round =>
    clear HB1 HV
    obtain ⟨j, rfl, HJ, HO, HV, HB1⟩ := hrel
    obtain ⟨Ao, co, e1, hoc, _⟩ := row_form HO.out
    subst e1
    by_cases hj : j < 7
    · have d1 : decide ((j : Int) < 7) = true := decide_eq_true (by omega)
      have hidx := row_at j hj
      have htk := take_row j hj
      have hpl := parts_n (tab_fold_rows.take j) m
      rw [List.length_take, show min j tab_fold_rows.length = j by show min j 7 = j; omega] at hpl
      obtain ⟨q, hq'⟩ : ∃ q, rd_T35 tab_fold_rows (j : Int) = q := ⟨_, rfl⟩
      rw [hq'] at hidx htk
      have HX : Aside0 (j < 7 ∧ partsL (tab_fold_rows.take (j + 1)) m = partsL (tab_fold_rows.take j) m ++ [thr (smallR q) m, thr (greatR q) m] ∧ (partsL (tab_fold_rows.take j) m).length ≤ 15) := ⟨hj, by rw [htk, parts_snoc], by omega⟩
      have hj1 : wrap64 ((j : Int) + 1) = ((j + 1 : Nat) : Int) := by unfold wrap64; omega
      clear hq' hj htk hpl HJ hoc
      go_wp2_with fail
      obtain ⟨B, hBe⟩ : ∃ B, B = wr.heap.size := ⟨_, rfl⟩
      have hp0 : (wr.alloc (.cells #[.int .i64 q.f0, .int .i64 q.f1, .int .i64 q.f2] 35)).cell? ⟨wr.heap.size, 0, none⟩ = some (.int .i64 q.f0) := new_cell _ _ _ _ _ rfl
      have hp1 : (wr.alloc (.cells #[.int .i64 q.f0, .int .i64 q.f1, .int .i64 q.f2] 35)).cell? ⟨wr.heap.size, 1, none⟩ = some (.int .i64 q.f1) := new_cell _ _ _ _ _ rfl
      have hp2 : (wr.alloc (.cells #[.int .i64 q.f0, .int .i64 q.f1, .int .i64 q.f2] 35)).cell? ⟨wr.heap.size, 2, none⟩ = some (.int .i64 q.f2) := new_cell _ _ _ _ _ rfl
      have HBL : Aside0 (wr.heap.size < (wr.alloc (.cells #[.int .i64 q.f0, .int .i64 q.f1, .int .i64 q.f2] 35)).heap.size) := ⟨by simp⟩
      have HV0 := Aside0.mk (Kd.R_alloc HV.out (.cells #[.int .i64 q.f0, .int .i64 q.f1, .int .i64 q.f2] 35))
      have HO2 := Aside0.mk (Kd.R_alloc HO.out (.cells #[.int .i64 q.f0, .int .i64 q.f1, .int .i64 q.f2] 35))
      have HB2 := Aside0.mk (HB1.out.alloc HB1.out.size (.cells #[.int .i64 q.f0, .int .i64 q.f1, .int .i64 q.f2] 35))
      rw [← hBe] at hp0 hp1 hp2 HBL ⊢
      clear hidx hBe HO HV HB1
      generalize wr.alloc (.cells #[.int .i64 q.f0, .int .i64 q.f1, .int .i64 q.f2] 35) = W2 at hp0 hp1 hp2 HBL HV0 HO2 HB2 ⊢
      refine start_ (n := 12) (S := fun w' => w'.cell? ⟨B, 0, none⟩ = some (.int .i64 q.f0) ∧ w'.cell? ⟨B, 1, none⟩ = some (.int .i64 q.f1) ∧ w'.cell? ⟨B, 2, none⟩ = some (.int .i64 q.f2)) (ds := [8, 9, 10]) #[false, false, false, false, false, false, false, false, false, false, false, false] (by kernel_rfl) rfl rfl ⟨hp0, hp1, hp2⟩ (fun hHeld => ?_)
      have HV00 := Aside0.mk (Kd.R_drew HV0.out)
      have HO20 := Aside0.mk (Kd.R_drew HO2.out)
      have HB20 := Aside0.mk (below_drew HB2.out)
      have HBL0 : Aside0 (B < W2.drew.heap.size) := HBL
      replace hp0 : W2.drew.cell? ⟨B, 0, none⟩ = some (.int .i64 q.f0) := hp0
      replace hp1 : W2.drew.cell? ⟨B, 1, none⟩ = some (.int .i64 q.f1) := hp1
      replace hp2 : W2.drew.cell? ⟨B, 2, none⟩ = some (.int .i64 q.f2) := hp2
      clear HO2 HB2 HBL HV0
      generalize W2.drew = W20 at HO20 HB20 HBL0 HV00 hp0 hp1 hp2 hHeld ⊢
      have HO2 := HO20
      have HB2 := HB20
      have HBL := HBL0
      have HV0 := HV00
      clear HO20 HB20 HBL0 HV00
      refine pure_ (i := 0) (N := some 14) (v := ?_) (a' := ?_) #[true, false, false, false, false, false, false, false, false, false, false, false] rfl rfl (by kernel_rfl) (fun _ _ _ h => h) (Or.inl ⟨by rfl, ?_⟩) ?_ ?_
      rotate_left
      · intro w'
        go_simp
        with_reducible rfl
      rotate_left
      · simp only [Act.put, List.setIfInBounds_toArray, List.set_cons_zero, List.set_cons_succ, i64_w, i32_w]
        rfl
      refine pure_ (i := 1) (N := some 15) (v := ?_) (a' := ?_) #[true, true, false, false, false, false, false, false, false, false, false, false] rfl rfl (by kernel_rfl) (fun _ _ _ h => h) (Or.inl ⟨by rfl, ?_⟩) ?_ ?_
      rotate_left
      · intro w'
        go_simp
        with_reducible rfl
      rotate_left
      · simp only [Act.put, List.setIfInBounds_toArray, List.set_cons_zero, List.set_cons_succ, i64_w, i32_w]
        rfl
      refine pure_ (i := 5) (N := some 19) (v := ?_) (a' := ?_) #[true, true, false, false, false, true, false, false, false, false, false, false] rfl rfl (by kernel_rfl) (fun _ _ _ h => h) (Or.inl ⟨by rfl, ?_⟩) ?_ ?_
      rotate_left
      · intro w'
        go_simp
        with_reducible rfl
      rotate_left
      · simp only [Act.put, List.setIfInBounds_toArray, List.set_cons_zero, List.set_cons_succ, i64_w, i32_w]
        rfl
      refine take_ (i := 2) (N := some 16) (v := ?_) (a' := ?_) #[true, true, true, false, false, true, false, false, false, false, false, false] rfl rfl (by kernel_rfl) (fun _ _ _ h => h) (Or.inl ⟨by rfl, ?_⟩) hHeld ?_ ?_
      rotate_left
      · rintro w' ⟨s0, s1, s2⟩
        go_simp
        with_reducible rfl
      rotate_left
      · simp only [Act.put, List.setIfInBounds_toArray, List.set_cons_zero, List.set_cons_succ, i64_w, i32_w]
        rfl
      refine pure_ (i := 3) (N := some 17) (v := ?_) (a' := ?_) #[true, true, true, true, false, true, false, false, false, false, false, false] rfl rfl (by kernel_rfl) (fun _ _ _ h => h) (Or.inl ⟨by rfl, ?_⟩) ?_ ?_
      rotate_left
      · intro w'
        go_simp
        with_reducible rfl
      rotate_left
      · simp only [Act.put, List.setIfInBounds_toArray, List.set_cons_zero, List.set_cons_succ, i64_w, i32_w]
        rfl
      refine take_ (i := 6) (N := some 20) (v := ?_) (a' := ?_) #[true, true, true, true, false, true, true, false, false, false, false, false] rfl rfl (by kernel_rfl) (fun _ _ _ h => h) (Or.inl ⟨by rfl, ?_⟩) hHeld ?_ ?_
      rotate_left
      · rintro w' ⟨s0, s1, s2⟩
        go_simp
        with_reducible rfl
      rotate_left
      · simp only [Act.put, List.setIfInBounds_toArray, List.set_cons_zero, List.set_cons_succ, i64_w, i32_w]
        rfl
      refine pure_ (i := 7) (N := some 21) (v := ?_) (a' := ?_) #[true, true, true, true, false, true, true, true, false, false, false, false] rfl rfl (by kernel_rfl) (fun _ _ _ h => h) (Or.inl ⟨by rfl, ?_⟩) ?_ ?_
      rotate_left
      · intro w'
        go_simp
        with_reducible rfl
      rotate_left
      · simp only [Act.put, List.setIfInBounds_toArray, List.set_cons_zero, List.set_cons_succ, i64_w, i32_w]
        rfl
      refine one_ (i := 4) (N := some 18) #[true, true, true, true, true, true, true, true, false, false, false, false] rfl rfl (by kernel_rfl) (by decide) (fun K hK => ?_)
      refine goes_ Tryd.func17 (by kernel_rfl) rfl #[.slice Am m.length cm, .func (.func 18) #[.agg #[.int .i64 q.f0, .int .i64 q.f1, .int .i64 q.f2]] #[]] (by rfl) rfl rfl (by simp only [List.map_toArray, List.map_cons, List.map_nil]; rfl) ?_
      with_reducible refine (small_thr q Am cm m _ HM.out (Kd.R_reads' HV0.out).2.2 HM0.out).mono ?_
      rintro e W3 ⟨v1, rfl, hv1, hb1⟩
      obtain ⟨A1, c1, rfl, hl1, hC1⟩ := R_form hv1
      have HB3 := Aside0.mk hb1
      have hq0 := (hb1.cell (p := ⟨B, 0, none⟩) HBL.out).trans hp0
      have hq1 := (hb1.cell (p := ⟨B, 1, none⟩) HBL.out).trans hp1
      have hq2 := (hb1.cell (p := ⟨B, 2, none⟩) HBL.out).trans hp2
      have HV1 := Aside0.mk (Kd.R_lower (Kd.R_mono (Kd.R_newR hv1 HO2.out) (fun _ hk => hk.2)) HB2.out.size)
      have HV03 := Aside0.mk (Kd.R_below HV0.out hb1)
      have HO3 := Aside0.mk (Kd.R_below HO2.out hb1)
      have HB3 := Aside0.mk (below_then HB2.out HB2.out.size hb1)
      clear hv1 hb1 hl1 hC1
      refine ⟨_, rfl, ?_⟩
      refine hK.out _ _ ⟨hq0, hq1, hq2⟩ (fun hHeld => ?_)
      clear hK K
      refine norm_ (a' := ?_) ?_ ?_
      rotate_left
      · show Act.put _ (some 18) _ = _
        simp only [Act.put, List.setIfInBounds_toArray, List.set_cons_zero, List.set_cons_succ, i64_w, i32_w]
        rfl
      refine last_ (i := 8) (N := some 22) #[true, true, true, true, true, true, true, true, true, false, false, false] rfl rfl (by kernel_rfl) (by decide) (fun K hK => ?_)
      refine goes_ Tryd.func17 (by kernel_rfl) rfl #[.slice Am m.length cm, .func (.func 19) #[.agg #[.int .i64 q.f0, .int .i64 q.f1, .int .i64 q.f2]] #[]] (by rfl) rfl rfl (by simp only [List.map_toArray, List.map_cons, List.map_nil]; rfl) ?_
      with_reducible refine (great_thr q Am cm m _ HM.out (Kd.R_reads' HV03.out).2.2 HM0.out).mono ?_
      rintro e W4 ⟨v2, rfl, hv2, hb2⟩
      obtain ⟨A2, c2, rfl, hl2, hC2⟩ := R_form hv2
      have HV2 := Aside0.mk (Kd.R_lower (Kd.R_mono (Kd.R_newR hv2 HO3.out) (fun _ hk => hk.2)) HB3.out.size)
      have HV14 := Aside0.mk (Kd.R_below HV1.out hb2)
      have HV04 := Aside0.mk (Kd.R_below HV03.out hb2)
      have HO4 := Aside0.mk (Kd.R_below HO3.out hb2)
      have HB4 := Aside0.mk (below_then HB3.out HB3.out.size hb2)
      clear hv2 hb2 hl2 hC2
      refine ⟨_, rfl, ?_⟩
      refine hK.out _ _ ?_
      clear hK K
      refine norm_ (a' := ?_) ?_ ?_
      rotate_left
      · show Act.put _ (some 22) _ = _
        simp only [Act.put, List.setIfInBounds_toArray, List.set_cons_zero, List.set_cons_succ, i64_w, i32_w]
        rfl
      refine last_ (i := 9) (N := some 23) #[true, true, true, true, true, true, true, true, true, true, false, false] rfl rfl (by kernel_rfl) (by decide) (fun K hK => ?_)
      refine value_ (w1 := ?_) (v := ?_) (by rfl) rfl ?_ ?_
      rotate_left 2
      · go_simp
        constructor
        · rfl
        · rfl
      refine hK.out _ _ ?_
      clear hK K
      refine norm_ (a' := ?_) ?_ ?_
      rotate_left
      · show Act.put _ (some 23) _ = _
        simp only [Act.put, List.setIfInBounds_toArray, List.set_cons_zero, List.set_cons_succ, i64_w, i32_w]
        rfl
      refine last_ (i := 10) (N := some 24) #[true, true, true, true, true, true, true, true, true, true, true, false] rfl rfl (by kernel_rfl) (by decide) (fun K hK => ?_)
      refine Kd.R_append_rows_step (Kd.slice 33 k33) (w0 := w) w.heap.size (by rfl) (.tmp 14) (.tmp 23) 40 27 (.slice none 0 0) 24 rfl Tryd.underlying40 info27 rfl (by decide) (by omega) _ (partsL (tab_fold_rows.take j) m) [thr (smallR q) m, thr (greatR q) m] _ 2 2 (fun _ => True) _ rfl rfl (Kd.R_alloc HO4.out _) (two_rows _ _ _ _ _ _ _ HV14.out HV2.out) (fun _ _ h => h) (fun _ hk => ⟨trivial, hk⟩) (fun _ _ => trivial) (HB4.out.alloc HB4.out.size _) (HB4.out.alloc HB4.out.size _).size (by have := HX.out.2.2; omega) ?_
      intro v3 W5 ho hb hg hat
      have HV5 := Aside0.mk (Kd.R_over (Kd.R_alloc HV04.out _) (Kd.R_alloc HO4.out _) (by decide) hg)
      have HO5 := Aside0.mk ho
      have HB5 := Aside0.mk hb
      clear ho hb hg hat
      refine hK.out _ _ ?_
      clear hK K
      refine norm_ (a' := ?_) ?_ ?_
      rotate_left
      · show Act.put _ (some 24) _ = _
        simp only [Act.put, List.setIfInBounds_toArray, List.set_cons_zero, List.set_cons_succ, i64_w, i32_w]
        rfl
      refine pure_ (i := 11) (N := some 3) (v := ?_) (a' := ?_) #[true, true, true, true, true, true, true, true, true, true, true, true] rfl rfl (by kernel_rfl) (fun _ _ _ h => h) (Or.inl ⟨by rfl, ?_⟩) ?_ ?_
      rotate_left
      · intro w'
        go_simp
        with_reducible rfl
      rotate_left
      · simp only [Act.put, List.setIfInBounds_toArray, List.set_cons_zero, List.set_cons_succ, i64_w, i32_w]
        rfl
      refine done_ (by kernel_rfl) ?_

      go_wp2_with fail
      constructor
      · exact ⟨j + 1, congrArg (Value.int .i64) hj1, ⟨by have := HX.out.1; omega⟩, ⟨by rw [HX.out.2.1]; exact HO5.out⟩, HV5, HB5⟩
      · have := HX.out.1
        rw [hj1]; unfold measO; simp [intOf]; omega
    · have d1 : decide ((j : Int) < 7) = false := decide_eq_false (by omega)
      have hall : tab_fold_rows.take j = tab_fold_rows := List.take_of_length_le (show tab_fold_rows.length ≤ j by show 7 ≤ j; omega)
      rw [hall] at HO hoc ⊢
      have hpl := parts_len tab_fold_rows m
      have HL : Aside0 ((partsL tab_fold_rows m).flatten.length < 8796093022208) := ⟨by have := HM1.out; rw [show tab_fold_rows.length = 7 from rfl] at hpl; omega⟩
      have HUF := Aside0.mk (ranges_Union.calls Ao co (partsL tab_fold_rows m) (ofL (partsL tab_fold_rows m).flatten) wr (Kd.R_reads' HO.out).2.2 hoc (by unfold ranges_Union.f; rw [if_pos HL.out]))
      clear hj hall hpl hoc HJ HL
      generalize partsL tab_fold_rows m = rows at HO HUF HF ⊢
      go_wp2_with (go_at_call 22; refine HUF.out.mono ?_; rintro e W6 ⟨v6, rfl, hv, hb⟩; have HV6 := Aside0.mk (Kd.R_lower hv HB1.out.size); have HB6 := Aside0.mk (below_then HB1.out HB1.out.size hb); clear hv hb)
      go_ret
      exact ⟨_, rfl, by rw [HF.out]; exact HV6.out, HB6.out⟩
/-- A set folded, as the printed texts want it told. -/
def fold_Set.f (l : List S33) : Option (List S33) := if l.length < 100000000 then some (foldL l) else none
theorem fold_Set.calls (A0 : Option Addr) (c0 : Nat) (l0 : List S33) (r : List S33) (w : World) (hr0 : Kd.C k33 w A0 l0.length l0) (hc0 : l0.length ≤ c0) (hrG0 : Kd.C k35 w (some ⟨0, 0, none⟩) tab_fold_rows.length tab_fold_rows) (h : fold_Set.f l0 = some r) :
    Calls Tryd.prog 11 #[.slice A0 l0.length c0] w fun e w' => ∃ v0_ : Value, e = .returned (v0_) ∧ Kd.R k33 33 w' w.heap.size (fun _ => True) v0_ r ∧ Below w.heap.size w w' := by
  unfold fold_Set.f at h
  split at h
  · obtain rfl := Option.some.inj h
    exact set_calls A0 c0 l0 w (by assumption) hr0 hc0 hrG0
  · cases h
end Go.Proofs.YtfknoaokoncneabDoor.HandSet

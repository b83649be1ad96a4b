/- The other one of a pair of letters: what fold.Other tells, off its table of rows. No condition. -/
import Derived.Test.YtfknoaokoncneabDoorHandThr
import Derived.Test.YtfknoaokoncneabDoorPlF
import Derived.LoopN
set_option linter.unusedSimpArgs false
set_option linter.unusedVariables false
namespace Go.Proofs.YtfknoaokoncneabDoor.HandOther
open Go.RowKit Go.Shelf Go.Proofs.YtfknoaokoncneabDoorW.PrintWords Go.Proofs.YtfknoaokoncneabDoorW.PrintLast Go.Proofs.YtfknoaokoncneabDoorW.PrintMore Go.Proofs.YtfknoaokoncneabDoor.PF Go.Proofs.YtfknoaokoncneabDoor.Sets Go.Proofs.YtfknoaokoncneabDoor.Heap Go.Proofs.YtfknoaokoncneabDoor.HandThr Go.Proofs.YtfknoaokoncneabDoor.PlF
def tabCells : List Value := [.int .i64 65, .int .i64 90, .int .i64 32, .int .i64 192, .int .i64 214, .int .i64 32, .int .i64 216, .int .i64 222, .int .i64 32, .int .i64 913, .int .i64 929, .int .i64 32, .int .i64 931, .int .i64 939, .int .i64 32, .int .i64 1024, .int .i64 1039, .int .i64 80, .int .i64 1040, .int .i64 1071, .int .i64 32]
def tabAgg : Value := .agg tabCells.toArray
section
variable {P : Program}
theorem run_loadVar_cells (w : World) (ad : Addr) (ty : TypeId) (cs : List Value) (d : TypeDesc) (hc : ∀ j v, cs[j]? = some v → w.cell? (ad.add j) = some v)
    (hu : P.underlying ty = some d) (hd : (match d with | .struct _ | .array _ _ => true | _ => false) = true) (hi : (P.info? ty).map (·.size) = some cs.length) :
    (loadVar ty ad).run P w = .ok (.agg cs.toArray) w := by
  have hl := run_loadCells_list (P := P) w ad cs hc
  cases hq : P.info? ty with
  | none => simp [hq] at hi
  | some i =>
    have hs : i.size = cs.length := by simpa [hq] using hi
    have hagg : (isAgg ty).run P w = .ok true w := by
      unfold isAgg
      rw [Sem.run_bind, run_underlying hu w]
      cases d <;> simp_all
    simp [loadVar, Sem.run_bind, hagg, sizeOf, typeInfo, hq, hs, hl]
/-- A whole array, or a struct, out of cells that are known. -/
theorem wpList_load_cells {ops : Array Oper} {rest : List Oper} {o : Oper} {a : Act} {w : World} {Q : Exit → Act → World → Prop} (hgd : o.guard = none) (ty : TypeId) (x : Operand) (ho : o.op = .load ty x)
    (ad : Addr) (hx : a.eval x = .pointer (some ad)) (cs : List Value) (d : TypeDesc) (hc : ∀ j v, cs[j]? = some v → w.cell? (ad.add j) = some v)
    (hu : P.underlying ty = some d) (hd : (match d with | .struct _ | .array _ _ => true | _ => false) = true) (hi : (P.info? ty).map (·.size) = some cs.length)
    (h : wpList P ops Q rest (a.put o.dst (.agg cs.toArray)) w) : wpList P ops Q (o :: rest) a w :=
  wpList_plain hgd fun _ hK => by
    unfold Oper.wp execOp
    simp only [ho, hx, Instr.loadAt, Instr.sureAddr, Sem.run_bind, Sem.run_pure, Result.andThen_ok, run_loadVar_cells w ad ty cs d hc hu hd hi]
    exact hK _ _ h
end
theorem tab_cells (w : World) (hr : Kd.C k35 w (some ⟨0, 0, none⟩) tab_fold_rows.length tab_fold_rows) : ∀ j v, tabCells[j]? = some v → w.cell? ((⟨0, 0, none⟩ : Addr).add j) = some v := by
  have cell : ∀ (j : Nat) (h : j < 7), w.cell? ⟨0, j * 3, none⟩ = some (.int .i64 (rd_T35 tab_fold_rows (j : Int)).f0) ∧ w.cell? ⟨0, j * 3 + 1, none⟩ = some (.int .i64 (rd_T35 tab_fold_rows (j : Int)).f1) ∧ w.cell? ⟨0, j * 3 + 2, none⟩ = some (.int .i64 (rd_T35 tab_fold_rows (j : Int)).f2) := by
    intro j h
    obtain ⟨ad, e1, hx⟩ := at_T35 hr (j : Int) (by omega) (by show (j : Int) < 7; omega)
    cases e1
    simpa [add_plain] using hx
  obtain ⟨g00, g01, g02⟩ := cell 0 (by omega)
  replace g00 : w.cell? ⟨0, 0, none⟩ = some (.int .i64 65) := g00
  replace g01 : w.cell? ⟨0, 1, none⟩ = some (.int .i64 90) := g01
  replace g02 : w.cell? ⟨0, 2, none⟩ = some (.int .i64 32) := g02
  obtain ⟨g10, g11, g12⟩ := cell 1 (by omega)
  replace g10 : w.cell? ⟨0, 3, none⟩ = some (.int .i64 192) := g10
  replace g11 : w.cell? ⟨0, 4, none⟩ = some (.int .i64 214) := g11
  replace g12 : w.cell? ⟨0, 5, none⟩ = some (.int .i64 32) := g12
  obtain ⟨g20, g21, g22⟩ := cell 2 (by omega)
  replace g20 : w.cell? ⟨0, 6, none⟩ = some (.int .i64 216) := g20
  replace g21 : w.cell? ⟨0, 7, none⟩ = some (.int .i64 222) := g21
  replace g22 : w.cell? ⟨0, 8, none⟩ = some (.int .i64 32) := g22
  obtain ⟨g30, g31, g32⟩ := cell 3 (by omega)
  replace g30 : w.cell? ⟨0, 9, none⟩ = some (.int .i64 913) := g30
  replace g31 : w.cell? ⟨0, 10, none⟩ = some (.int .i64 929) := g31
  replace g32 : w.cell? ⟨0, 11, none⟩ = some (.int .i64 32) := g32
  obtain ⟨g40, g41, g42⟩ := cell 4 (by omega)
  replace g40 : w.cell? ⟨0, 12, none⟩ = some (.int .i64 931) := g40
  replace g41 : w.cell? ⟨0, 13, none⟩ = some (.int .i64 939) := g41
  replace g42 : w.cell? ⟨0, 14, none⟩ = some (.int .i64 32) := g42
  obtain ⟨g50, g51, g52⟩ := cell 5 (by omega)
  replace g50 : w.cell? ⟨0, 15, none⟩ = some (.int .i64 1024) := g50
  replace g51 : w.cell? ⟨0, 16, none⟩ = some (.int .i64 1039) := g51
  replace g52 : w.cell? ⟨0, 17, none⟩ = some (.int .i64 80) := g52
  obtain ⟨g60, g61, g62⟩ := cell 6 (by omega)
  replace g60 : w.cell? ⟨0, 18, none⟩ = some (.int .i64 1040) := g60
  replace g61 : w.cell? ⟨0, 19, none⟩ = some (.int .i64 1071) := g61
  replace g62 : w.cell? ⟨0, 20, none⟩ = some (.int .i64 32) := g62
  intro j v hj
  rw [add_plain]
  have hlt : j < 21 := (List.getElem?_eq_some_iff.1 hj).1
  match j, hlt, hj with
  | 0, _, hj => exact (Option.some.inj hj) ▸ g00
  | 1, _, hj => exact (Option.some.inj hj) ▸ g01
  | 2, _, hj => exact (Option.some.inj hj) ▸ g02
  | 3, _, hj => exact (Option.some.inj hj) ▸ g10
  | 4, _, hj => exact (Option.some.inj hj) ▸ g11
  | 5, _, hj => exact (Option.some.inj hj) ▸ g12
  | 6, _, hj => exact (Option.some.inj hj) ▸ g20
  | 7, _, hj => exact (Option.some.inj hj) ▸ g21
  | 8, _, hj => exact (Option.some.inj hj) ▸ g22
  | 9, _, hj => exact (Option.some.inj hj) ▸ g30
  | 10, _, hj => exact (Option.some.inj hj) ▸ g31
  | 11, _, hj => exact (Option.some.inj hj) ▸ g32
  | 12, _, hj => exact (Option.some.inj hj) ▸ g40
  | 13, _, hj => exact (Option.some.inj hj) ▸ g41
  | 14, _, hj => exact (Option.some.inj hj) ▸ g42
  | 15, _, hj => exact (Option.some.inj hj) ▸ g50
  | 16, _, hj => exact (Option.some.inj hj) ▸ g51
  | 17, _, hj => exact (Option.some.inj hj) ▸ g52
  | 18, _, hj => exact (Option.some.inj hj) ▸ g60
  | 19, _, hj => exact (Option.some.inj hj) ▸ g61
  | 20, _, hj => exact (Option.some.inj hj) ▸ g62
  | j + 21, h, _ => omega
theorem row_at (j : Nat) (h : j < 7) (W : World) : (Instr.index 36 (.agg tabCells.toArray) (.int .i64 (j : Int))).run Tryd.prog W = .ok (.agg #[.int .i64 (rd_T35 tab_fold_rows (j : Int)).f0, .int .i64 (rd_T35 tab_fold_rows (j : Int)).f1, .int .i64 (rd_T35 tab_fold_rows (j : Int)).f2]) W := by
  rcases (show j = 0 ∨ j = 1 ∨ j = 2 ∨ j = 3 ∨ j = 4 ∨ j = 5 ∨ j = 6 by omega) with rfl | rfl | rfl | rfl | rfl | rfl | rfl <;> kernel_rfl
theorem one_row (w : World) (c : Int) : Kd.C k33 (w.alloc (.cells #[.int .i64 c, .int .i64 c] 33)) (some ⟨w.heap.size, 0, none⟩) 1 [⟨c, c⟩] := by
  have h : Kd.R k33 33 (w.alloc (.cells #[.int .i64 c, .int .i64 c] 33)) w.heap.size (fun _ => True) (.slice (some ⟨w.heap.size, 0, none⟩) 1 1) [⟨c, c⟩] :=
    ⟨fun _ _ => trivial, [.int .i64 c, .int .i64 c], World.ownsRow_lit w #[.int .i64 c, .int .i64 c] 1 (Nat.le_refl _) (by unfold maxLen; omega) rfl, ⟨rfl, fun i p hp => by
      cases i with
      | zero => cases hp; exact k33_mkM _ _ _ ⟨c, c⟩
      | succ i => simp at hp⟩⟩
  exact (Kd.R_reads' h).2.2
theorem thr_small (q : S35) (hq : Rok q) (c : Int) (h0 : 0 ≤ c) (h1 : c ≤ 1114111) : thr (smallR q) [⟨c, c⟩] = if q.f0 ≤ c ∧ c ≤ q.f1 then [⟨c + q.f2, c + q.f2⟩] else [] := by
  obtain ⟨r1, r2, r3, r4, r5⟩ := hq
  have e : smallR q ⟨c, c⟩ = ⟨max c q.f0 + q.f2, min c q.f1 + q.f2⟩ := by
    unfold smallR
    rw [mx_max, mn_min, wrap_in _ (by dsimp only; omega) (by dsimp only; omega), wrap_in _ (by dsimp only; omega) (by dsimp only; omega)]
  rw [thr, List.foldl_cons, List.foldl_nil, thrStep, e]
  dsimp only
  by_cases h : q.f0 ≤ c ∧ c ≤ q.f1
  · rw [if_pos h, if_pos (by omega), show max c q.f0 = c by omega, show min c q.f1 = c by omega]; rfl
  · rw [if_neg h, if_neg (by omega)]
theorem thr_great (q : S35) (hq : Rok q) (c : Int) (h0 : 0 ≤ c) (h1 : c ≤ 1114111) : thr (greatR q) [⟨c, c⟩] = if q.f0 ≤ c - q.f2 ∧ c - q.f2 ≤ q.f1 then [⟨c - q.f2, c - q.f2⟩] else [] := by
  obtain ⟨r1, r2, r3, r4, r5⟩ := hq
  have e : greatR q ⟨c, c⟩ = ⟨max (c - q.f2) q.f0, min (c - q.f2) q.f1⟩ := by
    unfold greatR
    rw [mx_max, mn_min, wrap_in _ (by dsimp only; omega) (by dsimp only; omega)]
  rw [thr, List.foldl_cons, List.foldl_nil, thrStep, e]
  dsimp only
  by_cases h : q.f0 ≤ c - q.f2 ∧ c - q.f2 ≤ q.f1
  · rw [if_pos h, if_pos (by omega), show max (c - q.f2) q.f0 = c - q.f2 by omega, show min (c - q.f2) q.f1 = c - q.f2 by omega]; rfl
  · rw [if_neg h, if_neg (by omega)]
theorem oth_step (q : S35) (l : List S35) (hq : Rok q) (c : Int) (h0 : 0 ≤ c) (h1 : c ≤ 1114111) : (thr (smallR q) [⟨c, c⟩] ++ thr (greatR q) [⟨c, c⟩] = [] ∧ oth (q :: l) c = oth l c) ∨ ∃ x t, thr (smallR q) [⟨c, c⟩] ++ thr (greatR q) [⟨c, c⟩] = x :: t ∧ oth (q :: l) c = some x.f0 := by
  rw [thr_small q hq c h0 h1, thr_great q hq c h0 h1, oth]
  by_cases h : q.f0 ≤ c ∧ c ≤ q.f1
  · rw [if_pos h, if_pos h]
    exact .inr ⟨_, _, rfl, rfl⟩
  · rw [if_neg h, if_neg h]
    by_cases h' : q.f0 ≤ c - q.f2 ∧ c - q.f2 ≤ q.f1
    · rw [if_pos h', if_pos h']
      exact .inr ⟨_, _, rfl, rfl⟩
    · rw [if_neg h', if_neg h']
      exact .inl ⟨rfl, rfl⟩
theorem row_mem (j : Nat) (h : j < 7) : rd_T35 tab_fold_rows (j : Int) ∈ tab_fold_rows := by
  rw [show rd_T35 tab_fold_rows (j : Int) = tab_fold_rows.getD j z35 from rfl, List.getD_eq_getElem?_getD, List.getElem?_eq_getElem (show j < tab_fold_rows.length from h)]
  exact List.getElem_mem _
theorem row_drop (j : Nat) (h : j < 7) : tab_fold_rows.drop j = rd_T35 tab_fold_rows (j : Int) :: tab_fold_rows.drop (j + 1) := by
  rw [List.drop_eq_getElem_cons (show j < tab_fold_rows.length from h), show rd_T35 tab_fold_rows (j : Int) = tab_fold_rows.getD j z35 from rfl, List.getD_eq_getElem?_getD, List.getElem?_eq_getElem (show j < tab_fold_rows.length from h)]
  rfl
theorem small_one (q : S35) (A0 : Option Addr) (c : Int) (w : World) (hr0 : Kd.C k33 w A0 1 [⟨c, c⟩]) :
    Calls Tryd.prog 17 #[.slice A0 1 1, .func (.func 18) #[.agg #[.int .i64 q.f0, .int .i64 q.f1, .int .i64 q.f2]] #[]] w fun e w' => ∃ v0_ : Value, e = .returned v0_ ∧ Kd.R k33 33 w' w.heap.size (fun _ => True) v0_ (thr (smallR q) [⟨c, c⟩]) ∧ Below w.heap.size w w' :=
  small_thr q A0 1 [⟨c, c⟩] w (by simp) hr0 (Nat.le_refl _)
theorem great_one (q : S35) (A0 : Option Addr) (c : Int) (w : World) (hr0 : Kd.C k33 w A0 1 [⟨c, c⟩]) :
    Calls Tryd.prog 17 #[.slice A0 1 1, .func (.func 19) #[.agg #[.int .i64 q.f0, .int .i64 q.f1, .int .i64 q.f2]] #[]] w fun e w' => ∃ v0_ : Value, e = .returned v0_ ∧ Kd.R k33 33 w' w.heap.size (fun _ => True) v0_ (thr (greatR q) [⟨c, c⟩]) ∧ Below w.heap.size w w' :=
  great_thr q A0 1 [⟨c, c⟩] w (by simp) hr0 (Nat.le_refl _)
theorem new_cell (w : World) (t : TypeId) (cs : Array Value) (i : Nat) (v : Value) (h : cs[i]? = some v) : (w.alloc (.cells cs t)).cell? ⟨w.heap.size, i, none⟩ = some v := by
  have e := World.alloc_heap_new w (.cells cs t)
  unfold World.cell?
  dsimp only
  rw [e]
  exact h
def measO (v : Value) : Nat := 7 - (intOf v).toNat
set_option maxRecDepth 100000 in
set_option maxHeartbeats 1000000 in
theorem other_out (c : Int) (h : ¬ (0 ≤ c ∧ c ≤ 1114111)) (w : World) :
    Calls Tryd.prog 6 #[.int .i64 c] w fun e w' => e = .returned (.tuple #[.int .i64 ((none : Option Int).getD 0), .bool (none : Option Int).isSome]) ∧ Below w.heap.size w w' := by
  by_cases h1 : c < 0
  · have c1 : decide (c < 0) = true := decide_eq_true h1
    clear h h1
    go_enter Tryd.func6, Tryd.ntmps6
    go_wp2_with fail
    go_ret2
    exact ⟨rfl, (Below.refl _ w).alloc (Nat.le_refl _) _⟩
  · have c1 : decide (c < 0) = false := decide_eq_false h1
    have c2 : decide (1114111 < c) = true := decide_eq_true (by omega)
    clear h h1
    go_enter Tryd.func6, Tryd.ntmps6
    go_wp2_with fail
    go_ret2
    exact ⟨rfl, (Below.refl _ w).alloc (Nat.le_refl _) _⟩
set_option maxRecDepth 100000 in
set_option maxHeartbeats 1000000 in
theorem other_calls (c : Int) (h0 : 0 ≤ c) (h1 : c ≤ 1114111) (w : World) (hr : Kd.C k35 w (some ⟨0, 0, none⟩) tab_fold_rows.length tab_fold_rows) :
    Calls Tryd.prog 6 #[.int .i64 c] w fun e w' => e = .returned (.tuple #[.int .i64 ((oth tab_fold_rows c).getD 0), .bool (oth tab_fold_rows c).isSome]) ∧ Below w.heap.size w w' := by
  have c1 : decide (c < 0) = false := decide_eq_false (by omega)
  have c2 : decide (1114111 < c) = false := decide_eq_false (by omega)
  have HT := Aside0.mk (tab_cells w hr)
  have HR := Aside0.mk hr
  have H01 := Aside0.mk (And.intro h0 h1)
  clear hr h0 h1
  go_enter Tryd.func6, Tryd.ntmps6
  go_wp2_with (refine wpList_load_cells (o := ⟨some 19, _, _, _, _, _⟩) rfl 36 _ rfl ⟨0, 0, none⟩ (by rfl) tabCells _ (fun j v hj => ((((Below.refl _ w).alloc (Nat.le_refl _) _).cell (p := (⟨0, 0, none⟩ : Addr).add j) (World.block_lt_of_cell? w _ (HT.out j v hj))).trans (HT.out j v hj))) Tryd.underlying36 rfl (by kernel_rfl) ?_)
  go_loopw [20] (fun vj wr => ∃ (j : Nat), vj = .int .i64 (j : Int) ∧ Aside0 (j ≤ 7 ∧ oth tab_fold_rows c = oth (tab_fold_rows.drop j) c) ∧ Aside0 (Kd.C k33 wr (some ⟨w.heap.size, 0, none⟩) 1 [⟨c, c⟩] ∧ Below w.heap.size w wr))
    (fun vj _ => measO vj)
  case atStart => exact ⟨0, rfl, ⟨by omega, rfl⟩, ⟨one_row w c, (Below.refl _ w).alloc (Nat.le_refl _) _⟩⟩
  case round =>
    obtain ⟨j, rfl, HJ, HW⟩ := hrel
    by_cases hj : j < 7
    · have d1 : decide ((j : Int) < 7) = true := decide_eq_true (by omega)
      have hidx := row_at j hj
      have hq := rows_ok (rd_T35 tab_fold_rows (j : Int)) (row_mem j hj)
      have hdr := row_drop j hj
      obtain ⟨q, hq'⟩ : ∃ q, rd_T35 tab_fold_rows (j : Int) = q := ⟨_, rfl⟩
      rw [hq'] at hidx hq hdr
      have HX : Aside0 (j < 7 ∧ oth tab_fold_rows c = oth (q :: tab_fold_rows.drop (j + 1)) c ∧ Rok q) := ⟨hj, by rw [HJ.out.2, hdr], hq⟩
      have hj1 : wrap64 ((j : Int) + 1) = ((j + 1 : Nat) : Int) := by unfold wrap64; omega
      clear hq' hj hq hdr HJ
      go_wp2_with fail
      obtain ⟨B, hBe⟩ : ∃ B, B = wr.heap.size := ⟨_, rfl⟩
      have hp0 : (wr.alloc (.cells #[.int .i64 q.f0, .int .i64 q.f1, .int .i64 q.f2] 35)).cell? ⟨wr.heap.size, 0, none⟩ = some (.int .i64 q.f0) := new_cell _ _ _ _ _ rfl
      have hp1 : (wr.alloc (.cells #[.int .i64 q.f0, .int .i64 q.f1, .int .i64 q.f2] 35)).cell? ⟨wr.heap.size, 1, none⟩ = some (.int .i64 q.f1) := new_cell _ _ _ _ _ rfl
      have hp2 : (wr.alloc (.cells #[.int .i64 q.f0, .int .i64 q.f1, .int .i64 q.f2] 35)).cell? ⟨wr.heap.size, 2, none⟩ = some (.int .i64 q.f2) := new_cell _ _ _ _ _ rfl
      have HBL : Aside0 (wr.heap.size < (wr.alloc (.cells #[.int .i64 q.f0, .int .i64 q.f1, .int .i64 q.f2] 35)).heap.size) := ⟨by simp⟩
      have HC2 := Aside0.mk (Kd.C_alloc HW.out.1 (.cells #[.int .i64 q.f0, .int .i64 q.f1, .int .i64 q.f2] 35))
      have HB2 := Aside0.mk (HW.out.2.alloc HW.out.2.size (.cells #[.int .i64 q.f0, .int .i64 q.f1, .int .i64 q.f2] 35))
      rw [← hBe] at hp0 hp1 hp2 HBL ⊢
      clear hidx hBe HW
      generalize wr.alloc (.cells #[.int .i64 q.f0, .int .i64 q.f1, .int .i64 q.f2] 35) = W2 at hp0 hp1 hp2 HBL HC2 HB2 ⊢
      refine start_ (n := 11) (S := fun w' => w'.cell? ⟨B, 0, none⟩ = some (.int .i64 q.f0) ∧ w'.cell? ⟨B, 1, none⟩ = some (.int .i64 q.f1) ∧ w'.cell? ⟨B, 2, none⟩ = some (.int .i64 q.f2)) (ds := [7, 8]) #[false, false, false, false, false, false, false, false, false, false, false] (by kernel_rfl) rfl rfl ⟨hp0, hp1, hp2⟩ (fun hHeld => ?_)
      have HC20 := Aside0.mk (Kd.C_drew HC2.out)
      have HB20 := Aside0.mk (below_drew HB2.out)
      have HBL0 : Aside0 (B < W2.drew.heap.size) := HBL
      replace hp0 : W2.drew.cell? ⟨B, 0, none⟩ = some (.int .i64 q.f0) := hp0
      replace hp1 : W2.drew.cell? ⟨B, 1, none⟩ = some (.int .i64 q.f1) := hp1
      replace hp2 : W2.drew.cell? ⟨B, 2, none⟩ = some (.int .i64 q.f2) := hp2
      clear HC2 HB2 HBL
      generalize W2.drew = W20 at HC20 HB20 HBL0 hp0 hp1 hp2 hHeld ⊢
      have HC2 := HC20
      have HB2 := HB20
      have HBL := HBL0
      clear HC20 HB20 HBL0
      refine pure_ (i := 0) (N := some 23) (v := ?_) (a' := ?_) #[true, false, false, false, false, false, false, false, false, false, false] rfl rfl (by kernel_rfl) (fun _ _ _ h => h) (Or.inl ⟨by rfl, ?_⟩) ?_ ?_
      rotate_left
      · intro w'
        go_simp
        with_reducible rfl
      rotate_left
      · simp only [Act.put, List.setIfInBounds_toArray, List.set_cons_zero, List.set_cons_succ, i64_w, i32_w]
        rfl
      refine pure_ (i := 4) (N := some 27) (v := ?_) (a' := ?_) #[true, false, false, false, true, false, false, false, false, false, false] rfl rfl (by kernel_rfl) (fun _ _ _ h => h) (Or.inl ⟨by rfl, ?_⟩) ?_ ?_
      rotate_left
      · intro w'
        go_simp
        with_reducible rfl
      rotate_left
      · simp only [Act.put, List.setIfInBounds_toArray, List.set_cons_zero, List.set_cons_succ, i64_w, i32_w]
        rfl
      refine pure_ (i := 10) (N := some 33) (v := ?_) (a' := ?_) #[true, false, false, false, true, false, false, false, false, false, true] rfl rfl (by kernel_rfl) (fun _ _ _ h => h) (Or.inl ⟨by rfl, ?_⟩) ?_ ?_
      rotate_left
      · intro w'
        go_simp
        with_reducible rfl
      rotate_left
      · simp only [Act.put, List.setIfInBounds_toArray, List.set_cons_zero, List.set_cons_succ, i64_w, i32_w]
        rfl
      refine take_ (i := 1) (N := some 24) (v := ?_) (a' := ?_) #[true, true, false, false, true, false, false, false, false, false, true] rfl rfl (by kernel_rfl) (fun _ _ _ h => h) (Or.inl ⟨by rfl, ?_⟩) hHeld ?_ ?_
      rotate_left
      · rintro w' ⟨s0, s1, s2⟩
        go_simp
        with_reducible rfl
      rotate_left
      · simp only [Act.put, List.setIfInBounds_toArray, List.set_cons_zero, List.set_cons_succ, i64_w, i32_w]
        rfl
      refine pure_ (i := 2) (N := some 25) (v := ?_) (a' := ?_) #[true, true, true, false, true, false, false, false, false, false, true] rfl rfl (by kernel_rfl) (fun _ _ _ h => h) (Or.inl ⟨by rfl, ?_⟩) ?_ ?_
      rotate_left
      · intro w'
        go_simp
        with_reducible rfl
      rotate_left
      · simp only [Act.put, List.setIfInBounds_toArray, List.set_cons_zero, List.set_cons_succ, i64_w, i32_w]
        rfl
      refine take_ (i := 5) (N := some 28) (v := ?_) (a' := ?_) #[true, true, true, false, true, true, false, false, false, false, true] rfl rfl (by kernel_rfl) (fun _ _ _ h => h) (Or.inl ⟨by rfl, ?_⟩) hHeld ?_ ?_
      rotate_left
      · rintro w' ⟨s0, s1, s2⟩
        go_simp
        with_reducible rfl
      rotate_left
      · simp only [Act.put, List.setIfInBounds_toArray, List.set_cons_zero, List.set_cons_succ, i64_w, i32_w]
        rfl
      refine pure_ (i := 6) (N := some 29) (v := ?_) (a' := ?_) #[true, true, true, false, true, true, true, false, false, false, true] rfl rfl (by kernel_rfl) (fun _ _ _ h => h) (Or.inl ⟨by rfl, ?_⟩) ?_ ?_
      rotate_left
      · intro w'
        go_simp
        with_reducible rfl
      rotate_left
      · simp only [Act.put, List.setIfInBounds_toArray, List.set_cons_zero, List.set_cons_succ, i64_w, i32_w]
        rfl
      refine one_ (i := 3) (N := some 26) #[true, true, true, true, true, true, true, false, false, false, true] rfl rfl (by kernel_rfl) (by decide) (fun K hK => ?_)
      refine goes_ Tryd.func17 (by kernel_rfl) rfl #[.slice (some ⟨w.heap.size, 0, none⟩) 1 1, .func (.func 18) #[.agg #[.int .i64 q.f0, .int .i64 q.f1, .int .i64 q.f2]] #[]] (by rfl) rfl rfl (by simp only [List.map_toArray, List.map_cons, List.map_nil]; rfl) ?_
      with_reducible refine (small_one q (some ⟨w.heap.size, 0, none⟩) c _ HC2.out).mono ?_
      rintro e W3 ⟨v1, rfl, hv1, hb1⟩
      obtain ⟨A1, c1, rfl, hl1, hC1⟩ := R_form hv1
      have HB3 := Aside0.mk hb1
      have HC3 := Aside0.mk (Kd.C_below HC2.out hb1)
      have hq0 := (hb1.cell (p := ⟨B, 0, none⟩) HBL.out).trans hp0
      have hq1 := (hb1.cell (p := ⟨B, 1, none⟩) HBL.out).trans hp1
      have hq2 := (hb1.cell (p := ⟨B, 2, none⟩) HBL.out).trans hp2
      have HV1 := Aside0.mk hv1
      clear hv1 hb1 hl1 hC1
      refine ⟨_, rfl, ?_⟩
      refine hK.out _ _ ⟨hq0, hq1, hq2⟩ (fun hHeld => ?_)
      clear hK K
      refine norm_ (a' := ?_) ?_ ?_
      rotate_left
      · show Act.put _ (some 26) _ = _
        simp only [Act.put, List.setIfInBounds_toArray, List.set_cons_zero, List.set_cons_succ, i64_w, i32_w]
        rfl
      refine last_ (i := 7) (N := some 30) #[true, true, true, true, true, true, true, true, false, false, true] rfl rfl (by kernel_rfl) (by decide) (fun K hK => ?_)
      refine goes_ Tryd.func17 (by kernel_rfl) rfl #[.slice (some ⟨w.heap.size, 0, none⟩) 1 1, .func (.func 19) #[.agg #[.int .i64 q.f0, .int .i64 q.f1, .int .i64 q.f2]] #[]] (by rfl) rfl rfl (by simp only [List.map_toArray, List.map_cons, List.map_nil]; rfl) ?_
      with_reducible refine (great_one q (some ⟨w.heap.size, 0, none⟩) c _ HC3.out).mono ?_
      rintro e W4 ⟨v2, rfl, hv2, hb2⟩
      obtain ⟨A2, c2, rfl, hl2, hC2⟩ := R_form hv2
      have HB4 := Aside0.mk (below_then HB3.out HB3.out.size hb2)
      have HC4 := Aside0.mk hC2
      have HV4 := Aside0.mk (Kd.R_below HV1.out hb2)
      clear hv2 hb2 hl2 hC2
      refine ⟨_, rfl, ?_⟩
      refine hK.out _ _ ?_
      clear hK K
      refine norm_ (a' := ?_) ?_ ?_
      rotate_left
      · show Act.put _ (some 30) _ = _
        simp only [Act.put, List.setIfInBounds_toArray, List.set_cons_zero, List.set_cons_succ, i64_w, i32_w]
        rfl
      refine last_ (i := 8) (N := some 31) #[true, true, true, true, true, true, true, true, true, false, true] rfl rfl (by kernel_rfl) (by decide) (fun K hK => ?_)
      refine Kd.R_append_rows_step k33 (w0 := W20) W20.heap.size (by rfl) (.tmp 26) (.tmp 30) 27 33 (.agg #[(.int .i64 0), (.int .i64 0)]) 16 rfl Tryd.underlying27 info33 rfl (by decide) (by omega) _ (thr (smallR q) [⟨c, c⟩]) (thr (greatR q) [⟨c, c⟩]) _ _ _ (fun _ => True) (fun _ => False) rfl rfl HV4.out HC4.out (fun _ _ h => h) (fun _ h => h.elim) (fun _ _ => trivial) HB4.out HB4.out.size (by have h1 := thr_len (smallR q) [⟨c, c⟩]; have h2 := thr_len (greatR q) [⟨c, c⟩]; simp only [List.length_singleton] at h1 h2; omega) ?_
      intro v3 W5 ho hb hg hat
      obtain ⟨L, hL⟩ : ∃ L, thr (smallR q) [⟨c, c⟩] ++ thr (greatR q) [⟨c, c⟩] = L := ⟨_, rfl⟩
      rw [hL] at ho
      obtain ⟨A3, c3, rfl, hl3, hC3⟩ := R_form ho
      have HO := Aside0.mk hC3
      have HC5 := Aside0.mk (Kd.C_below HC2.out hb)
      have HB5 := Aside0.mk (below_then HB2.out HB2.out.size hb)
      have HLL := Aside0.mk hL
      clear ho hb hg hat hL hl3 hC3
      refine hK.out _ _ ?_
      clear hK K
      refine norm_ (a' := ?_) ?_ ?_
      rotate_left
      · show Act.put _ (some 31) _ = _
        simp only [Act.put, List.setIfInBounds_toArray, List.set_cons_zero, List.set_cons_succ, i64_w, i32_w]
        rfl
      refine pure_ (i := 9) (N := some 32) (v := ?_) (a' := ?_) #[true, true, true, true, true, true, true, true, true, true, true] rfl rfl (by kernel_rfl) (fun _ _ _ h => h) (Or.inl ⟨by rfl, ?_⟩) ?_ ?_
      rotate_left
      · intro w'
        go_simp
        with_reducible rfl
      rotate_left
      · simp only [Act.put, List.setIfInBounds_toArray, List.set_cons_zero, List.set_cons_succ, i64_w, i32_w]
        rfl
      refine done_ (by kernel_rfl) ?_

      have HST := Aside0.mk (oth_step q (tab_fold_rows.drop (j + 1)) HX.out.2.2 c H01.out.1 H01.out.2)
      clear HC2 HC3 HC4 HV1 HV4 HB2 HB3 HB4 HBL hp0 hp1 hp2 hq0 hq1 hq2 hHeld
      cases hL : L with
      | nil =>
        have HN : Aside0 (oth tab_fold_rows c = oth (tab_fold_rows.drop (j + 1)) c) := ⟨by
          rcases HST.out with ⟨_, h2⟩ | ⟨x, t, h2, _⟩
          · rw [HX.out.2.1, h2]
          · rw [HLL.out, hL] at h2; cases h2⟩
        clear HLL HO HST hL
        go_wp2_with fail
        refine wp_loop_rounds 1 ?_
        rw [rounds_succ]
        go_wp2_with fail
        constructor
        · exact ⟨j + 1, congrArg (Value.int .i64) hj1, ⟨by have := HX.out.1; omega, HN.out⟩, ⟨HC5.out, HB5.out⟩⟩
        · have := HX.out.1
          rw [hj1]; unfold measO; simp [intOf]; omega
      | cons x t =>
        have HN : Aside0 (oth tab_fold_rows c = some x.f0) := ⟨by
          rcases HST.out with ⟨h1, _⟩ | ⟨x', t', h1, h2⟩
          · rw [HLL.out, hL] at h1; cases h1
          · rw [HLL.out, hL] at h1; cases h1; rw [HX.out.2.1, h2]⟩
        rw [hL] at HO
        clear HLL HST hL
        obtain ⟨ad, e1, hx0, hx1⟩ := at_T33 HO.out 0 (by omega) (by simp)
        replace hx0 : W5.cell? (ad.add 0) = some (.int .i64 x.f0) := hx0
        replace hx1 : W5.cell? ⟨(ad.add 0).block, (ad.add 0).off + 1, none⟩ = some (.int .i64 x.f1) := hx1
        have ha0 : ad.add 0 = ad := by simp [go_sem]
        rw [ha0] at hx0 hx1
        clear ha0
        subst e1
        have hlen : (x :: t).length = t.length + 1 := rfl
        rw [hlen]
        have q1 : (0 < t.length + 1) = True := eq_true (by omega)
        clear hlen HO
        go_wp2_with fail
        refine wp_loop_rounds 1 ?_
        rw [rounds_succ]
        go_wp2_with fail
        go_ret2
        rw [HN.out]
        exact ⟨rfl, HB5.out.alloc HB5.out.size _⟩
    · have d1 : decide ((j : Int) < 7) = false := decide_eq_false (by omega)
      have HN : Aside0 (oth tab_fold_rows c = none) := ⟨by rw [HJ.out.2, List.drop_of_length_le (show tab_fold_rows.length ≤ j by show 7 ≤ j; omega)]; rfl⟩
      clear hj HJ
      go_wp2_with fail
      go_ret2
      rw [HN.out]
      exact ⟨rfl, HW.out.2⟩
/-- What Other tells, as the printed texts want it told. -/
def fold_Other.f (c : Int) : Option (Int × Bool) := some ((otherL c).getD 0, (otherL c).isSome)
theorem fold_Other.calls (a0 : Int) (r0 : Int) (r1 : Bool) (w : World) (hrG0 : Kd.C k35 w (some ⟨0, 0, none⟩) tab_fold_rows.length tab_fold_rows) (h : fold_Other.f a0 = some (r0, r1)) :
    Calls Tryd.prog 6 #[.int .i64 a0] w fun e w' => e = .returned (.tuple #[.int .i64 r0, .bool r1]) ∧ Below w.heap.size w w' := by
  unfold fold_Other.f at h
  simp only [Option.some.injEq, Prod.mk.injEq] at h
  obtain ⟨rfl, rfl⟩ := h
  unfold otherL
  by_cases hc : 0 ≤ a0 ∧ a0 ≤ 1114111
  · rw [if_pos hc]
    exact other_calls a0 hc.1 hc.2 w hrG0
  · rw [if_neg hc]
    exact other_out a0 hc w
end Go.Proofs.YtfknoaokoncneabDoor.HandOther

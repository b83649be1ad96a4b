/- The kind of an operation's name, and of an item's first word: what script.kind and script.head tell, off their tables. No condition. -/
import Derived.Test.YtifcpamliidabaaDoorPSx0
import Derived.Test.YtifcpamliidabaaDoorWWords
import Derived.Test.YtifcpamliidabaaDoorWMore
import Derived.Laws.Rows
set_option linter.unusedSimpArgs false
set_option linter.unusedVariables false
namespace Go.Proofs.YtifcpamliidabaaDoor.HandKind
open Go.RowKit Go.Proofs.YtifcpamliidabaaDoorW.PrintWords Go.Proofs.YtifcpamliidabaaDoorW.PrintLast Go.Proofs.YtifcpamliidabaaDoorW.PrintMore Go.Proofs.YtifcpamliidabaaDoor.PS
section
variable {P : Program}
theorem run_loadVar_cells (w : World) (ad : Addr) (ty : TypeId) (cs : List Value) (d : TypeDesc) (hc : ∀ j v, cs[j]? = some v → w.cell? (ad.add j) = some v)
    (hu : P.underlying ty = some d) (hd : (match d with | .struct _ | .array _ _ => true | _ => false) = true) (hi : (P.info? ty).map (·.size) = some cs.length) :
    (loadVar ty ad).run P w = .ok (.agg cs.toArray) w := by
  have hl := run_loadCells_list (P := P) w ad cs hc
  cases hq : P.info? ty with
  | none => simp [hq] at hi
  | some i =>
    have hs : i.size = cs.length := by simpa [hq] using hi
    have hagg : (isAgg ty).run P w = .ok true w := by
      unfold isAgg
      rw [Sem.run_bind, run_underlying hu w]
      cases d <;> simp_all
    simp [loadVar, Sem.run_bind, hagg, sizeOf, typeInfo, hq, hs, hl]
/-- A whole array, or a struct, out of cells that are known. -/
theorem wpList_load_cells {ops : Array Oper} {rest : List Oper} {o : Oper} {a : Act} {w : World} {Q : Exit → Act → World → Prop} (hgd : o.guard = none) (ty : TypeId) (x : Operand) (ho : o.op = .load ty x)
    (ad : Addr) (hx : a.eval x = .pointer (some ad)) (cs : List Value) (d : TypeDesc) (hc : ∀ j v, cs[j]? = some v → w.cell? (ad.add j) = some v)
    (hu : P.underlying ty = some d) (hd : (match d with | .struct _ | .array _ _ => true | _ => false) = true) (hi : (P.info? ty).map (·.size) = some cs.length)
    (h : wpList P ops Q rest (a.put o.dst (.agg cs.toArray)) w) : wpList P ops Q (o :: rest) a w :=
  wpList_plain hgd fun _ hK => by
    unfold Oper.wp execOp
    simp only [ho, hx, Instr.loadAt, Instr.sureAddr, Sem.run_bind, Sem.run_pure, Result.andThen_ok, run_loadVar_cells w ad ty cs d hc hu hd hi]
    exact hK _ _ h
end
def strs (l : List ByteArray) : List Value := l.map .string
theorem strs_cells (w : World) (g : Nat) (l : List ByteArray) (hr : Kd.C Kd.string w (some ⟨g, 0, none⟩) l.length l) : ∀ j v, (strs l)[j]? = some v → w.cell? ((⟨g, 0, none⟩ : Addr).add j) = some v := by
  intro j v hj
  have hlt : j < l.length := by have := (List.getElem?_eq_some_iff.1 hj).1; simpa [strs] using this
  obtain ⟨ad, e1, hx⟩ := Kd.at_string hr (j : Int) (by omega) (by omega)
  cases e1
  rw [strs, List.getElem?_map, List.getElem?_eq_getElem hlt] at hj
  cases hj
  refine Eq.trans hx ?_
  congr 2
  show (l.getD j ByteArray.empty) = _
  rw [List.getD_eq_getElem?_getD, List.getElem?_eq_getElem hlt]
  rfl
/-- The first of some words, but the 0-th, that a word is; 0: it is none. -/
def findL : List ByteArray → Nat → ByteArray → Nat
  | [], _, _ => 0
  | x :: l, i, s => if 0 < i ∧ x = s then i else findL l (i + 1) s
def at_ (l : List ByteArray) (j : Nat) : ByteArray := l.getD j ByteArray.empty
theorem drop_at (l : List ByteArray) (j : Nat) (h : j < l.length) : l.drop j = at_ l j :: l.drop (j + 1) := by
  rw [List.drop_eq_getElem_cons h, at_, List.getD_eq_getElem?_getD, List.getElem?_eq_getElem h]
  rfl
theorem Lk_toList {a b : ByteArray} (h : a.toList = b.toList) : a = b := by
  rw [ByteArray.toList_eq, ByteArray.toList_eq] at h
  cases a; cases b
  congr 1
  exact Array.toList_inj.mp h
theorem kind_at (j : Nat) (h : j < 10) (W : World) : (Instr.index 79 (.agg (strs tab_script_names).toArray) (.int .i64 (j : Int))).run Tryd.prog W = .ok (.string (at_ tab_script_names j)) W := by
  rcases (show j = 0 ∨ j = 1 ∨ j = 2 ∨ j = 3 ∨ j = 4 ∨ j = 5 ∨ j = 6 ∨ j = 7 ∨ j = 8 ∨ j = 9 by omega) with rfl | rfl | rfl | rfl | rfl | rfl | rfl | rfl | rfl | rfl <;> kernel_rfl
def measkind (v : Value) : Nat := 10 - (intOf v).toNat
set_option maxRecDepth 100000 in
set_option maxHeartbeats 1000000 in
theorem kind_calls (s : ByteArray) (w : World) (hr : Kd.C Kd.string w (some ⟨0, 0, none⟩) tab_script_names.length tab_script_names) :
    Calls Tryd.prog 55 #[.string s] w fun e w' => e = .returned (.int .i64 (findL tab_script_names 0 s : Int)) ∧ w' = w := by
  have HT := Aside0.mk (strs_cells w 0 _ hr)
  clear hr
  go_enter Tryd.func55, Tryd.ntmps55
  go_wp2_with (refine wpList_load_cells (o := ⟨some 5, _, _, _, _, _⟩) rfl 79 _ rfl ⟨0, 0, none⟩ (by rfl) (strs tab_script_names) _ HT.out Tryd.underlying79 rfl (by kernel_rfl) ?_)
  go_loopw [6] (fun vj wr => ∃ (j : Nat), vj = .int .i64 (j : Int) ∧ Aside0 (j ≤ 10 ∧ findL tab_script_names 0 s = findL (tab_script_names.drop j) j s) ∧ wr = w)
    (fun vj _ => measkind vj)
  case atStart => exact ⟨0, rfl, ⟨by omega, rfl⟩, rfl⟩
  case round =>
    obtain ⟨j, rfl, HJ, hwr⟩ := hrel
    obtain rfl := hwr.symm
    by_cases hj : j < 10
    · have d1 : decide ((j : Int) < 10) = true := decide_eq_true (by omega)
      have hidx := kind_at j hj
      have hst : findL tab_script_names 0 s = if 0 < j ∧ at_ tab_script_names j = s then j else findL (tab_script_names.drop (j + 1)) (j + 1) s := by
        rw [HJ.out.2, drop_at _ j (show j < (tab_script_names).length from hj), findL]
      have hj1 : wrap64 ((j : Int) + 1) = ((j + 1 : Nat) : Int) := by unfold wrap64; omega
      obtain ⟨x, hx⟩ : ∃ x, at_ tab_script_names j = x := ⟨_, rfl⟩
      rw [hx] at hidx hst
      have HX := Aside0.mk (And.intro hj hst)
      clear hx hst HJ
      by_cases h0 : 0 < j
      · have d2 : decide (0 < j) = true := decide_eq_true h0
        by_cases he : x = s
        · subst he
          have HY : Aside0 (findL tab_script_names 0 x = j) := ⟨by rw [HX.out.2, if_pos ⟨h0, rfl⟩]⟩
          clear hj h0
          go_wp2_with fail
          go_ret
          exact ⟨by rw [HY.out]; rfl, rfl⟩
        · have HY : Aside0 (findL tab_script_names 0 s = findL (tab_script_names.drop (j + 1)) (j + 1) s) := ⟨by rw [HX.out.2, if_neg (fun h => he h.2)]⟩
          have d4 : (x.toList == s.toList) = false := beq_eq_false_iff_ne.mpr (fun h => he (Lk_toList h))
          have d5 : ¬ (x.toList = s.toList) := fun h => he (Lk_toList h)
          clear hj h0 he
          go_wp2_with fail
          constructor
          · exact ⟨j + 1, congrArg (Value.int .i64) hj1, ⟨by have := HX.out.1; omega, HY.out⟩, trivial⟩
          · have := HX.out.1
            rw [hj1]; unfold measkind; simp [intOf]; omega
      · have d2 : decide (0 < j) = false := decide_eq_false h0
        have HY : Aside0 (findL tab_script_names 0 s = findL (tab_script_names.drop (j + 1)) (j + 1) s) := ⟨by rw [HX.out.2, if_neg (fun h => h0 h.1)]⟩
        clear hj h0
        go_wp2_with fail
        constructor
        · exact ⟨j + 1, congrArg (Value.int .i64) hj1, ⟨by have := HX.out.1; omega, HY.out⟩, trivial⟩
        · have := HX.out.1
          rw [hj1]; unfold measkind; simp [intOf]; omega
    · have d1 : decide ((j : Int) < 10) = false := decide_eq_false (by omega)
      have HN : Aside0 (findL tab_script_names 0 s = 0) := ⟨by rw [HJ.out.2, List.drop_of_length_le (show (tab_script_names).length ≤ j by show 10 ≤ j; omega)]; rfl⟩
      clear hj HJ
      go_wp2_with fail
      go_ret
      exact ⟨by rw [HN.out]; rfl, rfl⟩
theorem head_at (j : Nat) (h : j < 6) (W : World) : (Instr.index 88 (.agg (strs tab_script_heads).toArray) (.int .i64 (j : Int))).run Tryd.prog W = .ok (.string (at_ tab_script_heads j)) W := by
  rcases (show j = 0 ∨ j = 1 ∨ j = 2 ∨ j = 3 ∨ j = 4 ∨ j = 5 by omega) with rfl | rfl | rfl | rfl | rfl | rfl <;> kernel_rfl
def meashead (v : Value) : Nat := 6 - (intOf v).toNat
set_option maxRecDepth 100000 in
set_option maxHeartbeats 1000000 in
theorem head_calls (s : ByteArray) (w : World) (hr : Kd.C Kd.string w (some ⟨1, 0, none⟩) tab_script_heads.length tab_script_heads) :
    Calls Tryd.prog 50 #[.string s] w fun e w' => e = .returned (.int .i64 (findL tab_script_heads 0 s : Int)) ∧ w' = w := by
  have HT := Aside0.mk (strs_cells w 1 _ hr)
  clear hr
  go_enter Tryd.func50, Tryd.ntmps50
  go_wp2_with (refine wpList_load_cells (o := ⟨some 5, _, _, _, _, _⟩) rfl 88 _ rfl ⟨1, 0, none⟩ (by rfl) (strs tab_script_heads) _ HT.out Tryd.underlying88 rfl (by kernel_rfl) ?_)
  go_loopw [6] (fun vj wr => ∃ (j : Nat), vj = .int .i64 (j : Int) ∧ Aside0 (j ≤ 6 ∧ findL tab_script_heads 0 s = findL (tab_script_heads.drop j) j s) ∧ wr = w)
    (fun vj _ => meashead vj)
  case atStart => exact ⟨0, rfl, ⟨by omega, rfl⟩, rfl⟩
  case round =>
    obtain ⟨j, rfl, HJ, hwr⟩ := hrel
    obtain rfl := hwr.symm
    by_cases hj : j < 6
    · have d1 : decide ((j : Int) < 6) = true := decide_eq_true (by omega)
      have hidx := head_at j hj
      have hst : findL tab_script_heads 0 s = if 0 < j ∧ at_ tab_script_heads j = s then j else findL (tab_script_heads.drop (j + 1)) (j + 1) s := by
        rw [HJ.out.2, drop_at _ j (show j < (tab_script_heads).length from hj), findL]
      have hj1 : wrap64 ((j : Int) + 1) = ((j + 1 : Nat) : Int) := by unfold wrap64; omega
      obtain ⟨x, hx⟩ : ∃ x, at_ tab_script_heads j = x := ⟨_, rfl⟩
      rw [hx] at hidx hst
      have HX := Aside0.mk (And.intro hj hst)
      clear hx hst HJ
      by_cases h0 : 0 < j
      · have d2 : decide (0 < j) = true := decide_eq_true h0
        by_cases he : x = s
        · subst he
          have HY : Aside0 (findL tab_script_heads 0 x = j) := ⟨by rw [HX.out.2, if_pos ⟨h0, rfl⟩]⟩
          clear hj h0
          go_wp2_with fail
          go_ret
          exact ⟨by rw [HY.out]; rfl, rfl⟩
        · have HY : Aside0 (findL tab_script_heads 0 s = findL (tab_script_heads.drop (j + 1)) (j + 1) s) := ⟨by rw [HX.out.2, if_neg (fun h => he h.2)]⟩
          have d4 : (x.toList == s.toList) = false := beq_eq_false_iff_ne.mpr (fun h => he (Lk_toList h))
          have d5 : ¬ (x.toList = s.toList) := fun h => he (Lk_toList h)
          clear hj h0 he
          go_wp2_with fail
          constructor
          · exact ⟨j + 1, congrArg (Value.int .i64) hj1, ⟨by have := HX.out.1; omega, HY.out⟩, trivial⟩
          · have := HX.out.1
            rw [hj1]; unfold meashead; simp [intOf]; omega
      · have d2 : decide (0 < j) = false := decide_eq_false h0
        have HY : Aside0 (findL tab_script_heads 0 s = findL (tab_script_heads.drop (j + 1)) (j + 1) s) := ⟨by rw [HX.out.2, if_neg (fun h => h0 h.1)]⟩
        clear hj h0
        go_wp2_with fail
        constructor
        · exact ⟨j + 1, congrArg (Value.int .i64) hj1, ⟨by have := HX.out.1; omega, HY.out⟩, trivial⟩
        · have := HX.out.1
          rw [hj1]; unfold meashead; simp [intOf]; omega
    · have d1 : decide ((j : Int) < 6) = false := decide_eq_false (by omega)
      have HN : Aside0 (findL tab_script_heads 0 s = 0) := ⟨by rw [HJ.out.2, List.drop_of_length_le (show (tab_script_heads).length ≤ j by show 6 ≤ j; omega)]; rfl⟩
      clear hj HJ
      go_wp2_with fail
      go_ret
      exact ⟨by rw [HN.out]; rfl, rfl⟩
end Go.Proofs.YtifcpamliidabaaDoor.HandKind

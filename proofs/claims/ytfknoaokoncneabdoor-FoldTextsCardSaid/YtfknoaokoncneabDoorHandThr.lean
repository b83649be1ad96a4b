/- Some ranges' small letters, or great ones: what fold.through tells under either method. No condition beyond a bound on how many ranges there are. -/
import Derived.Test.YtfknoaokoncneabDoorPFx0
import Derived.Test.YtfknoaokoncneabDoorPFx2
import Derived.Test.YtfknoaokoncneabDoorHandHeap
set_option linter.unusedSimpArgs false
set_option linter.unusedVariables false
namespace Go.Proofs.YtfknoaokoncneabDoor.HandThr
open Go.RowKit Go.Shelf Go.Proofs.YtfknoaokoncneabDoorW.PrintWords Go.Proofs.YtfknoaokoncneabDoorW.PrintLast Go.Proofs.YtfknoaokoncneabDoorW.PrintMore Go.Proofs.YtfknoaokoncneabDoor.PF Go.Proofs.YtfknoaokoncneabDoor.Sets Go.Proofs.YtfknoaokoncneabDoor.Heap
def smallR (q : S35) (r : S33) : S33 := ⟨wrap64 (mx r.f0 q.f0 + q.f2), wrap64 (mn r.f1 q.f1 + q.f2)⟩
def greatR (q : S35) (r : S33) : S33 := ⟨mx (wrap64 (r.f0 - q.f2)) q.f0, mn (wrap64 (r.f1 - q.f2)) q.f1⟩
def thrStep (g : S33 → S33) (o : List S33) (r : S33) : List S33 := if (g r).f0 ≤ (g r).f1 then o ++ [g r] else o
def thr (g : S33 → S33) (l : List S33) : List S33 := l.foldl (thrStep g) []
theorem thrStep_len (g : S33 → S33) (o : List S33) (r : S33) : (thrStep g o r).length ≤ o.length + 1 := by
  unfold thrStep
  split <;> simp
theorem foldl_len (g : S33 → S33) (l : List S33) : ∀ o : List S33, (l.foldl (thrStep g) o).length ≤ o.length + l.length := by
  induction l with
  | nil => intro o; simp
  | cons r l ih =>
    intro o
    rw [List.foldl_cons, List.length_cons]
    have := ih (thrStep g o r)
    have := thrStep_len g o r
    omega
theorem thr_len (g : S33 → S33) (l : List S33) : (thr g l).length ≤ l.length := by
  have := foldl_len g l []
  simpa [thr] using this
theorem drop_step (g : S33 → S33) (l : List S33) (j : Nat) (h : j < l.length) (o : List S33) : (l.drop j).foldl (thrStep g) o = (l.drop (j + 1)).foldl (thrStep g) (thrStep g o (rd_T33 l (j : Int))) := by
  rw [List.drop_eq_getElem_cons h, List.foldl_cons]
  have : rd_T33 l (j : Int) = l[j] := by
    rw [show rd_T33 l (j : Int) = l.getD j z33 from rfl, List.getD_eq_getElem?_getD, List.getElem?_eq_getElem h]
    rfl
  rw [this]
def measT (n : Nat) (v : Value) : Nat := n - (intOf v).toNat
theorem small_in (q : S35) (r : S33) (W : World) :
    Calls Tryd.prog 18 #[.agg #[.int .i64 q.f0, .int .i64 q.f1, .int .i64 q.f2], .agg #[.int .i64 r.f0, .int .i64 r.f1]] W fun e W' => e = .returned (.agg #[.int .i64 (smallR q r).f0, .int .i64 (smallR q r).f1]) ∧ Below W.heap.size W W' :=
  fold_row_small.calls q.f0 q.f1 q.f2 r.f0 r.f1 _ _ W rfl
set_option maxRecDepth 100000 in
set_option maxHeartbeats 1000000 in
theorem small_thr (q : S35) (A0 : Option Addr) (c0 : Nat) (l0 : List S33) (w : World) (hl : l0.length < 8796093022208) (hr0 : Kd.C k33 w A0 l0.length l0) (hc0 : l0.length ≤ c0) :
    Calls Tryd.prog 17 #[.slice A0 l0.length c0, .func (.func 18) #[.agg #[.int .i64 q.f0, .int .i64 q.f1, .int .i64 q.f2]] #[]] w fun e w' => ∃ v0_ : Value, e = .returned v0_ ∧ Kd.R k33 33 w' w.heap.size (fun _ => True) v0_ (thr (smallR q) l0) ∧ Below w.heap.size w w' := by
  have HR := Aside0.mk hr0
  have HL := Aside0.mk hl
  clear hr0 hc0 hl
  go_enter Tryd.func17, Tryd.ntmps17
  go_wp2_with fail
  go_loopw [5, 11] (fun v5 vj wr => ∃ (j : Nat) (o : List S33), vj = .int .i64 (j : Int) ∧ Aside0 (j ≤ l0.length ∧ o.length ≤ j ∧ thr (smallR q) l0 = (l0.drop j).foldl (thrStep (smallR q)) o) ∧ Aside0 (Kd.R k33 33 wr w.heap.size (own v5) v5 o) ∧ Aside0 (Below w.heap.size w wr))
    (fun _ vj _ => measT l0.length vj)
  case atStart => exact ⟨0, [], rfl, ⟨by omega, by simp, rfl⟩, ⟨Kd.R_nil _ _ _ _ _⟩, ⟨Below.refl _ _⟩⟩
  case round =>
    obtain ⟨j, o, rfl, HJ, HO, HW⟩ := hrel
    by_cases hj : j < l0.length
    · have hC := Kd.C_below HR.out HW.out
      have p1 : 0 ≤ (j : Int) := by omega
      have q1 : (j : Int) < (l0.length : Int) := by omega
      obtain ⟨ad, e1, hx0, hx1⟩ := at_T33 hC (j : Int) p1 q1
      simp only [Int.toNat_natCast] at hx0 hx1
      subst e1
      have c1 : decide (j < l0.length) = true := decide_eq_true hj
      have hj1 : wrap64 ((j : Int) + 1) = ((j + 1 : Nat) : Int) := by have := HL.out; unfold wrap64; omega
      obtain ⟨j1, j2, j3⟩ := HJ.out
      rw [drop_step _ l0 j hj] at j3
      have hln := thrStep_len (smallR q) o (rd_T33 l0 (j : Int))
      have HX : Aside0 (j < l0.length ∧ (thrStep (smallR q) o (rd_T33 l0 (j : Int))).length ≤ j + 1 ∧ thr (smallR q) l0 = (l0.drop (j + 1)).foldl (thrStep (smallR q)) (thrStep (smallR q) o (rd_T33 l0 (j : Int)))) := ⟨hj, by omega, j3⟩
      have HL2 := Aside0.mk (show o.length < 8796093022208 by have := HL.out; omega)
      replace p1 := eq_true p1
      replace q1 := eq_true q1
      clear hj hC j1 j2 j3 HJ hln
      obtain ⟨Ao, co, rfl, hoc, _⟩ := R_form HO.out
      have HIN := Aside0.mk (fun W => small_in q (rd_T33 l0 (j : Int)) W)
      obtain ⟨x, hx⟩ : ∃ x, smallR q (rd_T33 l0 (j : Int)) = x := ⟨_, rfl⟩
      have hst : thrStep (smallR q) o (rd_T33 l0 (j : Int)) = if x.f0 ≤ x.f1 then o ++ [x] else o := by rw [← hx]; rfl
      rw [hx] at HIN
      rw [hst] at HX
      clear hst hx hoc
      by_cases hab : x.f0 ≤ x.f1
      · rw [if_pos hab] at HX
        have c2 : decide (x.f0 ≤ x.f1) = true := decide_eq_true hab
        clear hab
        go_wp2_with (first | (go_at_call 18; with_reducible refine (HIN.out _).mono ?_; rintro e W1 ⟨rfl, hb⟩; have hb2 := below_then ((Below.refl _ wr).alloc (Nat.le_refl _) (.cells #[.int .i64 (rd_T33 l0 (j : Int)).f0, .int .i64 (rd_T33 l0 (j : Int)).f1] 33)) (by simp) hb; have HO2 := Aside0.mk (Kd.R_below HO.out hb2); have HW2 := Aside0.mk (below_then HW.out HW.out.size hb2); clear hb hb2 HO HW) | ((with_reducible refine gate_builtin (b := .append) (xs := #[.tmp 23, .tmp 25]) rfl ?_); (try (refine gate_guard (by rfl) ?_; dsimp only)); at_builtin; refine Kd.R_append k33 (w0 := w) w.heap.size rfl (.tmp 23) (.tmp 25) 27 33 (.agg #[(.int .i64 0), (.int .i64 0)]) 16 rfl Tryd.underlying27 info33 rfl (by decide) (by omega) (.slice Ao o.length co) o x [.int .i64 x.f0, .int .i64 x.f1] (fun _ => True) (fun _ => False) rfl (by rw [World.size_alloc]; rfl) (k33_mkM _ _ _ x) (fun _ hk => hk.elim) (fun _ _ => trivial) (Kd.R_alloc (Kd.R_mono HO2.out (fun _ _ => trivial)) _) (HW2.out.alloc HW2.out.size _) (HW2.out.alloc HW2.out.size _).size (by have := HL2.out; omega) ?_; intro v9 w9 ho hb hg hat; have HF := Aside0.mk (And.intro (Heap.tight ho) hb); clear ho hb hg hat))
        obtain ⟨j1, j2, j3⟩ := HX.out
        constructor
        · exact ⟨j + 1, o ++ [x], congrArg (Value.int .i64) hj1, ⟨by omega, j2, j3⟩, ⟨HF.out.1⟩, ⟨HF.out.2⟩⟩
        · rw [hj1]; unfold measT; simp [intOf]; omega
      · rw [if_neg hab] at HX
        have c2 : decide (x.f0 ≤ x.f1) = false := decide_eq_false hab
        clear hab
        go_wp2_with (go_at_call 18; with_reducible refine (HIN.out _).mono ?_; rintro e W1 ⟨rfl, hb⟩; have hb2 := below_then ((Below.refl _ wr).alloc (Nat.le_refl _) (.cells #[.int .i64 (rd_T33 l0 (j : Int)).f0, .int .i64 (rd_T33 l0 (j : Int)).f1] 33)) (by simp) hb; have HO2 := Aside0.mk (Kd.R_below HO.out hb2); have HW2 := Aside0.mk (below_then HW.out HW.out.size hb2); clear hb hb2 HO HW)
        obtain ⟨j1, j2, j3⟩ := HX.out
        constructor
        · exact ⟨j + 1, o, congrArg (Value.int .i64) hj1, ⟨by omega, j2, j3⟩, ⟨Kd.R_alloc HO2.out _⟩, ⟨HW2.out.alloc HW2.out.size _⟩⟩
        · rw [hj1]; unfold measT; simp [intOf]; omega
    · have c1 : decide (j < l0.length) = false := decide_eq_false hj
      have HX : Aside0 (thr (smallR q) l0 = o) := ⟨by
        obtain ⟨j1, j2, j3⟩ := HJ.out
        rw [j3, List.drop_of_length_le (by omega)]
        rfl⟩
      clear hj HJ
      go_wp2_with fail
      go_ret
      exact ⟨_, rfl, by rw [HX.out]; exact Kd.R_mono HO.out (fun _ _ => trivial), HW.out⟩
theorem great_in (q : S35) (r : S33) (W : World) :
    Calls Tryd.prog 19 #[.agg #[.int .i64 q.f0, .int .i64 q.f1, .int .i64 q.f2], .agg #[.int .i64 r.f0, .int .i64 r.f1]] W fun e W' => e = .returned (.agg #[.int .i64 (greatR q r).f0, .int .i64 (greatR q r).f1]) ∧ Below W.heap.size W W' :=
  fold_row_great.calls q.f0 q.f1 q.f2 r.f0 r.f1 _ _ W rfl
set_option maxRecDepth 100000 in
set_option maxHeartbeats 1000000 in
theorem great_thr (q : S35) (A0 : Option Addr) (c0 : Nat) (l0 : List S33) (w : World) (hl : l0.length < 8796093022208) (hr0 : Kd.C k33 w A0 l0.length l0) (hc0 : l0.length ≤ c0) :
    Calls Tryd.prog 17 #[.slice A0 l0.length c0, .func (.func 19) #[.agg #[.int .i64 q.f0, .int .i64 q.f1, .int .i64 q.f2]] #[]] w fun e w' => ∃ v0_ : Value, e = .returned v0_ ∧ Kd.R k33 33 w' w.heap.size (fun _ => True) v0_ (thr (greatR q) l0) ∧ Below w.heap.size w w' := by
  have HR := Aside0.mk hr0
  have HL := Aside0.mk hl
  clear hr0 hc0 hl
  go_enter Tryd.func17, Tryd.ntmps17
  go_wp2_with fail
  go_loopw [5, 11] (fun v5 vj wr => ∃ (j : Nat) (o : List S33), vj = .int .i64 (j : Int) ∧ Aside0 (j ≤ l0.length ∧ o.length ≤ j ∧ thr (greatR q) l0 = (l0.drop j).foldl (thrStep (greatR q)) o) ∧ Aside0 (Kd.R k33 33 wr w.heap.size (own v5) v5 o) ∧ Aside0 (Below w.heap.size w wr))
    (fun _ vj _ => measT l0.length vj)
  case atStart => exact ⟨0, [], rfl, ⟨by omega, by simp, rfl⟩, ⟨Kd.R_nil _ _ _ _ _⟩, ⟨Below.refl _ _⟩⟩
  case round =>
    obtain ⟨j, o, rfl, HJ, HO, HW⟩ := hrel
    by_cases hj : j < l0.length
    · have hC := Kd.C_below HR.out HW.out
      have p1 : 0 ≤ (j : Int) := by omega
      have q1 : (j : Int) < (l0.length : Int) := by omega
      obtain ⟨ad, e1, hx0, hx1⟩ := at_T33 hC (j : Int) p1 q1
      simp only [Int.toNat_natCast] at hx0 hx1
      subst e1
      have c1 : decide (j < l0.length) = true := decide_eq_true hj
      have hj1 : wrap64 ((j : Int) + 1) = ((j + 1 : Nat) : Int) := by have := HL.out; unfold wrap64; omega
      obtain ⟨j1, j2, j3⟩ := HJ.out
      rw [drop_step _ l0 j hj] at j3
      have hln := thrStep_len (greatR q) o (rd_T33 l0 (j : Int))
      have HX : Aside0 (j < l0.length ∧ (thrStep (greatR q) o (rd_T33 l0 (j : Int))).length ≤ j + 1 ∧ thr (greatR q) l0 = (l0.drop (j + 1)).foldl (thrStep (greatR q)) (thrStep (greatR q) o (rd_T33 l0 (j : Int)))) := ⟨hj, by omega, j3⟩
      have HL2 := Aside0.mk (show o.length < 8796093022208 by have := HL.out; omega)
      replace p1 := eq_true p1
      replace q1 := eq_true q1
      clear hj hC j1 j2 j3 HJ hln
      obtain ⟨Ao, co, rfl, hoc, _⟩ := R_form HO.out
      have HIN := Aside0.mk (fun W => great_in q (rd_T33 l0 (j : Int)) W)
      obtain ⟨x, hx⟩ : ∃ x, greatR q (rd_T33 l0 (j : Int)) = x := ⟨_, rfl⟩
      have hst : thrStep (greatR q) o (rd_T33 l0 (j : Int)) = if x.f0 ≤ x.f1 then o ++ [x] else o := by rw [← hx]; rfl
      rw [hx] at HIN
      rw [hst] at HX
      clear hst hx hoc
      by_cases hab : x.f0 ≤ x.f1
      · rw [if_pos hab] at HX
        have c2 : decide (x.f0 ≤ x.f1) = true := decide_eq_true hab
        clear hab
        go_wp2_with (first | (go_at_call 19; with_reducible refine (HIN.out _).mono ?_; rintro e W1 ⟨rfl, hb⟩; have hb2 := below_then ((Below.refl _ wr).alloc (Nat.le_refl _) (.cells #[.int .i64 (rd_T33 l0 (j : Int)).f0, .int .i64 (rd_T33 l0 (j : Int)).f1] 33)) (by simp) hb; have HO2 := Aside0.mk (Kd.R_below HO.out hb2); have HW2 := Aside0.mk (below_then HW.out HW.out.size hb2); clear hb hb2 HO HW) | ((with_reducible refine gate_builtin (b := .append) (xs := #[.tmp 23, .tmp 25]) rfl ?_); (try (refine gate_guard (by rfl) ?_; dsimp only)); at_builtin; refine Kd.R_append k33 (w0 := w) w.heap.size rfl (.tmp 23) (.tmp 25) 27 33 (.agg #[(.int .i64 0), (.int .i64 0)]) 16 rfl Tryd.underlying27 info33 rfl (by decide) (by omega) (.slice Ao o.length co) o x [.int .i64 x.f0, .int .i64 x.f1] (fun _ => True) (fun _ => False) rfl (by rw [World.size_alloc]; rfl) (k33_mkM _ _ _ x) (fun _ hk => hk.elim) (fun _ _ => trivial) (Kd.R_alloc (Kd.R_mono HO2.out (fun _ _ => trivial)) _) (HW2.out.alloc HW2.out.size _) (HW2.out.alloc HW2.out.size _).size (by have := HL2.out; omega) ?_; intro v9 w9 ho hb hg hat; have HF := Aside0.mk (And.intro (Heap.tight ho) hb); clear ho hb hg hat))
        obtain ⟨j1, j2, j3⟩ := HX.out
        constructor
        · exact ⟨j + 1, o ++ [x], congrArg (Value.int .i64) hj1, ⟨by omega, j2, j3⟩, ⟨HF.out.1⟩, ⟨HF.out.2⟩⟩
        · rw [hj1]; unfold measT; simp [intOf]; omega
      · rw [if_neg hab] at HX
        have c2 : decide (x.f0 ≤ x.f1) = false := decide_eq_false hab
        clear hab
        go_wp2_with (go_at_call 19; with_reducible refine (HIN.out _).mono ?_; rintro e W1 ⟨rfl, hb⟩; have hb2 := below_then ((Below.refl _ wr).alloc (Nat.le_refl _) (.cells #[.int .i64 (rd_T33 l0 (j : Int)).f0, .int .i64 (rd_T33 l0 (j : Int)).f1] 33)) (by simp) hb; have HO2 := Aside0.mk (Kd.R_below HO.out hb2); have HW2 := Aside0.mk (below_then HW.out HW.out.size hb2); clear hb hb2 HO HW)
        obtain ⟨j1, j2, j3⟩ := HX.out
        constructor
        · exact ⟨j + 1, o, congrArg (Value.int .i64) hj1, ⟨by omega, j2, j3⟩, ⟨Kd.R_alloc HO2.out _⟩, ⟨HW2.out.alloc HW2.out.size _⟩⟩
        · rw [hj1]; unfold measT; simp [intOf]; omega
    · have c1 : decide (j < l0.length) = false := decide_eq_false hj
      have HX : Aside0 (thr (greatR q) l0 = o) := ⟨by
        obtain ⟨j1, j2, j3⟩ := HJ.out
        rw [j3, List.drop_of_length_le (by omega)]
        rfl⟩
      clear hj HJ
      go_wp2_with fail
      go_ret
      exact ⟨_, rfl, by rw [HX.out]; exact Kd.R_mono HO.out (fun _ _ => trivial), HW.out⟩
end Go.Proofs.YtfknoaokoncneabDoor.HandThr

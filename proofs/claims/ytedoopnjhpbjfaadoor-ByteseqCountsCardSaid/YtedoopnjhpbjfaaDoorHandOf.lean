/- The set of any ranges: what ranges.Of makes. No condition beyond a bound on how many ranges there are. -/
import Derived.Test.YtedoopnjhpbjfaaDoorPBx0
import Derived.Test.YtedoopnjhpbjfaaDoorHandPop
set_option linter.unusedSimpArgs false
set_option linter.unusedVariables false
namespace Go.Proofs.YtedoopnjhpbjfaaDoor.HandOf
open Go.RowKit Go.Shelf Go.Proofs.YtedoopnjhpbjfaaDoorW.PrintWords Go.Proofs.YtedoopnjhpbjfaaDoorW.PrintLast Go.Proofs.YtedoopnjhpbjfaaDoorW.PrintMore Go.Proofs.YtedoopnjhpbjfaaDoor.PB Go.Proofs.YtedoopnjhpbjfaaDoor.Sets Go.Proofs.YtedoopnjhpbjfaaDoor.Heap
attribute [local go_sem] max2_int min2_int max_two min_two max_three min_three max_four min_four   -- for this text's walks alone
theorem start_row (w : World) : Kd.R k35 35 (w.alloc (.cells #[] 35)) w.heap.size (own (.slice (some ⟨w.heap.size, 0, none⟩) 0 0)) (.slice (some ⟨w.heap.size, 0, none⟩) 0 0) [] :=
  ⟨fun k hk => hk.symm, [], World.ownsRow_lit w #[] 0 (Nat.le_refl _) (by unfold maxLen; omega) rfl, Reps.none _ _⟩
theorem start_at (w : World) : PAt w (w.heap.size + 1) (.slice (some ⟨w.heap.size, 0, none⟩) 0 0) [] ((w.alloc (.cells #[] 35)).alloc (.cells #[.slice (some ⟨w.heap.size, 0, none⟩) 0 0] 58)) := by
  refine ⟨by omega, ?_, Kd.R_alloc (start_row w) _, ((Below.refl _ w).alloc (Nat.le_refl _) _).alloc (by simp) _⟩
  have := Boxed.new (w.alloc (.cells #[] 35)) 58 (.slice (some ⟨w.heap.size, 0, none⟩) 0 0)
  rwa [World.size_alloc] at this
theorem upL_len (f : Nat) : ∀ (l : List S35) (j : Nat), (upL f l j).length = l.length := by
  induction f with
  | zero => intro l j; rfl
  | succ f ih =>
    intro l j
    rw [upL]
    split
    · rfl
    · rw [ih, swap_length]
theorem pushL_len (l : List S35) (r : S35) : (pushL l r).length = l.length + 1 := by rw [pushL, upL_len]; simp
theorem popL_len (l : List S35) : (popL l).length = l.length - 1 := by rw [popL, List.length_take, downL_len, swap_length]; omega
theorem drop_G (l : List S35) (j : Nat) (h : j < l.length) : l.drop j = G l j :: l.drop (j + 1) := by
  rw [List.drop_eq_getElem_cons h, G, List.getD_eq_getElem?_getD, List.getElem?_eq_getElem h]
  rfl
theorem fillL_cons (x : S35) (l p : List S35) : fillL (x :: l) p = fillL l (if (clamp x).f0 ≤ (clamp x).f1 then pushL p (clamp x) else p) := rfl
theorem head_at {w0 : World} {p : Nat} {u : Value} {q : List S35} {W : World} (h : PAt w0 p u q W) (h0 : 0 < q.length) :
    ∃ g c, u = .slice (some ⟨g, 0, none⟩) q.length c ∧ W.cell? ⟨g, 0, none⟩ = some (.int .i64 (G q 0).f0) ∧ W.cell? ⟨g, 1, none⟩ = some (.int .i64 (G q 0).f1) := by
  obtain ⟨g, c, rfl, _⟩ := Kd.R_form h.row h0
  obtain ⟨ce, _, hM, hcc, _⟩ := Kd.R_elem h.row z35 0 (Int.le_refl _) (by omega)
  obtain rfl := k35_openM hM
  exact ⟨g, c, rfl, hcc 0 _ rfl, hcc 1 _ rfl⟩
theorem last_at {b : Nat} {ok : Nat → Prop} {g c m : Nat} {o : List S35} {W : World} (h : Kd.R k35 35 W b ok (.slice (some ⟨g, 0, none⟩) o.length c) o) (hm : o.length = m + 1) :
    W.cell? ⟨g, m * 2 + 1, none⟩ = some (.int .i64 (G o m).f1) ∧ W.frozen? ⟨g, m * 2 + 1, none⟩ = false ∧
    ∀ x : Int, Kd.R k35 35 (W.setCell ⟨g, m * 2 + 1, none⟩ (.int .i64 x)) b ok (.slice (some ⟨g, 0, none⟩) o.length c) (o.set m ⟨(G o m).f0, x⟩) := by
  obtain ⟨ce, hcl, hM, hcc, hfr⟩ := Kd.R_elem h z35 (m : Int) (by omega) (by omega)
  obtain rfl := k35_openM hM
  refine ⟨hcc 1 _ rfl, hfr 1, fun x => ?_⟩
  exact (Kd.R_seg h (m : Int) (by omega) (by omega) (seg := [.int .i64 x]) (j := 1) hcl hcc (show 1 + 1 ≤ 2 by decide) (x' := ⟨(G o m).f0, x⟩) (k35_mkM _ _ _ ⟨(G o m).f0, x⟩) (fun _ hk => hk)).1
theorem after_pop {w0 : World} {p : Nat} {u v : Value} {q o : List S35} {W W2 : World} {a b : Value} (h : PAt w0 p u q W) (ho : Kd.R k35 35 W w0.heap.size (own v) v o) (hd : ∀ k, own u k → ¬ own v k)
    (hk : Kept (W.alloc (.cells #[a, b] 35)) W2 (fun k => own u k ∨ k = p)) :
    Kd.R k35 35 W2 w0.heap.size (own v) v o ∧ W2.cell? ⟨W.heap.size, 0, none⟩ = some a ∧ W2.cell? ⟨W.heap.size, 1, none⟩ = some b := by
  have hne : ¬ own v p := Kd.R_ne ho h.box (by decide)
  refine ⟨Kd.R_kept (Kd.R_alloc ho _) hk (fun k k1 k2 => ?_), ?_⟩
  · rcases k2 with k2 | rfl
    · exact hd k k2 k1
    · exact hne k1
  · have e : W2.heap[W.heap.size]? = some (.cells #[a, b] 35) := by
      refine (hk.2 W.heap.size (by simp) ?_).trans (World.alloc_heap_new W _)
      rintro (k1 | k1)
      · have := Kd.R_lt h.row _ k1.symm; omega
      · have := h.box.lt; omega
    exact ⟨by unfold World.cell?; dsimp only; rw [e]; rfl, by unfold World.cell?; dsimp only; rw [e]; rfl⟩
theorem grown_at {w0 : World} {p : Nat} {u v : Value} {l : List S35} {W W' : World} (h : PAt w0 p u l W) (hg : W.grownBy W' v.ownBlock) (hp : ¬ own v p) (hd : ∀ k, own u k → ¬ own v k) (hb : Below w0.heap.size w0 W') : PAt w0 p u l W' :=
  ⟨h.lo, h.box.kept hg (fun e => hp e), Kd.R_grown h.row hg (fun k hk e => hd k hk e), hb⟩
theorem set_at {w0 : World} {p g i : Nat} {u v : Value} {l : List S35} {W : World} (h : PAt w0 p u l W) (hg0 : w0.heap.size ≤ g) (hp : p ≠ g) (hd : ¬ own u g) : PAt w0 p u l (W.setCell ⟨g, i, none⟩ v) :=
  ⟨h.lo, (Below.heap_setCell _ _ _ _ (show p ≠ g from hp)).trans h.box, Kd.R_far (p := ⟨g, i, none⟩) h.row (fun k hk e => hd (by cases e; exact hk)) _, below_set h.below hg0⟩
def measJ (n : Nat) (v : Value) : Nat := n - (intOf v).toNat
def measW (p : Nat) (w : World) : Nat := match w.cell? ⟨p, 0, none⟩ with | some (.slice _ n _) => n | _ => 0
/-- What is so at the head of the second loop. -/
structure Two (l0 q o : List S35) : Prop where
  len : q.length + o.length ≤ l0.length
  qok : ∀ x, x ∈ q → Ok x
  ook : ∀ x, x ∈ o → Ok x
  heap : Hp q q.length
  rt : Rt 0 o
  le : ∀ x, x ∈ o → ∀ y, y ∈ q → x.f0 ≤ y.f0
  run : ∃ f, q.length ≤ f ∧ ofL l0 = Sets.drain f q o
theorem mergeL_len (o : List S35) (r : S35) : (mergeL o r).length ≤ o.length + 1 := by
  unfold mergeL
  split <;> simp
theorem Two.next {l0 q o : List S35} (h : Two l0 q o) (h0 : 0 < q.length) : Two l0 (popL q) (mergeL o (G q 0)) := by
  obtain ⟨h1, h2, h3, h4, h5, h6, f, h7, h8⟩ := h
  obtain ⟨p1, p2, p3⟩ := popL_spec q h4 h0
  have g0 : G q 0 ∈ q := (mem_G q _).mpr ⟨0, h0, rfl⟩
  obtain ⟨m1, m2, m3, m4⟩ := mergeL_spec o (G q 0) h5 h3 (h2 _ g0) (fun x hx => h6 x hx _ g0)
  obtain ⟨g, rfl⟩ : ∃ g, f = g + 1 := ⟨f - 1, by omega⟩
  refine ⟨?_, fun x hx => h2 x ((p3 x).mpr (.inr hx)), m2, p1, m1, fun x hx y hy => ?_, g, ?_, ?_⟩
  · have := mergeL_len o (G q 0); rw [p2]; omega
  · have := m3 x hx
    obtain ⟨i, i1, i2⟩ := (mem_G q y).mp ((p3 y).mpr (.inr hy))
    have := h4.root i i1
    rw [i2] at this
    omega
  · rw [p2]; omega
  · rw [h8, Sets.drain, if_neg (by omega)]
theorem Two.start (l0 : List S35) (hl : (fillL l0 []).length ≤ l0.length) : Two l0 (fillL l0 []) [] := by
  obtain ⟨f1, f2, f3⟩ := fillL_spec l0 [] (fun k _ h => absurd h (Nat.not_lt_zero _)) (fun x hx => absurd hx (by simp))
  exact ⟨by simpa using hl, f2, fun x hx => absurd hx (by simp), f1, trivial, fun x hx => absurd hx (by simp), _, Nat.le_refl _, rfl⟩
set_option maxRecDepth 100000 in
set_option maxHeartbeats 1000000 in
theorem of_calls (A0 : Option Addr) (c0 : Nat) (l0 : List S35) (w : World) (hl : l0.length < 8796093022208) (hr0 : Kd.C k35 w A0 l0.length l0) (hc0 : l0.length ≤ c0) :
    Calls Tryd.prog 27 #[.slice A0 l0.length c0] w fun e w' => ∃ v0_ : Value, e = .returned v0_ ∧ Kd.R k35 35 w' w.heap.size (fun _ => True) v0_ (ofL l0) ∧ Below w.heap.size w w' := by
  have HR := Aside0.mk hr0
  have HC := Aside0.mk hc0
  have HL := Aside0.mk hl
  clear hr0 hc0 hl
  go_enter Tryd.func27, Tryd.ntmps27
  go_wp2_with fail
  go_loopw [13] (fun vj wr => ∃ (j : Nat) (u : Value) (q : List S35), vj = .int .i64 (j : Int) ∧ Aside0 (j ≤ l0.length ∧ q.length ≤ j ∧ fillL l0 [] = fillL (l0.drop j) q) ∧ Aside0 (PAt w (w.heap.size + 1) u q wr))
    (fun vj _ => measJ l0.length vj)
  case atStart => exact ⟨0, _, [], rfl, ⟨by omega, by simp, rfl⟩, ⟨start_at w⟩⟩
  case round =>
    obtain ⟨j, u, q, rfl, HJ, HA⟩ := hrel
    by_cases hj : j < l0.length
    · have hC := Kd.C_below HR.out HA.out.below
      have p1 : 0 ≤ (j : Int) := by omega
      have q1 : (j : Int) < (l0.length : Int) := by omega
      obtain ⟨ad, e1, hx0, hx1⟩ := at_T35 hC (j : Int) p1 q1
      simp only [Int.toNat_natCast] at hx0 hx1
      subst e1
      have c1 : decide (j < l0.length) = true := decide_eq_true hj
      have hj1 : wrap64 ((j : Int) + 1) = ((j + 1 : Nat) : Int) := by have := HL.out; unfold wrap64; omega
      obtain ⟨a, ha⟩ : ∃ a, a = max (rd_T35 l0 (j : Int)).f0 0 := ⟨_, rfl⟩
      obtain ⟨b, hb⟩ : ∃ b, b = min (rd_T35 l0 (j : Int)).f1 1114111 := ⟨_, rfl⟩
      have hmx : (if (rd_T35 l0 (j : Int)).f0 < 0 then 0 else (rd_T35 l0 (j : Int)).f0) = a := by rw [ha]; split <;> omega
      have hmn : (if 1114111 < (rd_T35 l0 (j : Int)).f1 then 1114111 else (rd_T35 l0 (j : Int)).f1) = b := by rw [hb]; split <;> omega
      have hcl : clamp (G l0 j) = ⟨a, b⟩ := by rw [ha, hb]; rfl
      obtain ⟨j1, j2, j3⟩ := HJ.out
      rw [drop_G l0 j hj, fillL_cons, hcl] at j3
      replace p1 := eq_true p1
      replace q1 := eq_true q1
      clear HJ
      by_cases hab : a ≤ b
      · have c2 : decide (a ≤ b) = true := decide_eq_true hab
        rw [if_pos hab] at j3
        have HJ := Aside0.mk (And.intro hj (And.intro j2 j3))
        clear hj hC j1 j2 j3 ha hb hcl hab
        go_wp2_with (go_at_call 33; with_reducible refine (push_calls w (w.heap.size + 1) u q ⟨a, b⟩ (by have := HJ.out; have := HL.out; omega) _ (HA.out.under ((Below.refl _ wr).alloc (Nat.le_refl _) _))).mono ?_; rintro e W1 ⟨⟨v1, rfl⟩, u1, hA1, _, _⟩; have HA1 := Aside0.mk hA1; clear hA1)
        obtain ⟨hj, j2, j3⟩ := HJ.out
        constructor
        · exact ⟨j + 1, u1, _, congrArg (Value.int .i64) hj1, ⟨by omega, by rw [pushL_len]; omega, j3⟩, HA1⟩
        · rw [hj1]; unfold measJ; simp [intOf]; omega
      · have c2 : decide (a ≤ b) = false := decide_eq_false hab
        rw [if_neg hab] at j3
        have HJ := Aside0.mk (And.intro hj (And.intro j2 j3))
        clear hj hC j1 j2 j3 ha hb hcl hab
        go_wp2_with fail
        obtain ⟨hj, j2, j3⟩ := HJ.out
        constructor
        · exact ⟨j + 1, u, _, congrArg (Value.int .i64) hj1, ⟨by omega, by omega, j3⟩, ⟨HA.out.under ((Below.refl _ wr).alloc (Nat.le_refl _) _)⟩⟩
        · rw [hj1]; unfold measJ; simp [intOf]; omega
    · have c1 : decide (j < l0.length) = false := decide_eq_false hj
      obtain ⟨j1, j2, j3⟩ := HJ.out
      rw [List.drop_of_length_le (by omega)] at j3
      have e2 : fillL l0 [] = q := j3
      have HT := Aside0.mk (Two.start l0 (by rw [e2]; omega))
      rw [e2] at HT
      clear HJ hj j1 j2 j3 e2
      go_wp2_with fail
      go_loopw [6] (fun v6 wr => ∃ (u : Value) (q o : List S35), Aside0 (Two l0 q o) ∧ Aside0 (PAt w (w.heap.size + 1) u q wr) ∧ Aside0 (Kd.R k35 35 wr w.heap.size (own v6) v6 o) ∧ Aside0 (∀ k, own u k → ¬ own v6 k))
        (fun _ wr => measW (w.heap.size + 1) wr)
      case atStart => exact ⟨u, q, [], HT, HA, ⟨Kd.R_nil _ _ _ _ _⟩, ⟨fun k _ hk => by cases hk⟩⟩
      case round =>
        obtain ⟨u2, q2, o, HT2, HA2, HO, HD⟩ := hrel
        clear HA HT
        by_cases hq : q2.length = 0
        · have c3 : ((q2.length : Int) == 0) = true := by rw [hq]; rfl
          have HX : Aside0 (ofL l0 = o) := ⟨by
            obtain ⟨f, f1, f2⟩ := HT2.out.run
            rw [f2]
            cases f with
            | zero => rfl
            | succ f => rw [Sets.drain, if_pos hq]⟩
          clear hq
          go_wp2_with (go_at_call 34; with_reducible refine (empty_calls w _ _ q2 wr HA2.out).mono ?_; rintro e W1 ⟨rfl, hW⟩; obtain rfl := hW.symm)
          go_ret
          exact ⟨_, rfl, by rw [HX.out]; exact Kd.R_mono HO.out (fun _ _ => trivial), HA2.out.below⟩
        · have c3 : ((q2.length : Int) == 0) = false := by rw [beq_eq_false_iff_ne]; omega
          have h0 : 0 < q2.length := by omega
          obtain ⟨g2, c2, rfl, hx0, hx1⟩ := head_at HA2.out h0
          have hp := HA2.out.box.cell
          have HQ : Aside0 (0 < q2.length ∧ q2.length < 8796093022208) := ⟨h0, by have := HT2.out.len; have := HL.out; omega⟩
          have q1 : (0 < q2.length) = True := eq_true h0
          have HM : Aside0 (measW (w.heap.size + 1) wr = q2.length) := ⟨by unfold measW; rw [hp]⟩
          have HN := Aside0.mk (HT2.out.next h0)
          clear hq h0
          cases hm : o.length with
          | zero =>
            obtain rfl : o = [] := List.length_eq_zero_iff.mp hm
            obtain ⟨Ao, co, rfl, _, _⟩ := R_form HO.out
            clear hm
            go_wp2_with (first | (go_at_call 34; with_reducible refine (empty_calls w _ _ q2 wr HA2.out).mono ?_; rintro e W1 ⟨rfl, hW⟩; obtain rfl := hW.symm) | (go_at_call 35; with_reducible refine (pop_calls w _ _ q2 HQ.out.1 HQ.out.2 _ (HA2.out.under ((Below.refl _ _).alloc (Nat.le_refl _) _))).mono ?_; rintro e W2 ⟨⟨v_, rfl⟩, u3, hA3, ho3, hk3⟩; obtain ⟨hO2, hr0, hr1⟩ := after_pop HA2.out HO.out HD.out hk3; have HA3 := Aside0.mk hA3; have HO2 := Aside0.mk hO2; have HD3 := Aside0.mk (fun k hk => HD.out k (ho3 k hk)); clear hA3 hO2 ho3 hk3; skip))
            go_quiet (fail)
            have hA4 := HA3.out.under (pw_below_drewN (Below.refl _ W2) nq)
            have hO4 := Kd.R_drewN HO2.out nq
            have hr4 : (W2.drewN nq).cell? ⟨wr.heap.size, 0, none⟩ = some (.int .i64 (G q2 0).f0) := hr0
            have hr5 : (W2.drewN nq).cell? ⟨wr.heap.size, 1, none⟩ = some (.int .i64 (G q2 0).f1) := hr1
            clear HA3 HO2 hr0 hr1
            generalize W2.drewN nq = W3 at hA4 hO4 hr4 hr5 ⊢
            have HA3 := Aside0.mk hA4
            have HO2 := Aside0.mk hO4
            clear hA4 hO4
            go_wp2_with ((with_reducible refine gate_builtin (b := .append) (xs := #[.tmp 75, .tmp 77]) rfl ?_); (try (refine gate_guard (by rfl) ?_; dsimp only)); at_builtin; refine Kd.R_append k35 (w0 := w) w.heap.size rfl (.tmp 75) (.tmp 77) 22 35 (.agg #[(.int .i64 0), (.int .i64 0)]) 16 rfl Tryd.underlying22 info35 rfl (by decide) (by omega) (.slice Ao 0 co) [] (G q2 0) [.int .i64 (G q2 0).f0, .int .i64 (G q2 0).f1] (fun _ => True) (fun _ => False) rfl rfl (k35_mkM _ _ _ (G q2 0)) (fun _ hk => hk.elim) (fun _ _ => trivial) (Kd.R_mono HO2.out (fun _ _ => trivial)) HA3.out.below HA3.out.below.size (by simp) ?_; intro v9 w9 ho hb hg hat; have HF := Aside0.mk (And.intro ho (And.intro hb (And.intro hg hat))); clear ho hb hg hat)
            obtain ⟨ho, hb, hg, hat⟩ := HF.out
            have hpo : ¬ own (.slice Ao ([] : List S35).length co) (w.heap.size + 1) := Kd.R_ne HO2.out HA3.out.box (by decide)
            have hA9 := grown_at HA3.out hg hpo HD3.out hb
            constructor
            · refine ⟨u3, popL q2, mergeL [] (G q2 0), HN, ⟨hA9⟩, ⟨Heap.tight ho⟩, ⟨fun k hk1 hk2 => ?_⟩⟩
              rcases hat with h1 | ⟨b, h1, h2⟩
              · exact HD3.out k hk1 (hk2.trans h1)
              · have e := Option.some.inj (hk2.trans h1)
                have := Kd.R_lt HA3.out.row _ hk1.symm
                omega
            · have hM9 : measW (w.heap.size + 1) w9 = (popL q2).length := by
                obtain ⟨A9, c9, e9, _⟩ := R_form hA9.row
                unfold measW
                rw [hA9.box.cell, e9]
              rw [hM9, HM.out, popL_len]
              have := HQ.out.1
              omega
          | succ m =>
            obtain ⟨g6, c6, rfl, hg6, _⟩ := Kd.R_form HO.out (by omega)
            have hook : Ok (G o m) := HT2.out.ook _ ((mem_G o _).mpr ⟨m, by omega, rfl⟩)
            have hk : wrap64 ((o.length : Int) - 1) = (m : Int) := by have := HT2.out.len; have := HL.out; unfold wrap64; omega
            have hw : wrap64 ((G o m).f1 + 1) = (G o m).f1 + 1 := by obtain ⟨_, _, _⟩ := hook; unfold wrap64; omega
            have d0 : decide (0 ≤ (m : Int)) = true := decide_eq_true (by omega)
            have p1 : (0 ≤ (m : Int)) = True := eq_true (by omega)
            have q3 : ((m : Int) < (o.length : Int)) = True := eq_true (by omega)
            have q4 : (m < o.length) = True := eq_true (by omega)
            have HM2 := Aside0.mk hm
            have HGB := Aside0.mk hg6
            clear hook hm hg6
            by_cases hc : (G q2 0).f0 ≤ (G o m).f1 + 1
            · have c5 : decide ((G q2 0).f0 ≤ (G o m).f1 + 1) = true := decide_eq_true hc
              have hmg : mergeL o (G q2 0) = o.set m ⟨(G o m).f0, max (G o m).f1 (G q2 0).f1⟩ := by
                rw [mergeL, show o.length - 1 = m by have := HM2.out; omega, if_pos ⟨by have := HM2.out; omega, hc⟩]
              obtain ⟨x, hx⟩ : ∃ x, x = max (G o m).f1 (G q2 0).f1 := ⟨_, rfl⟩
              have hmx : (if (G o m).f1 < (G q2 0).f1 then (G q2 0).f1 else (G o m).f1) = x := by rw [hx]; split <;> omega
              rw [← hx] at hmg
              have HG := Aside0.mk hmg
              clear hc hx hmg
              go_wp2_with (first | (go_at_call 34; with_reducible refine (empty_calls w _ _ q2 wr HA2.out).mono ?_; rintro e W1 ⟨rfl, hW⟩; obtain rfl := hW.symm) | (go_at_call 35; with_reducible refine (pop_calls w _ _ q2 HQ.out.1 HQ.out.2 _ (HA2.out.under ((Below.refl _ _).alloc (Nat.le_refl _) _))).mono ?_; rintro e W2 ⟨⟨v_, rfl⟩, u3, hA3, ho3, hk3⟩; obtain ⟨hO2, hr0, hr1⟩ := after_pop HA2.out HO.out HD.out hk3; have HA3 := Aside0.mk hA3; have HO2 := Aside0.mk hO2; have HD3 := Aside0.mk (fun k hk => HD.out k (ho3 k hk)); clear hA3 hO2 ho3 hk3; obtain ⟨hl0, hl1, _⟩ := last_at HO2.out HM2.out))
              go_quiet (fail)
              have hA4 := HA3.out.under (pw_below_drewN (Below.refl _ W2) nq)
              have hO4 := Kd.R_drewN HO2.out nq
              have hr4 : (W2.drewN nq).cell? ⟨wr.heap.size, 0, none⟩ = some (.int .i64 (G q2 0).f0) := hr0
              have hr5 : (W2.drewN nq).cell? ⟨wr.heap.size, 1, none⟩ = some (.int .i64 (G q2 0).f1) := hr1
              clear HA3 HO2 hr0 hr1 hl0 hl1
              generalize W2.drewN nq = W3 at hA4 hO4 hr4 hr5 ⊢
              have HA3 := Aside0.mk hA4
              have HO2 := Aside0.mk hO4
              clear hA4 hO4
              obtain ⟨hl0, hl1, hl2⟩ := last_at HO2.out HM2.out
              go_wp2_with fail
              have hA5 := HA3.out.under (below_drew1 (Below.refl _ W3))
              have hO5 := Kd.R_drew HO2.out
              clear HA3 HO2 hl0 hl1 hl2 hr4
              have HA3 := Aside0.mk hA5
              have HO2 := Aside0.mk hO5
              clear hA5 hO5
              obtain ⟨hl0, hl1, hl2⟩ := last_at HO2.out HM2.out
              have HL2 := Aside0.mk hl2
              clear hl2
              replace hr5 : W3.drew.cell? ⟨wr.heap.size, 1, none⟩ = some (.int .i64 (G q2 0).f1) := hr5
              refine start_ (n := 13) (S := fun w' => w'.cell? ⟨g6, m * 2 + 1, none⟩ = some (.int .i64 (G o m).f1) ∧ w'.cell? ⟨wr.heap.size, 1, none⟩ = some (.int .i64 (G q2 0).f1)) (ds := [12]) #[false, false, false, false, false, false, false, false, false, false, false, false, false] (by kernel_rfl) rfl rfl ⟨hl0, hr5⟩ (fun hHeld => ?_)
              generalize W3.drew = W4 at HA3 HO2 hr5 hl0 hl1 HL2 hHeld ⊢
              refine pure_ (i := 0) (N := some 63) (v := ?_) (a' := ?_) #[true, false, false, false, false, false, false, false, false, false, false, false, false] rfl rfl (by kernel_rfl) (fun _ _ _ h => h) (Or.inl ⟨by rfl, ?_⟩) ?_ ?_
              rotate_left
              · intro w'
                go_simp
                with_reducible rfl
              rotate_left
              · simp only [Act.put, List.setIfInBounds_toArray, List.set_cons_zero, List.set_cons_succ, i64_w, i32_w]
                rfl
              refine pure_ (i := 1) (N := some 64) (v := ?_) (a' := ?_) #[true, true, false, false, false, false, false, false, false, false, false, false, false] rfl rfl (by kernel_rfl) (fun _ _ _ h => h) (Or.inl ⟨by rfl, ?_⟩) ?_ ?_
              rotate_left
              · intro w'
                go_simp
                with_reducible rfl
              rotate_left
              · simp only [Act.put, List.setIfInBounds_toArray, List.set_cons_zero, List.set_cons_succ, i64_w, i32_w]
                rfl
              refine pure_ (i := 2) (N := some 65) (v := ?_) (a' := ?_) #[true, true, true, false, false, false, false, false, false, false, false, false, false] rfl rfl (by kernel_rfl) (fun _ _ _ h => h) (Or.inl ⟨by rfl, ?_⟩) ?_ ?_
              rotate_left
              · intro w'
                go_simp
                with_reducible rfl
              rotate_left
              · simp only [Act.put, List.setIfInBounds_toArray, List.set_cons_zero, List.set_cons_succ, i64_w, i32_w]
                rfl
              refine pure_ (i := 3) (N := some 66) (v := ?_) (a' := ?_) #[true, true, true, true, false, false, false, false, false, false, false, false, false] rfl rfl (by kernel_rfl) (fun _ _ _ h => h) (Or.inl ⟨by rfl, ?_⟩) ?_ ?_
              rotate_left
              · intro w'
                go_simp
                with_reducible rfl
              rotate_left
              · simp only [Act.put, List.setIfInBounds_toArray, List.set_cons_zero, List.set_cons_succ, i64_w, i32_w]
                rfl
              refine pure_ (i := 4) (N := some 67) (v := ?_) (a' := ?_) #[true, true, true, true, true, false, false, false, false, false, false, false, false] rfl rfl (by kernel_rfl) (fun _ _ _ h => h) (Or.inl ⟨by rfl, ?_⟩) ?_ ?_
              rotate_left
              · intro w'
                go_simp
                with_reducible rfl
              rotate_left
              · simp only [Act.put, List.setIfInBounds_toArray, List.set_cons_zero, List.set_cons_succ, i64_w, i32_w]
                rfl
              refine pure_ (i := 5) (N := some 68) (v := ?_) (a' := ?_) #[true, true, true, true, true, true, false, false, false, false, false, false, false] rfl rfl (by kernel_rfl) (fun _ _ _ h => h) (Or.inl ⟨by rfl, ?_⟩) ?_ ?_
              rotate_left
              · intro w'
                go_simp
                with_reducible rfl
              rotate_left
              · simp only [Act.put, List.setIfInBounds_toArray, List.set_cons_zero, List.set_cons_succ, i64_w, i32_w]
                rfl
              refine pure_ (i := 7) (N := some 70) (v := ?_) (a' := ?_) #[true, true, true, true, true, true, false, true, false, false, false, false, false] rfl rfl (by kernel_rfl) (fun _ _ _ h => h) (Or.inl ⟨by rfl, ?_⟩) ?_ ?_
              rotate_left
              · intro w'
                go_simp
                with_reducible rfl
              rotate_left
              · simp only [Act.put, List.setIfInBounds_toArray, List.set_cons_zero, List.set_cons_succ, i64_w, i32_w]
                rfl
              refine take_ (i := 6) (N := some 69) (v := ?_) (a' := ?_) #[true, true, true, true, true, true, true, true, false, false, false, false, false] rfl rfl (by kernel_rfl) (fun _ _ _ h => h) (Or.inl ⟨by rfl, ?_⟩) hHeld ?_ ?_
              rotate_left
              · rintro w' ⟨s0, s1⟩
                go_simp
                with_reducible rfl
              rotate_left
              · simp only [Act.put, List.setIfInBounds_toArray, List.set_cons_zero, List.set_cons_succ, i64_w, i32_w]
                rfl
              refine take_ (i := 8) (N := some 71) (v := ?_) (a' := ?_) #[true, true, true, true, true, true, true, true, true, false, false, false, false] rfl rfl (by kernel_rfl) (fun _ _ _ h => h) (Or.inl ⟨by rfl, ?_⟩) hHeld ?_ ?_
              rotate_left
              · rintro w' ⟨s0, s1⟩
                go_simp
                with_reducible rfl
              rotate_left
              · simp only [Act.put, List.setIfInBounds_toArray, List.set_cons_zero, List.set_cons_succ, i64_w, i32_w]
                rfl
              refine pure_ (i := 9) (N := some 72) (v := ?_) (a' := ?_) #[true, true, true, true, true, true, true, true, true, true, false, false, false] rfl rfl (by kernel_rfl) (fun _ _ _ h => h) (Or.inl ⟨by rfl, ?_⟩) ?_ ?_
              rotate_left
              · intro w'
                go_simp
                with_reducible rfl
              rotate_left
              · simp only [Act.put, List.setIfInBounds_toArray, List.set_cons_zero, List.set_cons_succ, i64_w, i32_w]
                rfl
              refine pure_ (i := 10) (N := some 73) (v := ?_) (a' := ?_) #[true, true, true, true, true, true, true, true, true, true, true, false, false] rfl rfl (by kernel_rfl) (fun _ _ _ h => h) (Or.inl ⟨by rfl, ?_⟩) ?_ ?_
              rotate_left
              · intro w'
                go_simp
                with_reducible rfl
              rotate_left
              · simp only [Act.put, List.setIfInBounds_toArray, List.set_cons_zero, List.set_cons_succ, i64_w, i32_w]
                rfl
              refine pure_ (i := 11) (N := some 74) (v := ?_) (a' := ?_) #[true, true, true, true, true, true, true, true, true, true, true, true, false] rfl rfl (by kernel_rfl) (fun _ _ _ h => h) (Or.inl ⟨by rfl, ?_⟩) ?_ ?_
              rotate_left
              · intro w'
                go_simp
                with_reducible rfl
              rotate_left
              · simp only [Act.put, List.setIfInBounds_toArray, List.set_cons_zero, List.set_cons_succ, i64_w, i32_w]
                rfl
              refine last_ (i := 12) (N := none) #[true, true, true, true, true, true, true, true, true, true, true, true, true] rfl rfl (by kernel_rfl) (by decide) (fun K hK => ?_)
              refine skip_ (w1 := ?_) (by rfl) rfl ?_ ?_
              rotate_left
              · go_simp
                rfl
              refine hK.out _ _ ?_
              clear hK K
              refine done_ (by kernel_rfl) ?_
      
              try go_wp2
              have hpo : w.heap.size + 1 ≠ g6 := fun e => Kd.R_ne HO2.out HA3.out.box (by decide) (by rw [e]; rfl)
              have hA9 : PAt w (w.heap.size + 1) u3 (popL q2) (W4.setCell ⟨g6, m * 2 + 1, none⟩ (.int .i64 x)) := set_at HA3.out HGB.out hpo (fun hk => HD3.out g6 hk rfl)
              constructor
              · exact ⟨u3, popL q2, mergeL o (G q2 0), HN, ⟨hA9⟩, ⟨by rw [HG.out]; exact HL2.out x⟩, HD3⟩
              · have hM9 : measW (w.heap.size + 1) (W4.setCell ⟨g6, m * 2 + 1, none⟩ (.int .i64 x)) = (popL q2).length := by
                  obtain ⟨A9, c9, e9, _⟩ := R_form hA9.row
                  unfold measW
                  rw [hA9.box.cell, e9]
                rw [hM9, HM.out, popL_len]
                have := HQ.out.1
                omega
            · have c5 : decide ((G q2 0).f0 ≤ (G o m).f1 + 1) = false := decide_eq_false hc
              have hmg : mergeL o (G q2 0) = o ++ [G q2 0] := by
                rw [mergeL, show o.length - 1 = m by have := HM2.out; omega, if_neg (fun hh => hc hh.2)]
              have HG := Aside0.mk hmg
              clear hc hmg
              go_wp2_with (first | (go_at_call 34; with_reducible refine (empty_calls w _ _ q2 wr HA2.out).mono ?_; rintro e W1 ⟨rfl, hW⟩; obtain rfl := hW.symm) | (go_at_call 35; with_reducible refine (pop_calls w _ _ q2 HQ.out.1 HQ.out.2 _ (HA2.out.under ((Below.refl _ _).alloc (Nat.le_refl _) _))).mono ?_; rintro e W2 ⟨⟨v_, rfl⟩, u3, hA3, ho3, hk3⟩; obtain ⟨hO2, hr0, hr1⟩ := after_pop HA2.out HO.out HD.out hk3; have HA3 := Aside0.mk hA3; have HO2 := Aside0.mk hO2; have HD3 := Aside0.mk (fun k hk => HD.out k (ho3 k hk)); clear hA3 hO2 ho3 hk3; obtain ⟨hl0, hl1, _⟩ := last_at HO2.out HM2.out))
              go_quiet (fail)
              have hA4 := HA3.out.under (pw_below_drewN (Below.refl _ W2) nq)
              have hO4 := Kd.R_drewN HO2.out nq
              have hr4 : (W2.drewN nq).cell? ⟨wr.heap.size, 0, none⟩ = some (.int .i64 (G q2 0).f0) := hr0
              have hr5 : (W2.drewN nq).cell? ⟨wr.heap.size, 1, none⟩ = some (.int .i64 (G q2 0).f1) := hr1
              clear HA3 HO2 hr0 hr1 hl0 hl1
              generalize W2.drewN nq = W3 at hA4 hO4 hr4 hr5 ⊢
              have HA3 := Aside0.mk hA4
              have HO2 := Aside0.mk hO4
              clear hA4 hO4
              go_wp2_with ((with_reducible refine gate_builtin (b := .append) (xs := #[.tmp 75, .tmp 77]) rfl ?_); (try (refine gate_guard (by rfl) ?_; dsimp only)); at_builtin; refine Kd.R_append k35 (w0 := w) w.heap.size rfl (.tmp 75) (.tmp 77) 22 35 (.agg #[(.int .i64 0), (.int .i64 0)]) 16 rfl Tryd.underlying22 info35 rfl (by decide) (by omega) (.slice (some ⟨g6, 0, none⟩) o.length c6) o (G q2 0) [.int .i64 (G q2 0).f0, .int .i64 (G q2 0).f1] (fun _ => True) (fun _ => False) rfl rfl (k35_mkM _ _ _ (G q2 0)) (fun _ hk => hk.elim) (fun _ _ => trivial) (Kd.R_mono HO2.out (fun _ _ => trivial)) HA3.out.below HA3.out.below.size (by have := HT2.out.len; have := HL.out; have := HQ.out; omega) ?_; intro v9 w9 ho hb hg hat; have HF := Aside0.mk (And.intro ho (And.intro hb (And.intro hg hat))); clear ho hb hg hat)
              obtain ⟨ho, hb, hg, hat⟩ := HF.out
              have hpo : ¬ own (.slice (some ⟨g6, 0, none⟩) o.length c6) (w.heap.size + 1) := Kd.R_ne HO2.out HA3.out.box (by decide)
              have hA9 := grown_at HA3.out hg hpo HD3.out hb
              constructor
              · refine ⟨u3, popL q2, mergeL o (G q2 0), HN, ⟨hA9⟩, ⟨by rw [HG.out]; exact Heap.tight ho⟩, ⟨fun k hk1 hk2 => ?_⟩⟩
                rcases hat with h1 | ⟨b, h1, h2⟩
                · exact HD3.out k hk1 (hk2.trans h1)
                · have e := Option.some.inj (hk2.trans h1)
                  have := Kd.R_lt HA3.out.row _ hk1.symm
                  omega
              · have hM9 : measW (w.heap.size + 1) w9 = (popL q2).length := by
                  obtain ⟨A9, c9, e9, _⟩ := R_form hA9.row
                  unfold measW
                  rw [hA9.box.cell, e9]
                rw [hM9, HM.out, popL_len]
                have := HQ.out.1
                omega
/-- What Of tells, as the printed texts want it told. -/
def ranges_Of.f (l : List S35) : Option (List S35) := if l.length < 8796093022208 then some (ofL l) else none
theorem ranges_Of.calls (A0 : Option Addr) (c0 : Nat) (l0 : List S35) (r : List S35) (w : World) (hr0 : Kd.C k35 w A0 l0.length l0) (hc0 : l0.length ≤ c0) (h : ranges_Of.f l0 = some r) :
    Calls Tryd.prog 27 #[.slice A0 l0.length c0] w fun e w' => ∃ v0_ : Value, e = .returned (v0_) ∧ Kd.R k35 35 w' w.heap.size (fun _ => True) v0_ r ∧ Below w.heap.size w w' := by
  unfold ranges_Of.f at h
  split at h
  · obtain rfl := Option.some.inj h
    exact of_calls A0 c0 l0 w (by assumption) hr0 hc0
  · cases h
end Go.Proofs.YtedoopnjhpbjfaaDoor.HandOf

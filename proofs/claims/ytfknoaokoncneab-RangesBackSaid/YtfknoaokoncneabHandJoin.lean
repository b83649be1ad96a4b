/- RangesJoin: the law's own walk. No condition: it tells true for any two rows of ranges. -/
import Derived.Test.YtfknoaokoncneabPfS
set_option linter.unusedSimpArgs false
set_option linter.unusedVariables false
namespace Go.Proofs.Ytfknoaokoncneab.HandJoin
open Go.RowKit Go.Shelf Go.Proofs.YtfknoaokoncneabW.PrintWords Go.Proofs.YtfknoaokoncneabW.PrintLast Go.Proofs.YtfknoaokoncneabW.PrintMore Go.Proofs.Ytfknoaokoncneab.PR Go.Proofs.Ytfknoaokoncneab.Sets Go.Proofs.Ytfknoaokoncneab.PfR Go.Proofs.Ytfknoaokoncneab.HandUnion
/-- A row that is read. -/
def Told (W : World) (A : Option Addr) (c : Nat) (l : List S35) : Prop := l.length ≤ c ∧ Kd.C k35 W A l.length l
theorem Told.below {W W' : World} {A : Option Addr} {c : Nat} {l : List S35} (h : Told W A c l) (hb : Below W.heap.size W W') : Told W' A c l := ⟨h.1, Kd.C_below h.2 hb⟩
theorem row_of {f : FuncId} {args : Array Value} {W : World} {r : List S35} (h : Calls Try.prog f args W fun e w' => ∃ v0_ : Value, e = .returned (v0_) ∧ Kd.R k35 35 w' W.heap.size (fun _ => True) v0_ r ∧ Below W.heap.size W w') :
    Calls Try.prog f args W fun e W' => ∃ A c, e = .returned (.slice A r.length c) ∧ Told W' A c r ∧ Below W.heap.size W W' := by
  refine h.mono ?_
  rintro e w' ⟨v, rfl, hr, hb⟩
  obtain ⟨A, c, rfl, h1, h2⟩ := Heap.R_form hr
  exact ⟨A, c, rfl, ⟨h1, h2⟩, hb⟩
theorem two_rows {W : World} {n : Nat} {A0 A1 : Option Addr} {c0 c1 : Nat} {a b : List S35} (hb : W.heap[n]? = some (.cells #[.slice A0 a.length c0, .slice A1 b.length c1] 22)) (ha : Told W A0 c0 a) (hb1 : Told W A1 c1 b) :
    Kd.C (Kd.slice 35 k35) W (some ⟨n, 0, none⟩) 2 [a, b] := by
  have hc : ∀ i u, (#[Value.slice A0 a.length c0, .slice A1 b.length c1] : Array Value)[i]? = some u → W.cell? ⟨n, i, none⟩ = some u := fun i u hu => by
    unfold World.cell?
    dsimp only
    rw [hb]
    exact hu
  refine ⟨rfl, by decide, fun _ => ⟨⟨n, 0, none⟩, rfl, fun j p hp => ?_⟩⟩
  match j, hp with
  | 0, hp =>
    obtain rfl := Option.some.inj hp
    refine ⟨[.slice A0 a.length c0], rfl, ⟨A0, c0, rfl, ha.1, ha.2⟩, fun i u hu => ?_⟩
    cases i with
    | zero => exact hc 0 u hu
    | succ i => simp at hu
  | 1, hp =>
    obtain rfl := Option.some.inj hp
    refine ⟨[.slice A1 b.length c1], rfl, ⟨A1, c1, rfl, hb1.1, hb1.2⟩, fun i u hu => ?_⟩
    cases i with
    | zero => exact hc 1 u hu
    | succ i => simp at hu
  | j + 2, hp => simp at hp
theorem not_at {W : World} {A : Option Addr} {c : Nat} {a : List S35} (h : Told W A c a) (hl : a.length ≤ 40) : Calls Try.prog 16 #[.slice A a.length c] W fun e W' => ∃ A' c', e = .returned (.slice A' (notL a).length c') ∧ Told W' A' c' (notL a) ∧ Below W.heap.size W W' :=
  row_of (ranges_Not.calls 3000 A c a _ W h.2 h.1 (Not_f a (by omega) 3000 (by omega)))
theorem both_at {W : World} {A B : Option Addr} {c d : Nat} {a b : List S35} (h : Told W A c a) (h' : Told W B d b) (hl : a.length ≤ 40) (hl' : b.length ≤ 40) : Calls Try.prog 18 #[.slice A a.length c, .slice B b.length d] W fun e W' => ∃ A' c', e = .returned (.slice A' (bothL a b).length c') ∧ Told W' A' c' (bothL a b) ∧ Below W.heap.size W W' :=
  row_of (ranges_Both.calls 3000 A c a B d b _ W h.2 h.1 h'.2 h'.1 (Both_f a b (by omega) (by omega) 3000 (by omega)))
theorem less_at {W : World} {A B : Option Addr} {c d : Nat} {a b : List S35} (h : Told W A c a) (h' : Told W B d b) (hl : a.length ≤ 40) (hl' : b.length ≤ 40) : Calls Try.prog 17 #[.slice A a.length c, .slice B b.length d] W fun e W' => ∃ A' c', e = .returned (.slice A' (bothL a (notL b)).length c') ∧ Told W' A' c' (bothL a (notL b)) ∧ Below W.heap.size W W' :=
  row_of (ranges_Less.calls 3000 A c a B d b _ W h.2 h.1 h'.2 h'.1 (Less_f a b (by omega) (by omega) 3000 (by omega)))
theorem set_at (kind : Int) {W : World} {A B : Option Addr} {c d : Nat} {a b : List S35} (h : Told W A c a) (h' : Told W B d b) (hl : a.length ≤ 40) (hl' : b.length ≤ 40) {r : List S35} (hr : setL (holdsL kind a b) (a ++ b) = r) : Calls Try.prog 9 #[.int .i64 kind, .slice A a.length c, .slice B b.length d] W fun e W' => ∃ A' c', e = .returned (.slice A' r.length c') ∧ Told W' A' c' r ∧ Below W.heap.size W W' := by
  subst hr
  exact row_of (spoolref05_Set.calls 3000 kind A c a B d b _ W h.2 h.1 h'.2 h'.1 (Set_f kind a b (by omega) (by omega) 3000 (by omega)))
theorem set1_at (kind : Int) {W : World} {A : Option Addr} {c : Nat} {a : List S35} (h : Told W A c a) (hl : a.length ≤ 40) {r : List S35} (hr : setL (holdsL kind a []) (a ++ []) = r) : Calls Try.prog 9 #[.int .i64 kind, .slice A a.length c, .slice none 0 0] W fun e W' => ∃ A' c', e = .returned (.slice A' r.length c') ∧ Told W' A' c' r ∧ Below W.heap.size W W' :=
  set_at kind (B := none) (d := 0) (b := []) h ⟨Nat.le_refl _, Kd.C_nil k35 W⟩ hl (by simp) hr
theorem same_at {W : World} {A B : Option Addr} {c d : Nat} {a b : List S35} (h : Told W A c a) (h' : Told W B d b) (hl : a.length ≤ 1000) : Calls Try.prog 7 #[.slice A a.length c, .slice B b.length d] W fun e W' => e = .returned (.bool (sameL a b)) ∧ Below W.heap.size W W' := by
  refine (spoolref05_Same.calls 3000 A c a B d b _ W h.2 h.1 h'.2 h'.1 (Same_f a b (by omega) 3000 (by omega))).mono ?_
  rintro e W' ⟨rfl, hd⟩
  exact ⟨rfl, hd.below⟩
theorem same_self {W : World} {A B : Option Addr} {c d : Nat} {a : List S35} (h : Told W A c a) (h' : Told W B d a) (hl : a.length ≤ 1000) : Calls Try.prog 7 #[.slice A a.length c, .slice B a.length d] W fun e W' => e = .returned (.bool true) ∧ Below W.heap.size W W' := by
  have h := same_at h h' hl
  rwa [(sameL_iff a a).mpr rfl] at h
theorem psame_at {W : World} {A B : Option Addr} {c d : Nat} {a b : List S35} (h : Told W A c a) (h' : Told W B d b) (hl : a.length ≤ 40) (hl' : b.length ≤ 40) : Calls Try.prog 20 #[.slice A a.length c, .slice B b.length d] W fun e W' => e = .returned (.bool (sameL (ofL a) (ofL b))) ∧ Below W.heap.size W W' :=
  ranges_Same.calls 3000 A c a B d b _ W h.2 h.1 h'.2 h'.1 (PSame_f a b (by omega) (by omega) 3000 (by omega))
theorem alive_at (W : World) : Calls Try.prog 6 #[] W fun e W' => e = .returned (.bool true) ∧ Below W.heap.size W W' := spoollaw05_alive.calls 3000 true W (alive_f 3000 (by decide))
theorem union_at {W : World} {n : Nat} {a b : List S35} (h : Kd.C (Kd.slice 35 k35) W (some ⟨n, 0, none⟩) 2 [a, b]) (hl : a.length ≤ 40) (hl' : b.length ≤ 40) : Calls Try.prog 19 #[.slice (some ⟨n, 0, none⟩) 2 2] W fun e W' => ∃ A' c', e = .returned (.slice A' (ofL (a ++ b)).length c') ∧ Told W' A' c' (ofL (a ++ b)) ∧ Below W.heap.size W W' :=
  row_of (ranges_Union.calls (some ⟨n, 0, none⟩) 2 [a, b] _ W h (Nat.le_refl _) (Union2_f a b (by omega) (by omega)))
set_option maxRecDepth 100000 in
set_option maxHeartbeats 2000000 in
theorem join_calls (A0 A1 : Option Addr) (c0 c1 : Nat) (a b : List S35) (w : World) (hr0 : Kd.C k35 w A0 a.length a) (hc0 : a.length ≤ c0) (hr1 : Kd.C k35 w A1 b.length b) (hc1 : b.length ≤ c1) :
    Calls Try.prog 5 #[.slice A0 a.length c0, .slice A1 b.length c1] w fun e w' => e = .returned (.bool true) ∧ Below w.heap.size w w' := by
  have HA : Aside0 (Told w A0 c0 a) := ⟨hc0, hr0⟩
  have HC : Aside0 (Told w A1 c1 b) := ⟨hc1, hr1⟩
  have HA0 := HA
  have HB0 := Aside0.mk (Below.refl w.heap.size w)
  clear hr0 hc0 hr1 hc1
  by_cases h40a : 40 < a.length
  · have c1 : decide (40 < a.length) = true := decide_eq_true (by omega)
    have c2 : decide ((40 : Int) < (a.length : Int)) = true := decide_eq_true (by omega)
    clear h40a
    go_enter Try.func5, Try.ntmps5
    go_wp2_with (go_at_call 6; with_reducible refine (alive_at w).mono ?_; rintro e W1 ⟨rfl, hb⟩; have HB1 := Aside0.mk hb; clear hb)
    go_ret
    exact ⟨rfl, HB1.out⟩
  have d1 : decide (40 < a.length) = false := decide_eq_false h40a
  have d2 : decide ((40 : Int) < (a.length : Int)) = false := decide_eq_false (by omega)
  by_cases h40b : 40 < b.length
  · have c1 : decide (40 < b.length) = true := decide_eq_true (by omega)
    have c2 : decide ((40 : Int) < (b.length : Int)) = true := decide_eq_true (by omega)
    clear h40a h40b
    go_enter Try.func5, Try.ntmps5
    go_wp2_with (go_at_call 6; with_reducible refine (alive_at w).mono ?_; rintro e W1 ⟨rfl, hb⟩; have HB1 := Aside0.mk hb; clear hb)
    go_ret
    exact ⟨rfl, HB1.out⟩
  have d3 : decide (40 < b.length) = false := decide_eq_false h40b
  have d4 : decide ((40 : Int) < (b.length : Int)) = false := decide_eq_false (by omega)
  have HL : Aside0 (a.length ≤ 40 ∧ b.length ≤ 40) := ⟨by omega, by omega⟩
  clear h40a h40b
  go_enter Try.func5, Try.ntmps5
  go_wp2_with (first | (go_at_call 16; with_reducible refine (not_at HA0.out HL.out.1).mono ?_; rintro e W1 ⟨A_, c_, rfl, hx, hb⟩; have HB1 := Aside0.mk (below_then HB0.out HB0.out.size hb); have HA1 := Aside0.mk (HA.out.below HB1.out); have HC1 := Aside0.mk (HC.out.below HB1.out); have HX1 := Aside0.mk hx; clear hx hb) | (go_at_call 9; with_reducible refine (set1_at 1 HA1.out HL.out.1 (set_not a)).mono ?_; rintro e W2 ⟨A_, c_, rfl, hx, hb⟩; have HB2 := Aside0.mk (below_then HB1.out HB1.out.size hb); have HA2 := Aside0.mk (HA.out.below HB2.out); have HC2 := Aside0.mk (HC.out.below HB2.out); have HX2 := Aside0.mk hx; have HX1' := Aside0.mk (HX1.out.below hb); clear hx hb) | (go_at_call 7; with_reducible refine (same_self HX1'.out HX2.out (by have := notL_len a; have := HL.out; omega)).mono ?_; rintro e W3 ⟨rfl, hb⟩; have HB3 := Aside0.mk (below_then HB2.out HB2.out.size hb); have HA3 := Aside0.mk (HA.out.below HB3.out); have HC3 := Aside0.mk (HC.out.below HB3.out); clear hb) | (go_at_call 19; have hal := World.alloc_heap_new W3 (.cells #[.slice A0 a.length c0, .slice A1 b.length c1] 22); have hbl := below_then HB3.out HB3.out.size ((Below.refl _ W3).alloc (Nat.le_refl _) (.cells #[.slice A0 a.length c0, .slice A1 b.length c1] 22)); with_reducible refine (union_at (two_rows hal (HA.out.below hbl) (HC.out.below hbl)) HL.out.1 HL.out.2).mono ?_; rintro e W4 ⟨A_, c_, rfl, hx, hb⟩; have HB4 := Aside0.mk (below_then hbl hbl.size hb); have HA4 := Aside0.mk (HA.out.below HB4.out); have HC4 := Aside0.mk (HC.out.below HB4.out); have HX4 := Aside0.mk hx; clear hx hb hal hbl) | (go_at_call 9; with_reducible refine (set_at 2 HA4.out HC4.out HL.out.1 HL.out.2 (set_or a b)).mono ?_; rintro e W5 ⟨A_, c_, rfl, hx, hb⟩; have HB5 := Aside0.mk (below_then HB4.out HB4.out.size hb); have HA5 := Aside0.mk (HA.out.below HB5.out); have HC5 := Aside0.mk (HC.out.below HB5.out); have HX5 := Aside0.mk hx; have HX4' := Aside0.mk (HX4.out.below hb); clear hx hb) | (go_at_call 7; with_reducible refine (same_self HX4'.out HX5.out (by have := ofL_len (a ++ b); rw [List.length_append] at this; have := HL.out; omega)).mono ?_; rintro e W6 ⟨rfl, hb⟩; have HB6 := Aside0.mk (below_then HB5.out HB5.out.size hb); have HA6 := Aside0.mk (HA.out.below HB6.out); have HC6 := Aside0.mk (HC.out.below HB6.out); clear hb) | (go_at_call 18; with_reducible refine (both_at HA6.out HC6.out HL.out.1 HL.out.2).mono ?_; rintro e W7 ⟨A_, c_, rfl, hx, hb⟩; have HB7 := Aside0.mk (below_then HB6.out HB6.out.size hb); have HA7 := Aside0.mk (HA.out.below HB7.out); have HC7 := Aside0.mk (HC.out.below HB7.out); have HX7 := Aside0.mk hx; clear hx hb) | (go_at_call 9; with_reducible refine (set_at 3 HA7.out HC7.out HL.out.1 HL.out.2 (set_both a b)).mono ?_; rintro e W8 ⟨A_, c_, rfl, hx, hb⟩; have HB8 := Aside0.mk (below_then HB7.out HB7.out.size hb); have HA8 := Aside0.mk (HA.out.below HB8.out); have HC8 := Aside0.mk (HC.out.below HB8.out); have HX8 := Aside0.mk hx; have HX7' := Aside0.mk (HX7.out.below hb); clear hx hb) | (go_at_call 7; with_reducible refine (same_self HX7'.out HX8.out (by have := bothL_len a b; have := HL.out; omega)).mono ?_; rintro e W9 ⟨rfl, hb⟩; have HB9 := Aside0.mk (below_then HB8.out HB8.out.size hb); have HA9 := Aside0.mk (HA.out.below HB9.out); have HC9 := Aside0.mk (HC.out.below HB9.out); clear hb) | (go_at_call 17; with_reducible refine (less_at HA9.out HC9.out HL.out.1 HL.out.2).mono ?_; rintro e W10 ⟨A_, c_, rfl, hx, hb⟩; have HB10 := Aside0.mk (below_then HB9.out HB9.out.size hb); have HA10 := Aside0.mk (HA.out.below HB10.out); have HC10 := Aside0.mk (HC.out.below HB10.out); have HX10 := Aside0.mk hx; clear hx hb) | (go_at_call 9; with_reducible refine (set_at 4 HA10.out HC10.out HL.out.1 HL.out.2 (set_less a b)).mono ?_; rintro e W11 ⟨A_, c_, rfl, hx, hb⟩; have HB11 := Aside0.mk (below_then HB10.out HB10.out.size hb); have HA11 := Aside0.mk (HA.out.below HB11.out); have HC11 := Aside0.mk (HC.out.below HB11.out); have HX11 := Aside0.mk hx; have HX10' := Aside0.mk (HX10.out.below hb); clear hx hb) | (go_at_call 7; with_reducible refine (same_self HX10'.out HX11.out (by have := bothL_len a (notL b); have := notL_len b; have := HL.out; omega)).mono ?_; rintro e W12 ⟨rfl, hb⟩; have HB12 := Aside0.mk (below_then HB11.out HB11.out.size hb); have HA12 := Aside0.mk (HA.out.below HB12.out); have HC12 := Aside0.mk (HC.out.below HB12.out); clear hb) | (go_at_call 20; with_reducible refine (psame_at HA12.out HC12.out HL.out.1 HL.out.2).mono ?_; rintro e W13 ⟨rfl, hb⟩; have HB13 := Aside0.mk (below_then HB12.out HB12.out.size hb); have HA13 := Aside0.mk (HA.out.below HB13.out); have HC13 := Aside0.mk (HC.out.below HB13.out); clear hb) | (go_at_call 9; with_reducible refine (set1_at 0 HA13.out HL.out.1 (set0_eq a)).mono ?_; rintro e W14 ⟨A_, c_, rfl, hx, hb⟩; have HB14 := Aside0.mk (below_then HB13.out HB13.out.size hb); have HA14 := Aside0.mk (HA.out.below HB14.out); have HC14 := Aside0.mk (HC.out.below HB14.out); have HX14 := Aside0.mk hx; clear hx hb) | (go_at_call 9; with_reducible refine (set1_at 0 HC14.out HL.out.2 (set0_eq b)).mono ?_; rintro e W15 ⟨A_, c_, rfl, hx, hb⟩; have HB15 := Aside0.mk (below_then HB14.out HB14.out.size hb); have HA15 := Aside0.mk (HA.out.below HB15.out); have HC15 := Aside0.mk (HC.out.below HB15.out); have HX15 := Aside0.mk hx; have HX14' := Aside0.mk (HX14.out.below hb); clear hx hb) | (go_at_call 7; with_reducible refine (same_at HX14'.out HX15.out (by have := ofL_len a; have := HL.out; omega)).mono ?_; rintro e W16 ⟨rfl, hb⟩; have HB16 := Aside0.mk (below_then HB15.out HB15.out.size hb); have HA16 := Aside0.mk (HA.out.below HB16.out); have HC16 := Aside0.mk (HC.out.below HB16.out); clear hb) | (go_at_call 6; with_reducible refine (alive_at W16).mono ?_; rintro e W17 ⟨rfl, hb⟩; have HB17 := Aside0.mk (below_then HB16.out HB16.out.size hb); have HA17 := Aside0.mk (HA.out.below HB17.out); have HC17 := Aside0.mk (HC.out.below HB17.out); clear hb))
  go_ret
  exact ⟨rfl, HB17.out⟩
end Go.Proofs.Ytfknoaokoncneab.HandJoin

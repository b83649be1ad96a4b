/- ArenaNobody by hand: a builder that is none takes nothing. No condition beyond that Far ends. -/
import Derived.Test.YtbgoaigbkfibbaaHandAlive
import Derived.Test.YtbgoaigbkfibbaaHandNil
import Derived.Test.YtbgoaigbkfibbaaPAx0
import Derived.Test.YtbgoaigbkfibbaaPAx3
set_option linter.unusedSimpArgs false
set_option linter.unusedVariables false
namespace Go.Proofs.Ytbgoaigbkfibbaa.PA
open Go.RowKit Go.Proofs.YtbgoaigbkfibbaaW.PrintWords Go.Proofs.YtbgoaigbkfibbaaW.PrintLast Go.Proofs.YtbgoaigbkfibbaaW.PrintMore Go.Proofs.Ytbgoaigbkfibbaa.HandNil Go.Proofs.Ytbgoaigbkfibbaa.HandAlive Go.Proofs.Ytbgoaigbkfibbaa.HandSame
theorem cells39 {w : World} {g : Nat} {v0 v1 v2 v3 v4 v5 v6 v7 : Value} (h : w.heap[g]? = some (.cells #[v0, v1, v2, v3, v4, v5, v6, v7] 39 (0, 0))) : w.cell? ⟨g, 1, none⟩ = some v1 ∧ w.cell? ⟨g, 2, none⟩ = some v2 ∧ w.cell? ⟨g, 3, none⟩ = some v3 ∧ w.cell? ⟨g, 4, none⟩ = some v4 ∧ w.cell? ⟨g, 5, none⟩ = some v5 ∧ w.cell? ⟨g, 6, none⟩ = some v6 ∧ w.cell? ⟨g, 7, none⟩ = some v7 :=
  ⟨(blk_cell h 1).trans rfl, (blk_cell h 2).trans rfl, (blk_cell h 3).trans rfl, (blk_cell h 4).trans rfl, (blk_cell h 5).trans rfl, (blk_cell h 6).trans rfl, (blk_cell h 7).trans rfl⟩
def spoollaw10_ArenaNobody.f (k : Nat) (a0 a1 a2 a3 : Int) (l4 : List S55) (l5 : List S41) (l6 : List (List S55)) (a7 : Int) : Option Bool :=
  if (l4.length : Int) > 20 then some true else (spoolref10_Far.f k l5 l6 a7).bind fun _ => some true
set_option maxRecDepth 100000 in
set_option maxHeartbeats 4000000 in
theorem spoollaw10_ArenaNobody.calls (k : Nat) (a0 a1 a2 a3 : Int) (A0_4 : Option Addr) (c0_4 : Nat) (l0_4 : List S55) (A0_5 : Option Addr) (c0_5 : Nat) (l0_5 : List S41) (A0_6 : Option Addr) (c0_6 : Nat) (l0_6 : List (List S55)) (a7 : Int) (r : Bool) (w : World)
    (hr0_4 : Kd.C k55 w A0_4 l0_4.length l0_4) (hc0_4 : l0_4.length ≤ c0_4) (hr0_5 : Kd.C k41 w A0_5 l0_5.length l0_5) (hc0_5 : l0_5.length ≤ c0_5) (hr0_6 : Kd.C (Kd.slice 55 k55) w A0_6 l0_6.length l0_6) (hc0_6 : l0_6.length ≤ c0_6)
    (h : spoollaw10_ArenaNobody.f k a0 a1 a2 a3 l0_4 l0_5 l0_6 a7 = some r) :
    Calls Try.prog 5 #[.agg #[.int .i64 a0, .int .i64 a1, .int .i64 a2, .int .i64 a3, .slice A0_4 l0_4.length c0_4, .slice A0_5 l0_5.length c0_5, .slice A0_6 l0_6.length c0_6, .int .i64 a7]] w fun e w' => e = .returned (.bool r) ∧ Below w.heap.size w w' := by
  unfold spoollaw10_ArenaNobody.f at h
  have HB0 := Aside0.mk (blk_new w (.cells #[.int .i64 a0, .int .i64 a1, .int .i64 a2, .int .i64 a3, .slice A0_4 l0_4.length c0_4, .slice A0_5 l0_5.length c0_5, .slice A0_6 l0_6.length c0_6, .int .i64 a7] 39 (0, 0)))
  have HW0 : Aside0 (Below w.heap.size w (w.alloc (.cells #[.int .i64 a0, .int .i64 a1, .int .i64 a2, .int .i64 a3, .slice A0_4 l0_4.length c0_4, .slice A0_5 l0_5.length c0_5, .slice A0_6 l0_6.length c0_6, .int .i64 a7] 39 (0, 0)))) := ⟨below_alloc (Below.refl _ _) _⟩
  obtain ⟨x1, x2, x3, x4, x5, x6, x7⟩ := cells39 HB0.out
  have HR5 := Aside0.mk hr0_5
  have HC5 := Aside0.mk hc0_5
  have HR6 := Aside0.mk hr0_6
  have HC6 := Aside0.mk hc0_6
  clear hr0_4 hc0_4 hr0_5 hc0_5 hr0_6 hc0_6
  by_cases c1 : (l0_4.length : Int) > 20
  · rw [if_pos c1] at h
    cases h
    have c1' : decide ((l0_4.length : Int) > 20) = true := decide_eq_true c1
    go_enter Try.func5, Try.ntmps5
    go_wp2_with (go_at_call 7; (refine (spoollaw10_alive.calls true _ rfl).mono ?_); rintro e w4 ⟨rfl, hb⟩; have HB4 : Aside0 (Below w.heap.size w w4) := ⟨below_then HW0.out HW0.out.size hb⟩; clear hb)
    go_ret
    exact ⟨rfl, HB4.out⟩
  rw [if_neg c1] at h
  have c1' : decide ((l0_4.length : Int) > 20) = false := decide_eq_false c1
  obtain ⟨b, hb⟩ : ∃ b, spoolref10_Far.f k l0_5 l0_6 a7 = some b := by
    cases e : spoolref10_Far.f k l0_5 l0_6 a7 with
    | none => rw [e] at h; cases h
    | some b => exact ⟨b, rfl⟩
  rw [hb] at h
  cases h
  have HF := Aside0.mk hb
  clear hb c1
  cases b with
  | true =>
    go_enter Try.func5, Try.ntmps5
    go_wp2_with (first | (go_at_call 6; (refine (spoolref10_Far.calls k A0_5 c0_5 l0_5 A0_6 c0_6 l0_6 a7 true _ (Kd.C_below HR5.out HW0.out) HC5.out (Kd.C_below HR6.out HW0.out) HC6.out HF.out).mono ?_); rintro e w3 ⟨rfl, hb⟩; have HB3 : Aside0 (Below w.heap.size w w3) := ⟨below_then HW0.out HW0.out.size hb⟩; clear hb) | (go_at_call 7; (refine (spoollaw10_alive.calls true _ rfl).mono ?_); rintro e w4 ⟨rfl, hb⟩; have HB4 : Aside0 (Below w.heap.size w w4) := ⟨below_then HB3.out HB3.out.size hb⟩; clear hb))
    go_ret
    exact ⟨rfl, HB4.out⟩
  | false =>
    go_enter Try.func5, Try.ntmps5
    go_wp2_with (first | (go_at_call 6; (refine (spoolref10_Far.calls k A0_5 c0_5 l0_5 A0_6 c0_6 l0_6 a7 false _ (Kd.C_below HR5.out HW0.out) HC5.out (Kd.C_below HR6.out HW0.out) HC6.out HF.out).mono ?_); rintro e w3 ⟨rfl, hb⟩; have HB3 : Aside0 (Below w.heap.size w w3) := ⟨below_then HW0.out HW0.out.size hb⟩; have HX3 := Aside0.mk (blk_below HB0.out hb); clear hb x1 x2 x3 x4 x5 x6 x7; obtain ⟨x1, x2, x3, x4, x5, x6, x7⟩ := cells39 HX3.out) | (go_at_call 25; (refine (tree_nil _ _).mono ?_); rintro e w4 ⟨rfl, hb⟩; have HB4 : Aside0 (Below w.heap.size w w4) := ⟨below_then HB3.out HB3.out.size hb⟩; have HX4 := Aside0.mk (blk_below HX3.out hb); clear hb x1 x2 x3 x4 x5 x6 x7; obtain ⟨x1, x2, x3, x4, x5, x6, x7⟩ := cells39 (blk_alloc HX4.out (.cells #[.slice none 0 0, .slice none 0 0, .int .i64 0] 25 (0, 0)))) | (go_at_call 17; (refine (empty_nil _).mono ?_); rintro e w5 ⟨rfl, hb⟩; have HB5 : Aside0 (Below w.heap.size w w5) := ⟨below_then (below_alloc HB4.out _) (by simp; have := HB4.out.size; omega) hb⟩; have HX5 := Aside0.mk (blk_below (blk_alloc HX4.out _) hb); clear hb x1 x2 x3 x4 x5 x6 x7; obtain ⟨x1, x2, x3, x4, x5, x6, x7⟩ := cells39 HX5.out) | (go_at_call 18; (refine (set_nil _ _).mono ?_); rintro e w6 ⟨rfl, hb⟩; have HB6 : Aside0 (Below w.heap.size w w6) := ⟨below_then HB5.out HB5.out.size hb⟩; have HX6 := Aside0.mk (blk_below HX5.out hb); clear hb x1 x2 x3 x4 x5 x6 x7; obtain ⟨x1, x2, x3, x4, x5, x6, x7⟩ := cells39 HX6.out) | (go_at_call 20; (refine (cat_nil _ _ _).mono ?_); rintro e w7 ⟨rfl, hb⟩; have HB7 : Aside0 (Below w.heap.size w w7) := ⟨below_then HB6.out HB6.out.size hb⟩; have HX7 := Aside0.mk (blk_below HX6.out hb); clear hb x1 x2 x3 x4 x5 x6 x7; obtain ⟨x1, x2, x3, x4, x5, x6, x7⟩ := cells39 HX7.out) | (go_at_call 21; (refine (alt_nil _ _ _).mono ?_); rintro e w8 ⟨rfl, hb⟩; have HB8 : Aside0 (Below w.heap.size w w8) := ⟨below_then HB7.out HB7.out.size hb⟩; have HX8 := Aside0.mk (blk_below HX7.out hb); clear hb x1 x2 x3 x4 x5 x6 x7; obtain ⟨x1, x2, x3, x4, x5, x6, x7⟩ := cells39 HX8.out) | (go_at_call 22; (refine (rep_nil _ _ _ _).mono ?_); rintro e w9 ⟨rfl, hb⟩; have HB9 : Aside0 (Below w.heap.size w w9) := ⟨below_then HB8.out HB8.out.size hb⟩; have HX9 := Aside0.mk (blk_below HX8.out hb); clear hb x1 x2 x3 x4 x5 x6 x7; obtain ⟨x1, x2, x3, x4, x5, x6, x7⟩ := cells39 HX9.out) | (go_at_call 24; (refine (graft_nil _ _ _ _ _ _ _ _).mono ?_); rintro e w10 ⟨rfl, hb⟩; have HB10 : Aside0 (Below w.heap.size w w10) := ⟨below_then HB9.out HB9.out.size hb⟩; have HX10 := Aside0.mk (blk_below HX9.out hb); clear hb x1 x2 x3 x4 x5 x6 x7; obtain ⟨x1, x2, x3, x4, x5, x6, x7⟩ := cells39 HX10.out) | (go_at_call 26; (refine (len_nil _).mono ?_); rintro e w11 ⟨rfl, hb⟩; have HB11 : Aside0 (Below w.heap.size w w11) := ⟨below_then HB10.out HB10.out.size hb⟩; have HX11 := Aside0.mk (blk_below HX10.out hb); clear hb x1 x2 x3 x4 x5 x6 x7; obtain ⟨x1, x2, x3, x4, x5, x6, x7⟩ := cells39 HX11.out) | (go_at_call 7; (refine (spoollaw10_alive.calls true _ rfl).mono ?_); rintro e w12 ⟨rfl, hb⟩; have HB99 : Aside0 (Below w.heap.size w w12) := ⟨below_then HB11.out HB11.out.size hb⟩; clear hb))
    go_ret
    exact ⟨rfl, HB99.out⟩
end Go.Proofs.Ytbgoaigbkfibbaa.PA

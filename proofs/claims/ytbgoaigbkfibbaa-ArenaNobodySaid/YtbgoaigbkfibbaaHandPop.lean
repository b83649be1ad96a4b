/- The pile of ranges under the library's heap: the least one is taken. No condition beyond a bound on the pile's length. -/
import Derived.Test.YtbgoaigbkfibbaaPAx0
import Derived.Test.YtbgoaigbkfibbaaPAx2
import Derived.Test.YtbgoaigbkfibbaaHandDown
set_option linter.unusedSimpArgs false
set_option linter.unusedVariables false
namespace Go.Proofs.Ytbgoaigbkfibbaa.Heap
open Go.RowKit Go.Shelf Go.Proofs.YtbgoaigbkfibbaaW.PrintWords Go.Proofs.YtbgoaigbkfibbaaW.PrintLast Go.Proofs.YtbgoaigbkfibbaaW.PrintMore Go.Proofs.Ytbgoaigbkfibbaa.PA Go.Proofs.Ytbgoaigbkfibbaa.Sets
set_option maxRecDepth 100000 in
set_option maxHeartbeats 400000 in
theorem cut_calls (w0 : World) (p : Nat) (u : Value) (l : List S55) (h0 : 0 < l.length) (W : World) (h : PAt w0 p u l W) :
    Calls Try.prog 73 #[.pointer (some ⟨p, 0, none⟩)] W fun e W' => (∃ v, e = .returned v) ∧ ∃ u', PAt w0 p u' (l.take (l.length - 1)) W' ∧ (∀ k, own u' k → own u k) ∧ Kept W W' (fun k => k = p) := by
  obtain ⟨A, c, rfl, hlc, hC⟩ := R_form h.row
  have hp := h.box.cell
  have hf := h.box.frozen
  obtain ⟨n, hn⟩ : ∃ n, l.length = n + 1 := ⟨l.length - 1, by omega⟩
  have hlen : l.length ≤ 9223372036854775807 := hC.2.1
  have p1 : 0 ≤ (n : Int) := by omega
  have q1 : (n : Int) < (l.length : Int) := by omega
  obtain ⟨ad, rfl, hx0, hx1⟩ := at_T55 hC (n : Int) p1 q1
  have H := Aside0.mk h
  have HN := Aside0.mk hn
  have HL := Aside0.mk hlc
  have hw : wrap64 ((l.length : Int) - 1) = (n : Int) := by unfold wrap64; omega
  simp only [Int.toNat_natCast] at hx0 hx1
  replace p1 := eq_true p1
  replace q1 := eq_true q1
  have hbel : Below W.heap.size W (W.alloc (.cells #[.int .i64 (rd_T55 l (n : Int)).f0, .int .i64 (rd_T55 l (n : Int)).f1] 55)) := (Below.refl _ W).alloc (Nat.le_refl _) _
  have H1 := Aside0.mk (h.under hbel)
  have hp1 := H1.out.box.cell
  have hf1 := H1.out.box.frozen
  have hpn : p ≠ W.heap.size := fun e => by have := h.box.lt; omega
  have hq0 : ∀ v, ((W.alloc (.cells #[.int .i64 (rd_T55 l (n : Int)).f0, .int .i64 (rd_T55 l (n : Int)).f1] 55)).setCell ⟨p, 0, none⟩ v).heap[W.heap.size]? = some (.cells #[.int .i64 (rd_T55 l (n : Int)).f0, .int .i64 (rd_T55 l (n : Int)).f1] 55) := fun v => by
    rw [Below.heap_setCell _ _ _ _ (fun e => hpn e.symm)]
    exact World.alloc_heap_new W _
  have hq1 : ∀ v, ((W.alloc (.cells #[.int .i64 (rd_T55 l (n : Int)).f0, .int .i64 (rd_T55 l (n : Int)).f1] 55)).setCell ⟨p, 0, none⟩ v).cell? ⟨W.heap.size, 0, none⟩ = some (.int .i64 (rd_T55 l (n : Int)).f0) := fun v => by
    have e := hq0 v
    unfold World.cell?
    dsimp only
    rw [e]
    rfl
  have hq2 : ∀ v, ((W.alloc (.cells #[.int .i64 (rd_T55 l (n : Int)).f0, .int .i64 (rd_T55 l (n : Int)).f1] 55)).setCell ⟨p, 0, none⟩ v).cell? ⟨W.heap.size, 1, none⟩ = some (.int .i64 (rd_T55 l (n : Int)).f1) := fun v => by
    have e := hq0 v
    unfold World.cell?
    dsimp only
    rw [e]
    rfl
  have hnc : (n : Int) ≤ (c : Int) := by omega
  replace hnc := eq_true hnc
  have HB := Aside0.mk hbel
  clear h hC hn hlc hlen hq0 hbel
  go_enter Try.func73, Try.ntmps73
  go_wp2_with fail
  go_ret
  have hk : n = l.length - 1 := by have := HN.out; omega
  have hr := Kd.R_take (m := n) H1.out.row (by have := HN.out; omega)
  rw [← hk]
  exact ⟨⟨_, rfl⟩, _, ⟨H1.out.lo, H1.out.box.set _, tight (Kd.R_far (p := ⟨p, 0, none⟩) hr (fun k hk e => H1.out.ne (by cases e; exact hk)) _), below_set H1.out.below H1.out.lo⟩, fun k hk => hk, Kept.setCell (S := fun k => k = p) (p := ⟨p, 0, none⟩) (Kept.of_below HB.out _) (.inl rfl) _⟩
theorem downL_len (f : Nat) : ∀ (l : List S55) (i n : Nat), (downL f l i n).length = l.length := by
  induction f with
  | zero => intro l i n; rfl
  | succ f ih =>
    intro l i n
    rw [downL]
    split
    · rfl
    · rw [ih, swap_length]
theorem swap0_at {w0 : World} {p c : Nat} {A : Option Addr} {l : List S55} {W : World} (h : PAt w0 p (.slice A l.length c) l W) (j : Nat) (hi : 0 < l.length) (hj : j < l.length) :
    Calls Try.prog 75 #[.slice A l.length c, .int .i64 0, .int .i64 (j : Int)] W fun e W' => e = .returned (.tuple #[]) ∧ PAt w0 p (.slice A l.length c) (swap l 0 j) W' ∧ Kept W W' (own (.slice A l.length c)) := swap_at h 0 j hi hj
set_option maxRecDepth 100000 in
set_option maxHeartbeats 1000000 in
theorem pop_calls (w0 : World) (p : Nat) (u : Value) (l : List S55) (h0 : 0 < l.length) (hl : l.length < 8796093022208) (W : World) (h : PAt w0 p u l W) :
    Calls Try.prog 50 #[.iface 78 (.pointer (some ⟨p, 0, none⟩))] W fun e W' => (∃ v, e = .returned v) ∧ ∃ u', PAt w0 p u' (popL l) W' ∧ (∀ k, own u' k → own u k) ∧ Kept W W' (fun k => own u k ∨ k = p) := by
  obtain ⟨A, c, rfl, hlc, hC⟩ := R_form h.row
  have hm := meth_len h.box.cell
  obtain ⟨n, hn⟩ : ∃ n, l.length = n + 1 := ⟨l.length - 1, by omega⟩
  have hw : wrap64 ((l.length : Int) - 1) = (n : Int) := by unfold wrap64; omega
  have HN := Aside0.mk (And.intro hn (And.intro h0 hl))
  have HL := Aside0.mk (ranges_pile_Len.calls A c l _ W hC hlc rfl)
  have HA := Aside0.mk h
  clear h hC hlc hn h0 hl
  go_enter Try.func50, Try.ntmps50
  go_wp2_with (first | (go_at_call 71; with_reducible refine HL.out.mono ?_; rintro e W1 ⟨rfl, hd⟩; have HA1 := Aside0.mk (HA.out.under hd.below); have HB1 := Aside0.mk hd.below; have hm1 := meth_swap HA1.out.box.cell; clear hd hm HL) | (go_at_call 75; with_reducible refine (swap0_at HA1.out n HN.out.2.1 (by have := HN.out; omega)).mono ?_; rintro e W2 ⟨rfl, hA2, hk2⟩; have HA2 := Aside0.mk hA2; have HK2 := Aside0.mk hk2; clear hA2 hk2 hm1) | (go_at_call 54; with_reducible refine (down_calls w0 p _ (swap l 0 n) n (by rw [swap_length]; have := HN.out; omega) (by rw [swap_length]; exact HN.out.2.1) (by rw [swap_length]; exact HN.out.2.2) _ HA2.out).mono ?_; rintro e W3 ⟨⟨v3, rfl⟩, hA3, hk3⟩; rw [swap_length] at hA3; have HA3 := Aside0.mk hA3; have HK3 := Aside0.mk hk3; clear hA3 hk3; have hm3 := meth_pop p W3) | (go_at_call 73; with_reducible refine (cut_calls w0 p _ (downL l.length (swap l 0 n) 0 n) (by rw [downL_len, swap_length]; exact HN.out.2.1) W3 HA3.out).mono ?_; rintro e W4 ⟨⟨v4, rfl⟩, u4, hA4, ho4, hk4⟩; have HA4 := Aside0.mk hA4; have HK4 := Aside0.mk (And.intro ho4 hk4); clear hA4 ho4 hk4 hm3))
  go_ret
  obtain ⟨hn, h0, hl⟩ := HN.out
  have h4 := HA4.out
  rw [downL_len, swap_length] at h4
  refine ⟨⟨_, rfl⟩, _, ?_, HK4.out.1, ?_⟩
  · rw [popL]
    rw [show l.length - 1 = n by omega] at h4 ⊢
    exact h4
  · exact (((Kept.of_below HB1.out _).then_ HK2.out (fun k hk => .inl (.inl hk))).then_ HK3.out (fun k hk => .inl (.inl hk))).then_ HK4.out.2 (fun k hk => .inl (.inr hk))
end Go.Proofs.Ytbgoaigbkfibbaa.Heap

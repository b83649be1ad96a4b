/- The pile of ranges under the library's heap: one goes up. No condition. -/
import Derived.Test.YtbgoaigbkfibbaaPAx0
import Derived.Test.YtbgoaigbkfibbaaPAx2
import Derived.Test.YtbgoaigbkfibbaaHandHeap
namespace Go.Proofs.Ytbgoaigbkfibbaa.Heap
open Go.RowKit Go.Shelf Go.Proofs.YtbgoaigbkfibbaaW.PrintWords Go.Proofs.YtbgoaigbkfibbaaW.PrintLast Go.Proofs.YtbgoaigbkfibbaaW.PrintMore Go.Proofs.Ytbgoaigbkfibbaa.PA Go.Proofs.Ytbgoaigbkfibbaa.Sets
set_option maxRecDepth 100000 in
set_option maxHeartbeats 1000000 in
theorem up_calls (w0 : World) (p : Nat) (u : Value) (l : List S55) (j : Nat) (hj : j < l.length) (W : World) (h : PAt w0 p u l W) :
    Calls Try.prog 53 #[.iface 78 (.pointer (some ⟨p, 0, none⟩)), .int .i64 (j : Int)] W fun e W' => (∃ v, e = .returned v) ∧ PAt w0 p u (upL l.length l j) W' ∧ Kept W W' (own u) := by
  go_enter Try.func53, Try.ntmps53
  go_wp2_with fail
  go_loopw [1] (fun vj wr => ∃ (i : Nat) (l' : List S55), vj = .int .i64 (i : Int) ∧ Aside0 (i < l'.length ∧ l'.length = l.length ∧ ∃ f, i < f ∧ upL l.length l j = upL f l' i) ∧ Aside0 (PAt w0 p u l' wr) ∧ Aside0 (Kept W wr (own u)))
    (fun vj _ => measU vj)
  case atStart => exact ⟨j, l, rfl, ⟨hj, rfl, _, hj, rfl⟩, ⟨h⟩, ⟨Kept.refl _ _⟩⟩
  case round =>
    obtain ⟨i, l', rfl, HI, HA, HK⟩ := hrel
    obtain ⟨A, c, rfl, hlc, hC⟩ := R_form HA.out.row
    have hm := Aside0.mk (meth_less HA.out.box.cell)
    have hms := Aside0.mk (meth_swap HA.out.box.cell)
    have HC := Aside0.mk hC
    have HL := Aside0.mk hlc
    obtain ⟨i1, i2, f, hf, i3⟩ := HI.out
    have hlen : l'.length ≤ 9223372036854775807 := hC.2.1
    obtain ⟨g, rfl⟩ : ∃ g, f = g + 1 := ⟨f - 1, by omega⟩
    clear hC hlc HI h hj
    by_cases h0 : i = 0
    · subst h0
      have HU : Aside0 (upL l.length l j = l') := ⟨by rw [i3, upL, if_pos (.inl rfl)]⟩
      clear i1 i2 i3 hlen hm hms
      go_wp2_with fail
      go_end0
      exact ⟨⟨_, rfl⟩, by rw [HU.out]; exact HA.out, HK.out⟩
    · have hk : wrap64 ((wrap64 ((i : Int) - 1)).tdiv 2) = (((i - 1) / 2 : Nat) : Int) := by
        rw [show (i : Int) - 1 = ((i - 1 : Nat) : Int) by omega, show wrap64 ((i - 1 : Nat) : Int) = ((i - 1 : Nat) : Int) by unfold wrap64; omega, show Int.tdiv ((i - 1 : Nat) : Int) 2 = (((i - 1) / 2 : Nat) : Int) from rfl]
        unfold wrap64; omega
      have hki : (i - 1) / 2 < i := by omega
      have HX := Aside0.mk i3
      rw [upL] at i3
      have HN : Aside0 (¬ (i - 1) / 2 = i) := ⟨by omega⟩
      generalize (i - 1) / 2 = k at hk hki i3 HN
      have c1 : ((k : Int) == (i : Int)) = false := by rw [beq_eq_false_iff_ne]; omega
      by_cases hlt : (G l' i).f0 < (G l' k).f0
      · have c2 : decide ((G l' i).f0 < (G l' k).f0) = true := decide_eq_true hlt
        rw [if_neg (fun hh => hh.elim (fun h1 => HN.out h1) (fun h1 => h1 hlt))] at i3
        have HI := Aside0.mk (And.intro i1 (And.intro i2 (And.intro hf (And.intro i3 hki))))
        have hm := hm.out
        clear i1 i2 i3 hf hki hlt HX
        go_wp2_with (first | (go_at_call 72; refine (ranges_pile_Less.calls A c l' _ _ _ wr HC.out HL.out (less_f l' i k HI.out.1 (Nat.lt_trans HI.out.2.2.2.2 HI.out.1))).mono ?_; rintro e W1 ⟨rfl, hd⟩; have HA1 := Aside0.mk (HA.out.under hd.below); have HK1 := Aside0.mk (HK.out.below hd.below); clear HA HK hm hms; have hms := meth_swap HA1.out.box.cell; clear hd) | (go_at_call 75; refine (ranges_pile_Swap.calls (own (.slice A l'.length c)) _ l' _ _ _ w0 _ HA1.out.below HA1.out.row (swap_f l' k i (Nat.lt_trans HI.out.2.2.2.2 HI.out.1) HI.out.1)).mono ?_; rintro e W2 ⟨rfl, hr2, hb2, hk2⟩; have HA2 := Aside0.mk (HA1.out.wrote hr2 hb2 hk2); have HK2 := Aside0.mk (HK1.out.then_ hk2 (fun _ hk => .inl hk)); clear HA1 HK1 hms hr2 hb2 hk2))
        obtain ⟨i1, i2, hf, i3, hki⟩ := HI.out
        constructor
        · exact ⟨k, swap l' k i, rfl, ⟨by rw [swap_length]; omega, by rw [swap_length]; exact i2, g, by omega, i3⟩, HA2, HK2⟩
        · unfold measU; simp [intOf]; omega
      · have c2 : decide ((G l' i).f0 < (G l' k).f0) = false := decide_eq_false hlt
        rw [if_pos (.inr hlt)] at i3
        have HI := Aside0.mk (And.intro i1 (And.intro hki i3))
        have hm := hm.out
        clear i1 i2 i3 hf hki hlt HX hms
        go_wp2_with (go_at_call 72; refine (ranges_pile_Less.calls A c l' _ _ _ wr HC.out HL.out (less_f l' i k HI.out.1 (Nat.lt_trans HI.out.2.1 HI.out.1))).mono ?_; rintro e W1 ⟨rfl, hd⟩; have HA1 := Aside0.mk (HA.out.under hd.below); have HK1 := Aside0.mk (HK.out.below hd.below); clear HA HK hm hd)
        go_end0
        exact ⟨⟨_, rfl⟩, by rw [HI.out.2.2]; exact HA1.out, HK1.out⟩
end Go.Proofs.Ytbgoaigbkfibbaa.Heap

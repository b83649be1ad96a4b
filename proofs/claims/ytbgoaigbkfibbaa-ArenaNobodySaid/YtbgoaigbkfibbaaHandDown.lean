/- The pile of ranges under the library's heap: one goes down, and the least one is taken. No condition beyond a bound on the pile's length. -/
import Derived.Test.YtbgoaigbkfibbaaPAx0
import Derived.Test.YtbgoaigbkfibbaaPAx2
import Derived.Test.YtbgoaigbkfibbaaHandPush
set_option linter.unusedSimpArgs false
set_option linter.unusedVariables false
namespace Go.Proofs.Ytbgoaigbkfibbaa.Heap
open Go.RowKit Go.Shelf Go.Proofs.YtbgoaigbkfibbaaW.PrintWords Go.Proofs.YtbgoaigbkfibbaaW.PrintLast Go.Proofs.YtbgoaigbkfibbaaW.PrintMore Go.Proofs.Ytbgoaigbkfibbaa.PA Go.Proofs.Ytbgoaigbkfibbaa.Sets
theorem less_at {w0 : World} {p c : Nat} {A : Option Addr} {l : List S55} {W : World} (h : PAt w0 p (.slice A l.length c) l W) (i j : Nat) (hi : i < l.length) (hj : j < l.length) :
    Calls Try.prog 72 #[.slice A l.length c, .int .i64 (i : Int), .int .i64 (j : Int)] W fun e W' => e = .returned (.bool (decide ((G l i).f0 < (G l j).f0))) ∧ PAt w0 p (.slice A l.length c) l W' ∧ Below W.heap.size W W' := by
  obtain ⟨_, h1, h2⟩ := Kd.R_reads' h.row
  refine (ranges_pile_Less.calls A c l _ _ _ W h2 h1 (less_f l i j hi hj)).mono ?_
  rintro e W1 ⟨rfl, hd⟩
  exact ⟨rfl, h.under hd.below, hd.below⟩
theorem swap_at {w0 : World} {p c : Nat} {A : Option Addr} {l : List S55} {W : World} (h : PAt w0 p (.slice A l.length c) l W) (i j : Nat) (hi : i < l.length) (hj : j < l.length) :
    Calls Try.prog 75 #[.slice A l.length c, .int .i64 (i : Int), .int .i64 (j : Int)] W fun e W' => e = .returned (.tuple #[]) ∧ PAt w0 p (.slice A l.length c) (swap l i j) W' ∧ Kept W W' (own (.slice A l.length c)) := by
  refine (ranges_pile_Swap.calls (own (.slice A l.length c)) _ l _ _ _ w0 _ h.below h.row (swap_f l i j hi hj)).mono ?_
  rintro e W2 ⟨rfl, hr2, hb2, hk2⟩
  exact ⟨rfl, h.wrote hr2 hb2 hk2, hk2⟩
def measN (n : Nat) (v : Value) : Nat := n - (intOf v).toNat
set_option maxRecDepth 100000 in
set_option maxHeartbeats 1000000 in
theorem down_calls (w0 : World) (p : Nat) (u : Value) (l : List S55) (n : Nat) (hn : n ≤ l.length) (h0 : 0 < l.length) (hl : l.length < 8796093022208) (W : World) (h : PAt w0 p u l W) :
    Calls Try.prog 54 #[.iface 78 (.pointer (some ⟨p, 0, none⟩)), .int .i64 0, .int .i64 (n : Int)] W fun e W' => (∃ v, e = .returned v) ∧ PAt w0 p u (downL l.length l 0 n) W' ∧ Kept W W' (own u) := by
  go_enter Try.func54, Try.ntmps54
  go_wp2_with fail
  go_loopw [7, 8, 9, 10] (fun vi _ _ _ wr => ∃ (i : Nat) (l' : List S55), vi = .int .i64 (i : Int) ∧ Aside0 (i < l'.length ∧ l'.length = l.length ∧ ∃ f, n ≤ i + f ∧ downL l.length l 0 n = downL f l' i n) ∧ Aside0 (PAt w0 p u l' wr) ∧ Aside0 (Kept W wr (own u)))
    (fun vi _ _ _ _ => measN l.length vi)
  case atStart => exact ⟨0, l, rfl, ⟨h0, rfl, _, by omega, rfl⟩, ⟨h⟩, ⟨Kept.refl _ _⟩⟩
  case round =>
    obtain ⟨i, l', rfl, HI, HA, HK⟩ := hrel
    obtain ⟨A, c, rfl, hlc, hC⟩ := R_form HA.out.row
    have hm := meth_less HA.out.box.cell
    have hms := meth_swap HA.out.box.cell
    obtain ⟨i1, i2, f, hf, i3⟩ := HI.out
    have hk1 : wrap64 (wrap64 (2 * (i : Int)) + 1) = ((2 * i + 1 : Nat) : Int) := by unfold wrap64; omega
    have hk2 : wrap64 (((2 * i + 1 : Nat) : Int) + 1) = ((2 * i + 2 : Nat) : Int) := by unfold wrap64; omega
    have hd2 : decide (((2 * i + 1 : Nat) : Int) < 0) = false := decide_eq_false (by omega)
    have HI := Aside0.mk (And.intro i1 (And.intro i2 hn))
    clear hlc hC h
    by_cases hx : n ≤ 2 * i + 1
    · have c1 : decide (n ≤ 2 * i + 1) = true := decide_eq_true (by omega)
      have i3 : downL l.length l 0 n = l' := by
        rw [i3]
        cases f with
        | zero => rfl
        | succ f => rw [downL, if_pos (.inl hx)]
      have HX := Aside0.mk i3
      clear i1 i2 i3 hf hx hn hl h0
      generalize 2 * i + 1 = k1 at hk1 hk2 hd2 c1
      go_wp2_with fail
      go_ret
      exact ⟨⟨_, rfl⟩, by rw [HX.out]; exact HA.out, HK.out⟩
    · have c1 : decide (n ≤ 2 * i + 1) = false := decide_eq_false (by omega)
      obtain ⟨g, rfl⟩ : ∃ g, f = g + 1 := ⟨f - 1, by omega⟩
      rw [downL] at i3
      have HKB : Aside0 (i < 2 * i + 1 ∧ 2 * i + 1 < 2 * i + 2 ∧ ¬ n ≤ 2 * i + 1) := ⟨by omega, by omega, hx⟩
      clear hx hn hl h0 i1 i2
      by_cases hy : 2 * i + 2 < n
      · have c3 : decide (2 * i + 2 < n) = true := decide_eq_true (by omega)
        have HK2 : Aside0 (2 * i + 1 < l'.length ∧ 2 * i + 2 < l'.length) := ⟨by have := HI.out; omega, by have := HI.out; omega⟩
        by_cases ha : (G l' (2 * i + 2)).f0 < (G l' (2 * i + 1)).f0
        · have c4 : decide ((G l' (2 * i + 2)).f0 < (G l' (2 * i + 1)).f0) = true := decide_eq_true ha
          have hkd : kid l' i n = 2 * i + 2 := by unfold kid; rw [if_pos ⟨hy, ha⟩]
          have HY := Aside0.mk hy
          clear hy ha
          generalize 2 * i + 2 = k2 at hk2 hkd HY c3 c4 HKB HK2
          generalize 2 * i + 1 = k1 at hk1 hk2 hd2 c1 c4 HKB HK2 i3
          have hkid : kid l' i n = k2 := hkd
          have HJ : Aside0 (k2 < l'.length) := ⟨HK2.out.2⟩
          rw [hkid] at i3
          by_cases hb : (G l' k2).f0 < (G l' i).f0
          · have c5 : decide ((G l' k2).f0 < (G l' i).f0) = true := decide_eq_true hb
            rw [if_neg (fun hh => hh.elim (fun h1 => HKB.out.2.2 h1) (fun h1 => h1 hb))] at i3
            have HX := Aside0.mk (And.intro hf i3)
            clear i3 hf hb hkid
            go_wp2_with (first | (go_at_call 72; with_reducible refine (less_at HA.out k2 k1 HK2.out.2 HK2.out.1).mono ?_; rintro e W1 ⟨rfl, hA1, hb1⟩; have HA1 := Aside0.mk hA1; have HK1 := Aside0.mk (HK.out.below hb1); have hm := meth_less hA1.box.cell; have hms := meth_swap hA1.box.cell; clear hA1 hb1) | (go_at_call 72; with_reducible refine (less_at HA1.out k2 i HJ.out HI.out.1).mono ?_; rintro e W2 ⟨rfl, hA2, hb2⟩; have HA2 := Aside0.mk hA2; have HK3 := Aside0.mk (HK1.out.below hb2); have hms2 := meth_swap hA2.box.cell; clear hA2 hb2) | (go_at_call 75; with_reducible refine (swap_at HA2.out i k2 HI.out.1 HJ.out).mono ?_; rintro e W3 ⟨rfl, hA3, hk3⟩; have HA3 := Aside0.mk hA3; have HK4 := Aside0.mk (HK3.out.then_ hk3 (fun _ hk => .inl hk)); clear hA3 hk3))
            obtain ⟨i1, i2, hn⟩ := HI.out
            obtain ⟨hf, i3⟩ := HX.out
            have hkb := HKB.out
            constructor
            · exact ⟨k2, swap l' i k2, rfl, ⟨by rw [swap_length]; exact HJ.out, by rw [swap_length]; exact i2, g, by omega, i3⟩, HA3, HK4⟩
            · have := HJ.out; unfold measN; simp [intOf]; omega
          · have c5 : decide ((G l' k2).f0 < (G l' i).f0) = false := decide_eq_false hb
            rw [if_pos (.inr hb)] at i3
            have HX := Aside0.mk i3
            clear i3 hf hb hkid
            go_wp2_with (first | (go_at_call 72; with_reducible refine (less_at HA.out k2 k1 HK2.out.2 HK2.out.1).mono ?_; rintro e W1 ⟨rfl, hA1, hb1⟩; have HA1 := Aside0.mk hA1; have HK1 := Aside0.mk (HK.out.below hb1); have hm := meth_less hA1.box.cell; have hms := meth_swap hA1.box.cell; clear hA1 hb1) | (go_at_call 72; with_reducible refine (less_at HA1.out k2 i HJ.out HI.out.1).mono ?_; rintro e W2 ⟨rfl, hA2, hb2⟩; have HA2 := Aside0.mk hA2; have HK3 := Aside0.mk (HK1.out.below hb2); have hms2 := meth_swap hA2.box.cell; clear hA2 hb2))
            go_ret
            exact ⟨⟨_, rfl⟩, by rw [HX.out]; exact HA2.out, HK3.out⟩
        · have c4 : decide ((G l' (2 * i + 2)).f0 < (G l' (2 * i + 1)).f0) = false := decide_eq_false ha
          have hkd : kid l' i n = 2 * i + 1 := by unfold kid; rw [if_neg (fun hh => ha hh.2)]
          clear hy ha
          generalize 2 * i + 2 = k2 at hk2 c3 c4 HKB HK2
          generalize 2 * i + 1 = k1 at hk1 hk2 hd2 c1 c4 HKB HK2 i3 hkd
          have hkid : kid l' i n = k1 := hkd
          have HJ : Aside0 (k1 < l'.length) := ⟨by have := HI.out; have := HKB.out; omega⟩
          rw [hkid] at i3
          by_cases hb : (G l' k1).f0 < (G l' i).f0
          · have c5 : decide ((G l' k1).f0 < (G l' i).f0) = true := decide_eq_true hb
            rw [if_neg (fun hh => hh.elim (fun h1 => HKB.out.2.2 h1) (fun h1 => h1 hb))] at i3
            have HX := Aside0.mk (And.intro hf i3)
            clear i3 hf hb hkid
            go_wp2_with (first | (go_at_call 72; with_reducible refine (less_at HA.out k2 k1 HK2.out.2 HK2.out.1).mono ?_; rintro e W1 ⟨rfl, hA1, hb1⟩; have HA1 := Aside0.mk hA1; have HK1 := Aside0.mk (HK.out.below hb1); have hm := meth_less hA1.box.cell; have hms := meth_swap hA1.box.cell; clear hA1 hb1) | (go_at_call 72; with_reducible refine (less_at HA1.out k1 i HJ.out HI.out.1).mono ?_; rintro e W2 ⟨rfl, hA2, hb2⟩; have HA2 := Aside0.mk hA2; have HK3 := Aside0.mk (HK1.out.below hb2); have hms2 := meth_swap hA2.box.cell; clear hA2 hb2) | (go_at_call 75; with_reducible refine (swap_at HA2.out i k1 HI.out.1 HJ.out).mono ?_; rintro e W3 ⟨rfl, hA3, hk3⟩; have HA3 := Aside0.mk hA3; have HK4 := Aside0.mk (HK3.out.then_ hk3 (fun _ hk => .inl hk)); clear hA3 hk3))
            obtain ⟨i1, i2, hn⟩ := HI.out
            obtain ⟨hf, i3⟩ := HX.out
            have hkb := HKB.out
            constructor
            · exact ⟨k1, swap l' i k1, rfl, ⟨by rw [swap_length]; exact HJ.out, by rw [swap_length]; exact i2, g, by omega, i3⟩, HA3, HK4⟩
            · have := HJ.out; unfold measN; simp [intOf]; omega
          · have c5 : decide ((G l' k1).f0 < (G l' i).f0) = false := decide_eq_false hb
            rw [if_pos (.inr hb)] at i3
            have HX := Aside0.mk i3
            clear i3 hf hb hkid
            go_wp2_with (first | (go_at_call 72; with_reducible refine (less_at HA.out k2 k1 HK2.out.2 HK2.out.1).mono ?_; rintro e W1 ⟨rfl, hA1, hb1⟩; have HA1 := Aside0.mk hA1; have HK1 := Aside0.mk (HK.out.below hb1); have hm := meth_less hA1.box.cell; have hms := meth_swap hA1.box.cell; clear hA1 hb1) | (go_at_call 72; with_reducible refine (less_at HA1.out k1 i HJ.out HI.out.1).mono ?_; rintro e W2 ⟨rfl, hA2, hb2⟩; have HA2 := Aside0.mk hA2; have HK3 := Aside0.mk (HK1.out.below hb2); have hms2 := meth_swap hA2.box.cell; clear hA2 hb2))
            go_ret
            exact ⟨⟨_, rfl⟩, by rw [HX.out]; exact HA2.out, HK3.out⟩
      · have c3 : decide (2 * i + 2 < n) = false := decide_eq_false (by omega)
        have hkd : kid l' i n = 2 * i + 1 := by unfold kid; rw [if_neg (fun hh => hy hh.1)]
        clear hy
        generalize 2 * i + 2 = k2 at hk2 c3 HKB
        generalize 2 * i + 1 = k1 at hk1 hk2 hd2 c1 HKB i3 hkd
        have hkid : kid l' i n = k1 := hkd
        have HJ : Aside0 (k1 < l'.length) := ⟨by have := HI.out; have := HKB.out; omega⟩
        rw [hkid] at i3
        by_cases hb : (G l' k1).f0 < (G l' i).f0
        · have c5 : decide ((G l' k1).f0 < (G l' i).f0) = true := decide_eq_true hb
          rw [if_neg (fun hh => hh.elim (fun h1 => HKB.out.2.2 h1) (fun h1 => h1 hb))] at i3
          have HX := Aside0.mk (And.intro hf i3)
          clear i3 hf hb hkid
          go_wp2_with (first | (go_at_call 72; with_reducible refine (less_at HA.out k1 i HJ.out HI.out.1).mono ?_; rintro e W2 ⟨rfl, hA2, hb2⟩; have HA2 := Aside0.mk hA2; have HK3 := Aside0.mk (HK.out.below hb2); have hms2 := meth_swap hA2.box.cell; clear hA2 hb2) | (go_at_call 75; with_reducible refine (swap_at HA2.out i k1 HI.out.1 HJ.out).mono ?_; rintro e W3 ⟨rfl, hA3, hk3⟩; have HA3 := Aside0.mk hA3; have HK4 := Aside0.mk (HK3.out.then_ hk3 (fun _ hk => .inl hk)); clear hA3 hk3))
          obtain ⟨i1, i2, hn⟩ := HI.out
          obtain ⟨hf, i3⟩ := HX.out
          have hkb := HKB.out
          constructor
          · exact ⟨k1, swap l' i k1, rfl, ⟨by rw [swap_length]; exact HJ.out, by rw [swap_length]; exact i2, g, by omega, i3⟩, HA3, HK4⟩
          · have := HJ.out; unfold measN; simp [intOf]; omega
        · have c5 : decide ((G l' k1).f0 < (G l' i).f0) = false := decide_eq_false hb
          rw [if_pos (.inr hb)] at i3
          have HX := Aside0.mk i3
          clear i3 hf hb hkid
          go_wp2_with (first | (go_at_call 72; with_reducible refine (less_at HA.out k1 i HJ.out HI.out.1).mono ?_; rintro e W2 ⟨rfl, hA2, hb2⟩; have HA2 := Aside0.mk hA2; have HK3 := Aside0.mk (HK.out.below hb2); have hms2 := meth_swap hA2.box.cell; clear hA2 hb2))
          go_ret
          exact ⟨⟨_, rfl⟩, by rw [HX.out]; exact HA2.out, HK3.out⟩
end Go.Proofs.Ytbgoaigbkfibbaa.Heap

/- The set of some rows of ranges together: what ranges.Union makes. No condition beyond a bound on how many ranges there are. -/
import Derived.Test.YtfknoaokoncneabDoorPFx0
import Derived.Test.YtfknoaokoncneabDoorHandOf
set_option linter.unusedSimpArgs false
set_option linter.unusedVariables false
namespace Go.Proofs.YtfknoaokoncneabDoor.HandUnion
open Go.RowKit Go.Shelf Go.Proofs.YtfknoaokoncneabDoorW.PrintWords Go.Proofs.YtfknoaokoncneabDoorW.PrintLast Go.Proofs.YtfknoaokoncneabDoorW.PrintMore Go.Proofs.YtfknoaokoncneabDoor.PF Go.Proofs.YtfknoaokoncneabDoor.Sets Go.Proofs.YtfknoaokoncneabDoor.Heap Go.Proofs.YtfknoaokoncneabDoor.HandOf
def rd_L2 (xs : List (List S33)) (i : Int) : (List S33) := xs.getD i.toNat ([] : List S33)
theorem at_L2 {w : World} {A : Option Addr} {n : Nat} {xs : List (List S33)} (h : Kd.C (Kd.slice 33 k33) w A n xs) (i : Int) (h0 : 0 ≤ i) (h1 : i < n) : ∃ ad A0 c0, A = some ad ∧ w.cell? (ad.add i.toNat) = some (.slice A0 (rd_L2 xs i).length c0) ∧ (rd_L2 xs i).length ≤ c0 ∧ k33.C w A0 (rd_L2 xs i).length (rd_L2 xs i) := by
  obtain ⟨ad, c, e, _, hK, hc0⟩ := Kd.C_get h ([] : List S33) i h0 h1
  have hc : ∀ j u, c[j]? = some u → w.cell? (ad.add (i.toNat * 1 + j)) = some u := hc0
  obtain ⟨A0, c0, rfl, l0, g0⟩ := hK
  exact ⟨ad, A0, c0, e, by have hq := hc 0 _ rfl; rwa [Nat.mul_one, Nat.add_zero] at hq, l0, g0⟩
set_option maxRecDepth 100000 in
set_option maxHeartbeats 400000 in
theorem grow_calls' (w0 : World) (A : Option Addr) (hA : Aside0 (A = none)) (n : Nat) (hn : n < 8796093022208) (W : World) (hb : Below w0.heap.size w0 W) :
    Calls Tryd.prog 34 #[.slice A 0 0, .int .i64 (n : Int)] W fun e W' => ∃ v : Value, e = .returned v ∧ Kd.R k33 33 W' w0.heap.size (fun _ => True) v [] ∧ Below w0.heap.size w0 W' := by
  have HB := Aside0.mk hb
  have HN := Aside0.mk hn
  clear hb hn
  by_cases h0 : n = 0
  · subst h0
    go_enter Tryd.func34, Tryd.ntmps34
    go_wp2_with fail
    go_ret
    exact ⟨_, rfl, by rw [hA.out]; exact Kd.R_nil _ _ _ _ _, HB.out⟩
  · have c1 : decide ((n : Int) < 0) = false := decide_eq_false (by omega)
    have c2 : decide (0 < n) = true := decide_eq_true (by omega)
    have hw : wrap64 (n : Int) = (n : Int) := by have := HN.out; unfold wrap64; omega
    clear h0
    go_enter Tryd.func34, Tryd.ntmps34
    go_wp2_with ((with_reducible refine gate_builtin (b := .append) (xs := #[.tmp 20, .tmp 21]) rfl ?_); (try (refine gate_guard (by rfl) ?_; dsimp only)); at_builtin; refine Kd.R_append_zeros k33 (w0 := w0) w0.heap.size rfl (.tmp 20) (.tmp 21) 27 3 33 (.agg #[(.int .i64 0), (.int .i64 0)]) 16 rfl Tryd.underlying27 Tryd.underlying3 info33 rfl (by decide) (by omega) (.slice A 0 0) ([] : List S33) z33 (wrap64 (n : Int)) (fun _ => True) rfl rfl (k33_mkM _ _ _ z33) (fun _ _ => trivial) (by rw [hA.out]; exact Kd.R_nil _ _ _ _ _) (by rw [hw]; omega) HB.out HB.out.size (by rw [hw]; have := HN.out; simp; omega) ?_; intro v1 w1 ho hb hg hat; rw [hw] at ho; obtain ⟨A1, c1, rfl, hlc, _⟩ := R_form ho; rw [show (([] : List S33) ++ List.replicate (n : Int).toNat z33).length = n by simp]; have HO := Aside0.mk ho; have HB1 := Aside0.mk hb; clear ho hb hg hat HB hlc)
    go_ret
    exact ⟨_, rfl, Kd.R_take (m := 0) HO.out (by omega), HB1.out⟩
theorem grow_calls (w0 : World) (n : Nat) (hn : n < 8796093022208) (W : World) (hb : Below w0.heap.size w0 W) :
    Calls Tryd.prog 34 #[.slice none 0 0, .int .i64 (n : Int)] W fun e W' => ∃ v : Value, e = .returned v ∧ Kd.R k33 33 W' w0.heap.size (fun _ => True) v [] ∧ Below w0.heap.size w0 W' := grow_calls' w0 none ⟨rfl⟩ n hn W hb
def measI (n : Nat) (v : Value) : Nat := n - (intOf v).toNat
theorem flat_take (l : List (List S33)) (j : Nat) (h : j < l.length) : (l.take (j + 1)).flatten = (l.take j).flatten ++ rd_L2 l (j : Int) := by
  rw [List.take_succ_eq_append_getElem h, List.flatten_append]
  congr 1
  rw [show rd_L2 l (j : Int) = l.getD j [] from rfl, List.getD_eq_getElem?_getD, List.getElem?_eq_getElem h]
  simp
theorem flat_le (l : List (List S33)) (j : Nat) : (l.take j).flatten.length ≤ l.flatten.length := by
  have h : l.flatten = (l.take j).flatten ++ (l.drop j).flatten := by rw [← List.flatten_append, List.take_append_drop]
  rw [h, List.length_append]
  omega
set_option maxRecDepth 100000 in
set_option maxHeartbeats 1000000 in
theorem concat_calls (A0 : Option Addr) (c0 : Nat) (l0 : List (List S33)) (w : World) (hr0 : Kd.C (Kd.slice 33 k33) w A0 l0.length l0) (hc0 : l0.length ≤ c0) (hl : l0.flatten.length < 8796093022208) :
    Calls Tryd.prog 29 #[.slice A0 l0.length c0] w fun e w' => ∃ v : Value, e = .returned v ∧ Kd.R k33 33 w' w.heap.size (fun _ => True) v l0.flatten ∧ Below w.heap.size w w' := by
  have HR := Aside0.mk hr0
  have HC := Aside0.mk hc0
  have HL := Aside0.mk hl
  have hlen : l0.length ≤ 9223372036854775807 := hr0.2.1
  have HLE := Aside0.mk hlen
  clear hr0 hc0 hl hlen
  go_enter Tryd.func29, Tryd.ntmps29
  go_wp2_with fail
  go_loopw [3, 11] (fun vs vj wr => ∃ (j : Nat), vj = .int .i64 (j : Int) ∧ vs = .int .i64 (((l0.take j).flatten.length : Nat) : Int) ∧ Aside0 (j ≤ l0.length) ∧ wr = w)
    (fun _ vj _ => measI l0.length vj)
  case atStart => exact ⟨0, rfl, rfl, ⟨by omega⟩, rfl⟩
  case round =>
    obtain ⟨j, rfl, rfl, HJ, hwr⟩ := hrel
    obtain rfl := hwr.symm
    by_cases hj : j < l0.length
    · have p1 : 0 ≤ (j : Int) := by omega
      have q1 : (j : Int) < (l0.length : Int) := by omega
      obtain ⟨ad, A1, c1, e1, hx0, hl1, hC1⟩ := at_L2 HR.out (j : Int) p1 q1
      simp only [Int.toNat_natCast] at hx0
      subst e1
      have d1 : decide (j < l0.length) = true := decide_eq_true hj
      have hj1 : wrap64 ((j : Int) + 1) = ((j + 1 : Nat) : Int) := by have := HLE.out; unfold wrap64; omega
      have hft := flat_take l0 j hj
      have hfl := flat_le l0 (j + 1)
      have hs1 : wrap64 ((((l0.take j).flatten.length : Nat) : Int) + ((rd_L2 l0 (j : Int)).length : Int)) = (((l0.take (j + 1)).flatten.length : Nat) : Int) := by
        rw [hft, List.length_append] at hfl ⊢
        have := HL.out
        unfold wrap64; omega
      have d2 : decide ((((l0.take (j + 1)).flatten.length : Nat) : Int) < 0) = false := decide_eq_false (by omega)
      replace p1 := eq_true p1
      replace q1 := eq_true q1
      have HJ1 := Aside0.mk hj
      clear hj hft hfl hC1 hl1
      generalize hs2 : (l0.take (j + 1)).flatten.length = s1 at hs1 d2
      generalize (l0.take j).flatten.length = s0 at hs1
      have HS := Aside0.mk hs2
      clear hs2
      go_wp2_with fail
      constructor
      · exact ⟨j + 1, congrArg (Value.int .i64) hj1, by rw [hs1, HS.out], ⟨by have := HJ1.out; omega⟩, trivial⟩
      · have := HJ1.out
        rw [hj1]; unfold measI; simp [intOf]; omega
    · have d1 : decide (j < l0.length) = false := decide_eq_false hj
      have hft : (l0.take j).flatten = l0.flatten := by rw [List.take_of_length_le (by omega)]
      rw [hft]
      obtain ⟨N, hN⟩ : ∃ N, N = l0.flatten.length := ⟨_, rfl⟩
      rw [← hN] at HL ⊢
      have HT := Aside0.mk hj
      have HNN := Aside0.mk hN
      clear hft hj hN
      go_wp2_with (go_at_call 34; refine (grow_calls w N HL.out w (Below.refl _ _)).mono ?_; rintro e W1 ⟨v, rfl, hv, hb⟩; have HV := Aside0.mk hv; have HB1 := Aside0.mk hb; clear hv hb)
      go_loopw [6, 27] (fun v6 vj wr2 => ∃ (k : Nat), vj = .int .i64 (k : Int) ∧ Aside0 (k ≤ l0.length) ∧ Aside0 (Kd.R k33 33 wr2 w.heap.size (fun _ => True) v6 (l0.take k).flatten ∧ Below w.heap.size w wr2))
        (fun _ vj _ => measI l0.length vj)
      case atStart => exact ⟨0, rfl, ⟨by omega⟩, ⟨HV.out, HB1.out⟩⟩
      case round =>
        clear HV HB1
        obtain ⟨k, rfl, HK, HO⟩ := hrel
        by_cases hk : k < l0.length
        · have hR2 : (Kd.slice 33 k33).C wr A0 l0.length l0 := Kd.C_below HR.out HO.out.2
          have p1 : 0 ≤ (k : Int) := by omega
          have q1 : (k : Int) < (l0.length : Int) := by omega
          obtain ⟨ad, A1, c1, e1, hx0, hl1, hC1⟩ := at_L2 hR2 (k : Int) p1 q1
          simp only [Int.toNat_natCast] at hx0
          subst e1
          have d2 : decide (k < l0.length) = true := decide_eq_true hk
          have hj1 : wrap64 ((k : Int) + 1) = ((k + 1 : Nat) : Int) := by have := HLE.out; unfold wrap64; omega
          have hft := flat_take l0 k hk
          have hfl := flat_le l0 (k + 1)
          replace p1 := eq_true p1
          replace q1 := eq_true q1
          have HC1 := Aside0.mk hC1
          have HX : Aside0 (k < l0.length ∧ (l0.take (k + 1)).flatten = (l0.take k).flatten ++ rd_L2 l0 (k : Int) ∧ (l0.take k).flatten.length + (rd_L2 l0 (k : Int)).length < 8796093022208) := ⟨hk, hft, by
            rw [hft, List.length_append] at hfl
            have := HL.out
            have := HNN.out
            omega⟩
          clear hk hft hfl hC1 hR2
          go_wp2_with ((with_reducible refine gate_builtin (b := .append) (xs := #[.tmp 31, .tmp 32]) rfl ?_); at_builtin; refine Kd.R_append_rows k33 (w0 := w) w.heap.size rfl (.tmp 31) (.tmp 32) 27 33 (.agg #[(.int .i64 0), (.int .i64 0)]) 16 rfl Tryd.underlying27 info33 rfl (by decide) (by omega) _ (l0.take k).flatten (rd_L2 l0 (k : Int)) _ _ _ (fun _ => True) (fun _ => False) rfl rfl HO.out.1 HC1.out (fun _ _ h => h) (fun _ h => h.elim) (fun _ _ => trivial) HO.out.2 HO.out.2.size (by have := HX.out; omega) ?_; intro v1 w1 ho hb hg hat; have HO1 := Aside0.mk (And.intro ho hb); clear ho hb hg hat)
          constructor
          · exact ⟨k + 1, congrArg (Value.int .i64) hj1, ⟨by have := HX.out; omega⟩, ⟨by rw [HX.out.2.1]; exact HO1.out.1, HO1.out.2⟩⟩
          · have := HX.out.1
            rw [hj1]; unfold measI; simp [intOf]; omega
        · have d2 : decide (k < l0.length) = false := decide_eq_false hk
          have HX : Aside0 ((l0.take k).flatten = l0.flatten) := ⟨by rw [List.take_of_length_le (by omega)]⟩
          clear hk
          go_wp2_with fail
          go_ret
          exact ⟨_, rfl, by rw [← HX.out]; exact HO.out.1, HO.out.2⟩
/-- The set of some rows of ranges together. -/
def ranges_Union.f (l : List (List S33)) : Option (List S33) := if l.flatten.length < 8796093022208 then some (ofL l.flatten) else none
set_option maxRecDepth 100000 in
set_option maxHeartbeats 400000 in
theorem ranges_Union.calls (A0 : Option Addr) (c0 : Nat) (l0 : List (List S33)) (r : List S33) (w : World) (hr0 : Kd.C (Kd.slice 33 k33) w A0 l0.length l0) (hc0 : l0.length ≤ c0) (h : ranges_Union.f l0 = some r) :
    Calls Tryd.prog 22 #[.slice A0 l0.length c0] w fun e w' => ∃ v0_ : Value, e = .returned (v0_) ∧ Kd.R k33 33 w' w.heap.size (fun _ => True) v0_ r ∧ Below w.heap.size w w' := by
  unfold ranges_Union.f at h
  by_cases hl : l0.flatten.length < 8796093022208
  · rw [if_pos hl] at h
    obtain rfl := Option.some.inj h
    have HX := Aside0.mk (concat_calls A0 c0 l0 w hr0 hc0 hl)
    have HL := Aside0.mk hl
    clear hr0 hc0 h hl
    generalize l0.flatten = fl at HX HL ⊢
    go_enter Tryd.func22, Tryd.ntmps22
    go_wp2_with (first | (go_at_call 29; refine HX.out.mono ?_; rintro e W1 ⟨v, rfl, hv, hb⟩; obtain ⟨A1, c1, rfl, hlc, hC⟩ := R_form hv; have HO := Aside0.mk (of_calls A1 c1 fl W1 HL.out hC hlc); have HB1 := Aside0.mk hb; clear hv hb hlc hC) | (go_at_call 21; with_reducible refine HO.out.mono ?_; rintro e W2 ⟨v, rfl, hv, hb⟩; have HV := Aside0.mk (Kd.R_lower hv HB1.out.size); have HB2 := Aside0.mk (below_then HB1.out HB1.out.size hb); clear hv hb))
    go_ret
    exact ⟨_, rfl, HV.out, HB2.out⟩
  · rw [if_neg hl] at h
    cases h
end Go.Proofs.YtfknoaokoncneabDoor.HandUnion

/- A text's data: what script.Quote makes. Condition: a bound on the text's length. -/
import Derived.Test.YtifcpamliidabaaDoorPSx0
import Derived.Test.YtifcpamliidabaaDoorPSx6
import Derived.Test.YtifcpamliidabaaDoorWWords
import Derived.Test.YtifcpamliidabaaDoorWMore
set_option linter.unusedSimpArgs false
set_option linter.unusedVariables false
namespace Go.Proofs.YtifcpamliidabaaDoor.HandQuote
open Go.RowKit Go.Proofs.YtifcpamliidabaaDoorW.PrintWords Go.Proofs.YtifcpamliidabaaDoorW.PrintLast Go.Proofs.YtifcpamliidabaaDoorW.PrintMore Go.Proofs.YtifcpamliidabaaDoor.PS
def hexd (d : Int) : Int := if d < 10 then 48 + d else 87 + d
/-- What is told of a byte. -/
def quoteB (c : Int) : List Int := if c = 34 ∨ c = 92 then [92, c] else if c < 32 ∨ 126 < c then [92, 120, hexd (c / 16), hexd (c % 16)] else [c]
def qhead (s : ByteArray) (j : Nat) : List Int := 34 :: ((bytesOf s).take j).flatMap quoteB
def quoteL (s : ByteArray) : List Int := 34 :: ((bytesOf s).flatMap quoteB ++ [34])
theorem quoteB_len (c : Int) : (quoteB c).length ≤ 4 := by
  unfold quoteB
  (repeat' split) <;> simp
theorem flat_len (l : List Int) : (l.flatMap quoteB).length ≤ 4 * l.length := by
  induction l with
  | nil => simp
  | cons c l ih =>
    have := quoteB_len c
    rw [List.flatMap_cons, List.length_append, List.length_cons]
    omega
theorem qhead_len (s : ByteArray) (j : Nat) : (qhead s j).length ≤ 4 * s.size + 1 := by
  have h1 := flat_len ((bytesOf s).take j)
  have h2 : ((bytesOf s).take j).length ≤ s.size := by rw [List.length_take, bytesOf_length]; omega
  rw [qhead, List.length_cons]
  omega
theorem qhead_next (s : ByteArray) (j : Nat) (h : j < s.size) : qhead s (j + 1) = qhead s j ++ quoteB (bt s (j : Int)) := by
  have hl : j < (bytesOf s).length := by rw [bytesOf_length]; exact h
  unfold qhead
  rw [List.take_succ_eq_append_getElem hl, List.flatMap_append]
  have e : (bytesOf s)[j] = bt s (j : Int) := by
    have := rd_bytesOf s (j : Int)
    rw [rd, Int.toNat_natCast, List.getD_eq_getElem?_getD, List.getElem?_eq_getElem hl] at this
    exact this
  rw [e]
  simp
theorem qhead_all (s : ByteArray) : qhead s s.size ++ [34] = quoteL s := by
  rw [qhead, List.take_of_length_le (by rw [bytesOf_length]; omega)]
  rfl
theorem own_alloc {W : World} {base n : Nat} {e : TypeId} {size : Nat} {v : Value} {xs : List Value} (h : W.ownsRow base e size v n xs) (o : Obj) : (W.alloc o).ownsRow base e size v n xs := h.alloc _
theorem lit2 (W : World) (a b : Int) : ReadsInt (W.alloc (.cells #[.int .u8 a, .int .u8 b] 5)) .u8 (some ⟨W.heap.size, 0, none⟩) 2 [a, b] := by
  obtain ⟨A, c, e, h⟩ := own_reads (own_lit W 0 5 .u8 [a, b] (Nat.zero_le _) (by simp))
  cases e
  exact h
theorem hex_all : (List.range 256).all (fun c => decide (digit_HexText.f 20 (c : Int) 2 = some (strOfNums [hexd ((c : Int) / 16), hexd ((c : Int) % 16)]))) = true := by decide +kernel
theorem hex_f (c : Int) (h0 : 0 ≤ c) (h1 : c ≤ 255) : ∃ K, digit_HexText.f K c 2 = some (strOfNums [hexd (c / 16), hexd (c % 16)]) := by
  obtain ⟨n, rfl⟩ := Int.eq_ofNat_of_zero_le h0
  exact ⟨20, of_decide_eq_true (List.all_eq_true.mp hex_all n (List.mem_range.mpr (by omega)))⟩
def measQ (n : Nat) (v : Value) : Nat := n - (intOf v).toNat
theorem str_size (l : List Int) : (strOfNums l).size = l.length := by
  rw [← data_length, strOfNums_data, List.length_map]
theorem hexd_range (d : Int) (h0 : 0 ≤ d) (h1 : d < 16) : 0 ≤ hexd d ∧ hexd d < 256 := by unfold hexd; split <;> omega
theorem bytes_two (a b : Int) (ha : 0 ≤ a ∧ a < 256) (hb : 0 ≤ b ∧ b < 256) : bytesOf (strOfNums [a, b]) = [a, b] := by
  unfold bytesOf
  rw [strOfNums_data]
  simp only [List.map_cons, List.map_nil, UInt8.toNat_ofNat', List.cons.injEq, and_true]
  omega
set_option maxRecDepth 100000 in
set_option maxHeartbeats 1000000 in
theorem quote_calls (s : ByteArray) (w : World) (hs : s.size ≤ 10000000) (hrG2 : Kd.C (Kd.int .u8) w (some ⟨2, 0, none⟩) tab_digit_signs.length tab_digit_signs) :
    Calls Tryd.prog 14 #[.string s] w fun e w' => e = .returned (.string (strOfNums (quoteL s))) ∧ Below w.heap.size w w' := by
  have HG := Aside0.mk hrG2
  have HS := Aside0.mk hs
  clear hrG2 hs
  go_enter Tryd.func14, Tryd.ntmps14
  go_wp2_with fail
  go_loopw [3, 9] (fun v3 v9 wr => ∃ (x : Int) (j : Nat), v9 = .int .i64 x ∧ Aside0 (x = (j : Int) ∧ j ≤ s.size) ∧ Aside0 (wr.ownsRow w.heap.size 5 1 v3 (qhead s j).length (nums .u8 (qhead s j)) ∧ Below w.heap.size w wr))
    (fun _ v9 _ => measQ s.size v9)
  case atStart => exact ⟨0, 0, rfl, ⟨rfl, by omega⟩, ⟨own_lit w w.heap.size 5 .u8 [34] (Nat.le_refl _) (by simp), (Below.refl _ w).alloc (Nat.le_refl _) _⟩⟩
  case round =>
    obtain ⟨x, j, rfl, HJ, HO⟩ := hrel
    by_cases hj : j < s.size
    · have d1 : decide (x < (s.size : Int)) = true := decide_eq_true (by have := HJ.out; omega)
      have p5 : (0 ≤ x) = True := eq_true (by have := HJ.out; omega)
      have q5 : (x < (s.size : Int)) = True := eq_true (by have := HJ.out; omega)
      have hx5 := bt_at s x
      have HR := Aside0.mk (bt_range s x)
      have hqn := qhead_next s j hj
      rw [← HJ.out.1] at hqn
      have HX : Aside0 (x = (j : Int) ∧ j < s.size) := ⟨HJ.out.1, hj⟩
      have hx1 : wrap64 (x + 1) = x + 1 := by have := HX.out; have := HS.out; unfold wrap64; omega
      have hql := qhead_len s j
      have HL : Aside0 ((qhead s j).length ≤ 50000000) := ⟨by have := HS.out; omega⟩
      have HQ0 := Aside0.mk hqn
      clear hj hqn hql HJ
      by_cases h34 : bt s x = 34
      · have e1 : (bt s x == 34) = true := beq_iff_eq.mpr h34
        have HQ : Aside0 (qhead s (j + 1) = qhead s j ++ [92, bt s x]) := ⟨by rw [HQ0.out, quoteB, if_pos (.inl h34)]⟩
        clear h34
        go_wp2_with (at_builtin; refine print_append_row (w0 := w) w.heap.size rfl (.tmp 26) (.tmp 28) 67 5 .u8 1 rfl Tryd.underlying67 info5 (by decide) _ (qhead s j) [92, bt s x] _ 2 2 rfl rfl (own_alloc HO.out.1 _) (lit2 _ _ _) (HO.out.2.alloc HO.out.2.size _) (HO.out.2.alloc HO.out.2.size _).size (by have := HL.out; omega) ?_; intro v1 w1 ho hb hg hat; have HO1 := Aside0.mk (And.intro ho hb); clear ho hb hg hat)
        constructor
        · exact ⟨x + 1, j + 1, congrArg (Value.int .i64) hx1, ⟨by have := HX.out; omega, by have := HX.out; omega⟩, ⟨by rw [HQ.out]; exact HO1.out.1, HO1.out.2⟩⟩
        · have := HX.out
          rw [hx1]; unfold measQ; simp [intOf]; omega
      · have e1 : (bt s x == 34) = false := beq_eq_false_iff_ne.mpr h34
        by_cases h92 : bt s x = 92
        · have e2 : (bt s x == 92) = true := beq_iff_eq.mpr h92
          have HQ : Aside0 (qhead s (j + 1) = qhead s j ++ [92, bt s x]) := ⟨by rw [HQ0.out, quoteB, if_pos (.inr h92)]⟩
          clear h34 h92
          go_wp2_with (at_builtin; refine print_append_row (w0 := w) w.heap.size rfl (.tmp 26) (.tmp 28) 67 5 .u8 1 rfl Tryd.underlying67 info5 (by decide) _ (qhead s j) [92, bt s x] _ 2 2 rfl rfl (own_alloc HO.out.1 _) (lit2 _ _ _) (HO.out.2.alloc HO.out.2.size _) (HO.out.2.alloc HO.out.2.size _).size (by have := HL.out; omega) ?_; intro v1 w1 ho hb hg hat; have HO1 := Aside0.mk (And.intro ho hb); clear ho hb hg hat)
          constructor
          · exact ⟨x + 1, j + 1, congrArg (Value.int .i64) hx1, ⟨by have := HX.out; omega, by have := HX.out; omega⟩, ⟨by rw [HQ.out]; exact HO1.out.1, HO1.out.2⟩⟩
          · have := HX.out
            rw [hx1]; unfold measQ; simp [intOf]; omega
        · have e2 : (bt s x == 92) = false := beq_eq_false_iff_ne.mpr h92
          by_cases hpl : bt s x < 32 ∨ 126 < bt s x
          · have HQ : Aside0 (qhead s (j + 1) = qhead s j ++ [92, 120] ++ bytesOf (strOfNums [hexd (bt s x / 16), hexd (bt s x % 16)])) := ⟨by
              have hb := HR.out
              rw [HQ0.out, quoteB, if_neg (by omega), if_pos hpl, bytes_two _ _ (hexd_range _ (by omega) (by omega)) (hexd_range _ (by omega) (by omega)), List.append_assoc]
              rfl⟩
            obtain ⟨K, hK⟩ := hex_f (bt s x) HR.out.1 HR.out.2
            obtain ⟨hs2, hs2e⟩ : ∃ y, y = strOfNums [hexd (bt s x / 16), hexd (bt s x % 16)] := ⟨_, rfl⟩
            have HSZ : Aside0 (hs2.size = 2) := ⟨by rw [hs2e, str_size]; rfl⟩
            rw [← hs2e] at hK HQ
            have HH := Aside0.mk hK
            clear hK hs2e
            have hwb : wrap64 (bt s x) = bt s x := by have := HR.out; unfold wrap64; omega
            by_cases h32 : bt s x < 32
            · have e3 : decide (bt s x < 32) = true := decide_eq_true h32
              clear h34 h92 hpl h32
              go_wp2_with (first | (at_builtin; refine print_append_row (w0 := w) w.heap.size rfl (.tmp 37) (.tmp 38) 67 5 .u8 1 rfl Tryd.underlying67 info5 (by decide) _ (qhead s j) [92, 120] _ 2 2 rfl rfl (own_alloc HO.out.1 _) (lit2 _ _ _) (HO.out.2.alloc HO.out.2.size _) (HO.out.2.alloc HO.out.2.size _).size (by have := HL.out; omega) ?_; intro v1 w1 ho hb hg hat; have HO1 := Aside0.mk (And.intro ho hb); clear ho hb hg hat) | (go_at_call 33; with_reducible refine (digit_HexText.calls K (bt s x) 2 hs2 _ (Kd.C_below HG.out HO1.out.2) HH.out).mono ?_; rintro e W2 ⟨rfl, hb⟩; have HO2 := Aside0.mk (And.intro (pw_own_below HO1.out.1 hb) (below_then HO1.out.2 HO1.out.2.size hb)); clear hb) | (at_builtin; refine print_append_str (w0 := w) w.heap.size rfl (.tmp 39) _ 67 9 5 rfl Tryd.underlying67 Tryd.underlying9 info5 _ (qhead s j ++ [92, 120]) _ rfl rfl HO2.out.1 HO2.out.2 HO2.out.2.size (by have := HL.out; rw [List.length_append, HSZ.out]; simp only [List.length_cons, List.length_nil]; omega) ?_; intro v3 w3 ho hb hg; have HO3 := Aside0.mk (And.intro ho hb); clear ho hb hg))
              constructor
              · exact ⟨x + 1, j + 1, congrArg (Value.int .i64) hx1, ⟨by have := HX.out; omega, by have := HX.out; omega⟩, ⟨by rw [HQ.out]; exact HO3.out.1, HO3.out.2⟩⟩
              · have := HX.out
                rw [hx1]; unfold measQ; simp [intOf]; omega
            · have e3 : decide (bt s x < 32) = false := decide_eq_false h32
              have e4 : decide (126 < bt s x) = true := decide_eq_true (by omega)
              clear h34 h92 hpl h32
              go_wp2_with (first | (at_builtin; refine print_append_row (w0 := w) w.heap.size rfl (.tmp 37) (.tmp 38) 67 5 .u8 1 rfl Tryd.underlying67 info5 (by decide) _ (qhead s j) [92, 120] _ 2 2 rfl rfl (own_alloc HO.out.1 _) (lit2 _ _ _) (HO.out.2.alloc HO.out.2.size _) (HO.out.2.alloc HO.out.2.size _).size (by have := HL.out; omega) ?_; intro v1 w1 ho hb hg hat; have HO1 := Aside0.mk (And.intro ho hb); clear ho hb hg hat) | (go_at_call 33; with_reducible refine (digit_HexText.calls K (bt s x) 2 hs2 _ (Kd.C_below HG.out HO1.out.2) HH.out).mono ?_; rintro e W2 ⟨rfl, hb⟩; have HO2 := Aside0.mk (And.intro (pw_own_below HO1.out.1 hb) (below_then HO1.out.2 HO1.out.2.size hb)); clear hb) | (at_builtin; refine print_append_str (w0 := w) w.heap.size rfl (.tmp 39) _ 67 9 5 rfl Tryd.underlying67 Tryd.underlying9 info5 _ (qhead s j ++ [92, 120]) _ rfl rfl HO2.out.1 HO2.out.2 HO2.out.2.size (by have := HL.out; rw [List.length_append, HSZ.out]; simp only [List.length_cons, List.length_nil]; omega) ?_; intro v3 w3 ho hb hg; have HO3 := Aside0.mk (And.intro ho hb); clear ho hb hg))
              constructor
              · exact ⟨x + 1, j + 1, congrArg (Value.int .i64) hx1, ⟨by have := HX.out; omega, by have := HX.out; omega⟩, ⟨by rw [HQ.out]; exact HO3.out.1, HO3.out.2⟩⟩
              · have := HX.out
                rw [hx1]; unfold measQ; simp [intOf]; omega
          · have e3 : decide (bt s x < 32) = false := decide_eq_false (by omega)
            have e4 : decide (126 < bt s x) = false := decide_eq_false (by omega)
            have HQ : Aside0 (qhead s (j + 1) = qhead s j ++ [bt s x]) := ⟨by rw [HQ0.out, quoteB, if_neg (by omega), if_neg hpl]⟩
            clear h34 h92 hpl
            go_wp2_with (at_builtin; refine print_append_num (w0 := w) w.heap.size rfl (.tmp 15) (.tmp 17) 67 5 .u8 1 rfl Tryd.underlying67 info5 (by decide) _ (qhead s j) (bt s x) rfl rfl HO.out.1 HO.out.2 HO.out.2.size (by have := HL.out; omega) ?_; intro v1 w1 ho hb hg hat; have HO1 := Aside0.mk (And.intro ho hb); clear ho hb hg hat)
            constructor
            · exact ⟨x + 1, j + 1, congrArg (Value.int .i64) hx1, ⟨by have := HX.out; omega, by have := HX.out; omega⟩, ⟨by rw [HQ.out]; exact HO1.out.1, HO1.out.2⟩⟩
            · have := HX.out
              rw [hx1]; unfold measQ; simp [intOf]; omega
    · have d1 : decide (x < (s.size : Int)) = false := decide_eq_false (by have := HJ.out; omega)
      have HX : Aside0 (qhead s j ++ [34] = quoteL s) := ⟨by rw [← qhead_all s, show j = s.size by have := HJ.out; omega]⟩
      have hql := qhead_len s j
      have HL : Aside0 ((qhead s j).length ≤ 50000000) := ⟨by have := HS.out; omega⟩
      clear hj HJ hql
      go_wp2_with (first | (at_builtin; refine print_append_num (w0 := w) w.heap.size rfl (.tmp 45) (.tmp 46) 67 5 .u8 1 rfl Tryd.underlying67 info5 (by decide) _ (qhead s j) 34 rfl rfl HO.out.1 HO.out.2 HO.out.2.size (by have := HL.out; omega) ?_; intro v1 w1 ho hb hg hat; rw [HX.out] at ho; have hcv := own_string (P := Tryd.prog) (dst := 9) Tryd.underlying67 Tryd.underlying5 Tryd.underlying9 ho; have HB1 := Aside0.mk hb; clear ho hb hg hat))
      go_ret
      exact ⟨rfl, HB1.out⟩
/-- A text's data, as the printed texts want them told. -/
def script_Quote.f (s : ByteArray) : Option ByteArray := if s.size ≤ 10000000 then some (strOfNums (quoteL s)) else none
theorem script_Quote.calls (a0 : ByteArray) (r : ByteArray) (w : World) (hrG2 : Kd.C (Kd.int .u8) w (some ⟨2, 0, none⟩) tab_digit_signs.length tab_digit_signs) (h : script_Quote.f a0 = some r) :
    Calls Tryd.prog 14 #[.string a0] w fun e w' => e = .returned (.string r) ∧ Below w.heap.size w w' := by
  unfold script_Quote.f at h
  split at h
  · obtain rfl := Option.some.inj h
    exact quote_calls a0 w (by assumption) hrG2
  · cases h
end Go.Proofs.YtifcpamliidabaaDoor.HandQuote

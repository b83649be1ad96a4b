/- Items' lines: whether they may be told, and their text, by the program and by the reference. -/
import Derived.Test.YtifcpamliidabaaDoorPfV
import Derived.Test.YtifcpamliidabaaDoorPSx10
import Derived.Test.YtifcpamliidabaaDoorPSx19
import Derived.Test.YtifcpamliidabaaDoorPSx0
set_option linter.unusedSimpArgs false
set_option linter.unusedVariables false
namespace Go.Proofs.YtifcpamliidabaaDoor.PfX
open Go.RowKit Go.Proofs.YtifcpamliidabaaDoor.PS Go.Proofs.YtifcpamliidabaaDoorW.PrintWords Go.Proofs.YtifcpamliidabaaDoorW.PrintLast Go.Proofs.YtifcpamliidabaaDoor.PlD Go.Proofs.YtifcpamliidabaaDoor.PfD Go.Proofs.YtifcpamliidabaaDoor.PfQ Go.Proofs.YtifcpamliidabaaDoor.PfR Go.Proofs.YtifcpamliidabaaDoor.PfV
/-! ### a line -/
def headL (h : Int) : List Int := L (rdOf ByteArray.empty tab_script_heads h)
def lineL (h c a b : Int) (d : ByteArray) : List Int := headL h ++ ((if h = 1 ∨ h = 2 then 32 :: textN c.toNat else []) ++ ((if told a b d then 32 :: opL a b d else []) ++ [10]))
theorem head_size (h : Int) (h1 : 1 ≤ h) (h5 : h ≤ 5) : (rdOf ByteArray.empty tab_script_heads h).size ≤ 7 := by
  have key : ∀ j : Fin 5, (rdOf ByteArray.empty tab_script_heads ((j.val + 1 : Nat) : Int)).size ≤ 7 := by decide +kernel
  have := key ⟨(h - 1).toNat, by omega⟩
  rwa [show (((h - 1).toNat + 1 : Nat) : Int) = h by omega] at this
theorem small_len (c : Int) (h : c ≤ 999999999) : (textN c.toNat).length ≤ 19 :=
  textN_len 18 c.toNat (by have : c.toNat ≤ 999999999 := by omega
                           exact Nat.lt_of_le_of_lt this (by decide))
theorem opL_len (k n : Int) (d : ByteArray) (h : told k n d = true) : (opL k n d).length ≤ 4 * d.size + 30 := by
  have q := quote_size d
  unfold told at h
  simp only [Bool.and_eq_true, decide_eq_true_eq] at h
  have z := name_size k h.1.1 h.1.2
  have zz : (nameL k).length ≤ 8 := by unfold nameL; rw [L_len]; exact z.1
  have z1 : (nameL 1).length ≤ 8 := by decide +kernel
  unfold opL
  split
  · simp only [List.length_append, List.length_cons]; omega
  · split
    · rename_i hn
      have h2 := h.2
      rw [hn] at h2
      simp only [if_true, Bool.and_eq_true, decide_eq_true_eq] at h2
      have := small_len n h2.1.2
      simp only [List.length_append, List.length_cons]; omega
    · omega
theorem lineL_len (h c a b : Int) (d : ByteArray) (h1 : 1 ≤ h) (h5 : h ≤ 5) (hc : c ≤ 999999999) : (lineL h c a b d).length ≤ 4 * d.size + 60 := by
  have z := head_size h h1 h5
  have t := small_len c hc
  unfold lineL headL
  simp only [List.length_append, L_len]
  have e1 : (if h = 1 ∨ h = 2 then 32 :: textN c.toNat else []).length ≤ 20 := by
    split
    · simp only [List.length_cons]; omega
    · simp
  have e2 : (if told a b d = true then 32 :: opL a b d else []).length ≤ 4 * d.size + 31 := by
    split
    · rename_i ht
      have := opL_len a b d ht
      simp only [List.length_cons]; omega
    · simp
  simp only [List.length_cons, List.length_nil]
  omega
theorem one_size (x : UInt8) : (⟨#[x]⟩ : ByteArray).size = 1 := rfl
theorem L_10 : L (⟨#[10]⟩ : ByteArray) = [10] := rfl
theorem line_j0 (x : ByteArray) (hx : x.size ≤ 7) (g : Bool) (h c a b : Int) (d : ByteArray) (hd : d.size ≤ 10000000) (hc0 : g = true → 0 ≤ c) (hc : c ≤ 999999999) (K : Nat) (hK : 401 ≤ K) :
    ∃ r, script_line.j0 K x g h c a b d = some r ∧ L r = L x ++ ((if g = true then 32 :: textN c.toNat else []) ++ ((if told a b d then 32 :: opL a b d else []) ++ [10])) := by
  obtain ⟨k, rfl⟩ : ∃ m, K = m + 1 := ⟨K - 1, by omega⟩
  simp only [script_line.j0]
  cases g with
  | true =>
    have hc0 := hc0 rfl
    obtain ⟨t, e1, e2⟩ := Text_f c (by omega) (by omega) k (by omega)
    have hl := small_len c hc
    have e3 : L t = textN c.toNat := by rw [e2, textI, if_neg (by omega)]
    have ht : t.size ≤ 19 := by rw [← L_len, e3]; exact hl
    rw [if_pos rfl, e1, Option.bind_some]
    cases hT : told a b d with
    | true =>
      obtain ⟨o, f1, f2⟩ := OpText_f a b d hd hT k (by omega)
      have ho : o.size ≤ 4 * d.size + 30 := by rw [← L_len, f2]; exact opL_len a b d hT
      rw [f1]
      simp only [Option.bind_some, ByteArray.size_append, one_size, if_true]
      rw [if_pos (by omega), if_pos (by omega), if_pos (by omega), if_pos (by omega), if_pos (by omega)]
      refine ⟨_, rfl, ?_⟩
      simp only [L_append, e3, f2, L_32, L_10, List.append_assoc, List.cons_append, List.nil_append, if_true]
    | false =>
      rw [OpText_no a b d hT k (by omega)]
      simp only [Option.bind_some, ByteArray.size_append, one_size, if_true, Bool.false_eq_true, if_false]
      rw [if_pos (by omega), if_pos (by omega), if_pos (by omega)]
      refine ⟨_, rfl, ?_⟩
      simp only [L_append, e3, L_32, L_10, List.append_assoc, List.cons_append, List.nil_append, if_true, Bool.false_eq_true, if_false]
  | false =>
    rw [if_neg Bool.false_ne_true]
    cases hT : told a b d with
    | true =>
      obtain ⟨o, f1, f2⟩ := OpText_f a b d hd hT k (by omega)
      have ho : o.size ≤ 4 * d.size + 30 := by rw [← L_len, f2]; exact opL_len a b d hT
      rw [f1]
      simp only [Option.bind_some, ByteArray.size_append, one_size, if_true]
      rw [if_pos (by omega), if_pos (by omega), if_pos (by omega)]
      refine ⟨_, rfl, ?_⟩
      simp only [L_append, f2, L_32, L_10, List.append_assoc, List.cons_append, List.nil_append, if_true, Bool.false_eq_true, if_false]
    | false =>
      rw [OpText_no a b d hT k (by omega)]
      simp only [Option.bind_some, ByteArray.size_append, one_size, if_true, Bool.false_eq_true, if_false]
      rw [if_pos (by omega)]
      refine ⟨_, rfl, ?_⟩
      simp only [L_append, L_32, L_10, List.append_assoc, List.cons_append, List.nil_append, if_true, Bool.false_eq_true, if_false]
theorem line_f (h c a b : Int) (d : ByteArray) (h1 : 1 ≤ h) (h5 : h ≤ 5) (hd : d.size ≤ 10000000) (hc0 : 0 ≤ c) (hc : c ≤ 999999999) (K : Nat) (hK : 401 ≤ K) :
    ∃ r, script_line.f K h c a b d = some r ∧ L r = lineL h c a b d := by
  unfold script_line.f lineL headL
  rw [if_pos (by omega), if_pos (by omega)]
  have hz := head_size h h1 h5
  by_cases e1 : h = 1
  · obtain ⟨r, g1, g2⟩ := line_j0 (rdOf ByteArray.empty tab_script_heads h) hz true h c a b d hd (fun _ => hc0) hc K hK
    rw [if_pos e1, if_pos (Or.inl e1)]
    exact ⟨r, g1, g2⟩
  · obtain ⟨r, g1, g2⟩ := line_j0 (rdOf ByteArray.empty tab_script_heads h) hz (h == 2) h c a b d hd (fun _ => hc0) hc K hK
    rw [if_neg e1]
    refine ⟨r, g1, ?_⟩
    rw [g2]
    by_cases e2 : h = 2
    · rw [if_pos (Or.inr e2), if_pos (beq_iff_eq.mpr e2)]
    · rw [if_neg (show ¬ (h = 1 ∨ h = 2) by omega), if_neg (show ¬ (h == 2) = true by rw [beq_eq_false_iff_ne.mpr e2]; exact Bool.false_ne_true)]
/-! ### an item that may be told -/
def rightX (x : S51) : Bool := rightI x.f0 x.f1 x.f2.f0 x.f2.f1 x.f2.f2
def lineI (x : S51) : List Int := lineL x.f0 x.f1 x.f2.f0 x.f2.f1 x.f2.f2
def lin (l : List S51) : List Int := l.flatMap lineI
theorem told_none (a b : Int) (d : ByteArray) (h : none3 a b d = true) : told a b d = false := by
  unfold none3 at h
  simp only [Bool.and_eq_true, beq_iff_eq] at h
  unfold told
  rw [decide_eq_false (by omega), Bool.false_and]
theorem right_cases (h c a b : Int) (d : ByteArray) (hr : rightI h c a b d = true) : 1 ≤ h ∧ h ≤ 5 ∧ 0 ≤ c ∧ c ≤ 999999999 ∧ (h = 1 → told a b d = true) ∧ (h ≠ 1 → none3 a b d = true) ∧ (3 ≤ h → c = 0) := by
  unfold rightI at hr
  by_cases h1 : h = 1
  · rw [if_pos h1] at hr
    simp only [Bool.and_eq_true] at hr
    have := hr.1
    unfold dec at this
    have := of_decide_eq_true this
    exact ⟨by omega, by omega, by omega, by omega, fun _ => hr.2, fun e => absurd h1 e, by omega⟩
  · rw [if_neg h1] at hr
    by_cases h2 : h = 2
    · rw [if_pos h2] at hr
      simp only [Bool.and_eq_true] at hr
      have := hr.1
      unfold dec at this
      have := of_decide_eq_true this
      exact ⟨by omega, by omega, by omega, by omega, fun e => absurd e h1, fun _ => hr.2, by omega⟩
    · rw [if_neg h2] at hr
      by_cases h3 : h = 3 ∨ h = 4 ∨ h = 5
      · rw [if_pos h3] at hr
        simp only [Bool.and_eq_true, beq_iff_eq] at hr
        exact ⟨by omega, by omega, by omega, by omega, fun e => absurd e h1, fun _ => hr.2, fun _ => hr.1⟩
      · rw [if_neg h3] at hr
        cases hr
theorem rd_at (l : List S51) (j : Nat) (h : j < l.length) : rd_T51 l (j : Int) = l[j] := by
  unfold rd_T51
  rw [Int.toNat_natCast, List.getD_eq_getElem?_getD, List.getElem?_eq_getElem h, Option.getD_some]
theorem lin_drop (l : List S51) (j : Nat) (h : j < l.length) : lin (l.drop j) = lineI l[j] ++ lin (l.drop (j + 1)) := by
  unfold lin
  rw [List.drop_eq_getElem_cons h, List.flatMap_cons]
theorem lin_end (l : List S51) (j : Nat) (h : l.length ≤ j) : lin (l.drop j) = [] := by
  rw [List.drop_of_length_le h]; rfl
/-! ### the program's text -/
theorem Print_l1 (l : List S51) (hl : l.length ≤ 1000000) (hr : ∀ x ∈ l, rightX x = true) (hd : ∀ x ∈ l, x.f2.f2.size ≤ 65536) (d : Nat) : ∀ (K j : Nat) (acc : List Int), l.length - j ≤ d → j ≤ l.length → acc.length + (lin (l.drop j)).length ≤ 65536 → d + 402 ≤ K →
    script_Print.l1 K acc l (l.length : Int) (j : Int) = some (strOfNums (acc ++ lin (l.drop j)), 0) := by
  induction d with
  | zero =>
    intro K j acc h1 h2 h3 hK
    obtain ⟨k, rfl⟩ : ∃ m, K = m + 1 := ⟨K - 1, by omega⟩
    simp only [script_Print.l1]
    rw [if_neg (by omega), lin_end l j (by omega), List.append_nil]
  | succ d ih =>
    intro K j acc h1 h2 h3 hK
    obtain ⟨k, rfl⟩ : ∃ m, K = m + 1 := ⟨K - 1, by omega⟩
    simp only [script_Print.l1]
    by_cases hlt : j < l.length
    · have hm : l[j] ∈ l := List.getElem_mem hlt
      have hR := hr _ hm
      have hD := hd _ hm
      rw [lin_drop l j hlt] at h3 ⊢
      rw [List.length_append] at h3
      obtain ⟨c1, c2, c3, c4, _⟩ := right_cases _ _ _ _ _ hR
      obtain ⟨r, e1, e2⟩ := line_f l[j].f0 l[j].f1 l[j].f2.f0 l[j].f2.f1 l[j].f2.f2 c1 c2 (by omega) c3 c4 k (by omega)
      have e2' : bytesOf r = lineI l[j] := e2
      have e3 : r.size = (lineI l[j]).length := by rw [← L_len, e2]; rfl
      rw [if_pos (by omega), if_pos (by omega), if_pos (by omega), rd_at l j hlt, if_neg (by omega), e1, Option.bind_some, if_pos (by omega), Option.bind_some, e2']
      rw [if_neg (by rw [List.length_append]; omega), PlD.wrap_in (by omega) (by omega)]
      have := ih k (j + 1) (acc ++ lineI l[j]) (by omega) (by omega) (by rw [List.length_append]; omega) (by omega)
      rw [List.append_assoc] at this
      exact this
    · rw [if_neg (by omega), lin_end l j (by omega), List.append_nil]
theorem Print_l0 (l : List S51) (hl : l.length ≤ 1000000) (d : Nat) : ∀ (K j : Nat), l.length - j ≤ d → j ≤ l.length → d + 10 ≤ K →
    ((∃ x ∈ l.drop j, rightX x = false) → script_Print.l0 K l l (l.length : Int) (j : Int) = some (⟨#[]⟩, 1)) ∧
    ((∀ x ∈ l.drop j, rightX x = true) → ∃ k, K ≤ k + d + 1 ∧ script_Print.l0 K l l (l.length : Int) (j : Int) = script_Print.l1 k [] l (l.length : Int) 0) := by
  induction d with
  | zero =>
    intro K j h1 h2 hK
    obtain ⟨k, rfl⟩ : ∃ m, K = m + 1 := ⟨K - 1, by omega⟩
    simp only [script_Print.l0]
    rw [if_neg (by omega), List.drop_of_length_le (by omega)]
    exact ⟨fun ⟨x, hx, _⟩ => (by cases hx), fun _ => ⟨k, by omega, rfl⟩⟩
  | succ d ih =>
    intro K j h1 h2 hK
    obtain ⟨k, rfl⟩ : ∃ m, K = m + 1 := ⟨K - 1, by omega⟩
    simp only [script_Print.l0]
    by_cases hlt : j < l.length
    · have hS : script_Right.f k (rd_T51 l (j : Int)).f0 (rd_T51 l (j : Int)).f1 (rd_T51 l (j : Int)).f2.f0 (rd_T51 l (j : Int)).f2.f1 (rd_T51 l (j : Int)).f2.f2 = some (rightX l[j]) := by rw [rd_at l j hlt]; exact Right_f _ _ _ _ _ k (by omega)
      rw [if_pos (by omega), if_pos (by omega), if_pos (by omega), hS, Option.bind_some, List.drop_eq_getElem_cons hlt]
      obtain ⟨i1, i2⟩ := ih k (j + 1) (by omega) (by omega) (by omega)
      cases hq : rightX l[j] with
      | false =>
        rw [if_neg Bool.false_ne_true]
        exact ⟨fun _ => rfl, fun h => by rw [h _ (List.mem_cons_self ..)] at hq; cases hq⟩
      | true =>
        rw [if_pos rfl, PlD.wrap_in (by omega) (by omega)]
        refine ⟨fun ⟨x, hx, hf⟩ => ?_, fun h => ?_⟩
        · rcases List.mem_cons.1 hx with e | e
          · rw [e, hq] at hf; cases hf
          · exact i1 ⟨x, e, hf⟩
        · obtain ⟨k', g1, g2⟩ := i2 (fun x hx => h x (List.mem_cons_of_mem _ hx))
          exact ⟨k', by omega, g2⟩
    · rw [if_neg (by omega), List.drop_of_length_le (by omega)]
      exact ⟨fun ⟨x, hx, _⟩ => (by cases hx), fun _ => ⟨k, by omega, rfl⟩⟩
theorem Print_no (l : List S51) (hl : l.length ≤ 1000000) (h : ∃ x ∈ l, rightX x = false) (K : Nat) (hK : l.length + 10 ≤ K) : script_Print.f K l = some (⟨#[]⟩, 1) :=
  (Print_l0 l hl l.length K 0 (by omega) (by omega) hK).1 (by rw [List.drop_zero]; exact h)
theorem Print_f (l : List S51) (hl : l.length ≤ 1000000) (hr : ∀ x ∈ l, rightX x = true) (hd : ∀ x ∈ l, x.f2.f2.size ≤ 65536) (hz : (lin l).length ≤ 65536) (K : Nat) (hK : 2 * l.length + 403 ≤ K) : script_Print.f K l = some (strOfNums (lin l), 0) := by
  obtain ⟨k, g1, g2⟩ := (Print_l0 l hl l.length K 0 (by omega) (by omega) (by omega)).2 (by rw [List.drop_zero]; exact hr)
  unfold script_Print.f
  have g3 := Print_l1 l hl hr hd l.length k 0 [] (by omega) (by omega) (by rw [List.drop_zero]; simpa using hz) (by omega)
  rw [List.drop_zero, List.nil_append] at g3
  exact g2.trans g3
/-! ### the reference's text -/
theorem lineI_byte (x : S51) : ∀ y ∈ lineI x, 0 ≤ y ∧ y < 256 := by
  have hdig : ∀ n y, y ∈ textN n → 0 ≤ y ∧ y < 256 := fun n y hy => by have := textN_dig n y hy; unfold dig at this; omega
  intro y hy
  unfold lineI lineL at hy
  rcases List.mem_append.1 hy with h | h
  · exact L_byte _ y h
  · rcases List.mem_append.1 h with h | h
    · split at h
      · rcases List.mem_cons.1 h with e | e
        · omega
        · exact hdig _ y e
      · cases h
    · rcases List.mem_append.1 h with h | h
      · split at h
        · rcases List.mem_cons.1 h with e | e
          · omega
          · unfold opL at e
            split at e
            · rcases List.mem_append.1 e with e | e
              · exact L_byte _ y e
              · rcases List.mem_cons.1 e with e | e
                · omega
                · have := quoteN_range _ y e; omega
            · split at e
              · rcases List.mem_append.1 e with e | e
                · exact L_byte _ y e
                · rcases List.mem_cons.1 e with e | e
                  · omega
                  · exact hdig _ y e
              · exact L_byte _ y e
        · cases h
      · simp at h; omega
theorem lin_byte (l : List S51) : ∀ y ∈ lin l, 0 ≤ y ∧ y < 256 := by
  intro y hy
  obtain ⟨x, _, hx⟩ := List.mem_flatMap.1 hy
  exact lineI_byte x y hx
/-! ### how much it may be -/
def dat (l : List S51) : Nat := (l.map fun x => x.f2.f2.size).sum
theorem dat_drop (l : List S51) (j : Nat) (h : j < l.length) : dat (l.drop j) = l[j].f2.f2.size + dat (l.drop (j + 1)) := by
  unfold dat
  rw [List.drop_eq_getElem_cons h, List.map_cons, List.sum_cons]
theorem lin_len (l : List S51) (hr : ∀ x ∈ l, rightX x = true) : (lin l).length ≤ 60 * l.length + 4 * dat l := by
  induction l with
  | nil => simp [lin]
  | cons x l ih =>
    have i := ih (fun y hy => hr y (List.mem_cons_of_mem _ hy))
    obtain ⟨c1, c2, c3, c4, _⟩ := right_cases _ _ _ _ _ (hr x (List.mem_cons_self ..))
    have z := lineL_len x.f0 x.f1 x.f2.f0 x.f2.f1 x.f2.f2 c1 c2 c4
    have e1 : lin (x :: l) = lineI x ++ lin l := by unfold lin; rw [List.flatMap_cons]
    have e2 : dat (x :: l) = x.f2.f2.size + dat l := by unfold dat; rw [List.map_cons, List.sum_cons]
    have e3 : (lineI x).length ≤ 4 * x.f2.f2.size + 60 := z
    rw [e1, e2, List.length_append, List.length_cons]
    omega
theorem Far_l0 (l : List S51) (hl : l.length ≤ 140737488351232) (d : Nat) : ∀ (K j n : Nat), 200 - j ≤ d → j ≤ l.length → j ≤ 200 → n ≤ 40 * j → 2 * d + 3 ≤ K →
    ∃ b, spoolref45_Far.l0 K l (n : Int) (j : Int) = some b ∧ (b = false → l.length ≤ 160 ∧ n + dat (l.drop j) ≤ 200) := by
  induction d with
  | zero =>
    intro K j n h1 h2 h3 hn hK
    obtain ⟨k, rfl⟩ : ∃ m, K = (m + 1) + 1 := ⟨K - 2, by omega⟩
    unfold spoolref45_Far.l0 spoolref45_Far.j1
    rw [decide_eq_false (by omega), if_neg Bool.false_ne_true, ite_self, if_pos (by omega)]
    exact ⟨_, rfl, fun h => by cases h⟩
  | succ d ih =>
    intro K j n h1 h2 h3 hn hK
    obtain ⟨k, rfl⟩ : ∃ m, K = (m + 1) + 1 := ⟨K - 2, by omega⟩
    unfold spoolref45_Far.l0 spoolref45_Far.j1
    by_cases hlt : j < l.length
    · by_cases h200 : j < 200
      · rw [if_pos (by omega), decide_eq_true (by omega), if_pos rfl, if_pos (by omega), if_pos (by omega), rd_at l j hlt]
        by_cases hb : l[j].f2.f2.size ≤ 40
        · rw [if_neg (by omega), PlD.wrap_in (by omega) (by omega), PlD.wrap_in (by omega) (by omega)]
          obtain ⟨b, g1, g2⟩ := ih k (j + 1) (n + l[j].f2.f2.size) (by omega) (by omega) (by omega) (by omega) (by omega)
          refine ⟨b, g1, fun hf => ?_⟩
          have := g2 hf
          rw [dat_drop l j hlt]
          omega
        · rw [if_pos (by omega)]
          exact ⟨_, rfl, fun h => by cases h⟩
      · rw [decide_eq_false (by omega), if_neg Bool.false_ne_true, ite_self, if_pos (by omega)]
        exact ⟨_, rfl, fun h => by cases h⟩
    · rw [if_neg (by omega), if_neg Bool.false_ne_true]
      by_cases h160 : l.length ≤ 160
      · rw [if_neg (by omega)]
        refine ⟨_, rfl, fun h => ⟨h160, ?_⟩⟩
        have := of_decide_eq_false h
        rw [List.drop_of_length_le (by omega)]
        simp [dat]
        omega
      · rw [if_pos (by omega)]
        exact ⟨_, rfl, fun h => by cases h⟩
theorem Far_f (l : List S51) (hl : l.length ≤ 140737488351232) (K : Nat) (hK : 403 ≤ K) : ∃ b, spoolref45_Far.f K l = some b ∧ (b = false → l.length ≤ 160 ∧ dat l ≤ 200) := by
  obtain ⟨b, g1, g2⟩ := Far_l0 l hl 200 K 0 0 (by omega) (by omega) (by omega) (by omega) (by omega)
  refine ⟨b, g1, fun h => ?_⟩
  have := g2 h
  rw [List.drop_zero] at this
  omega
theorem dat_mem (l : List S51) (x : S51) (h : x ∈ l) : x.f2.f2.size ≤ dat l := by
  induction l with
  | nil => cases h
  | cons y l ih =>
    have e2 : dat (y :: l) = y.f2.f2.size + dat l := by unfold dat; rw [List.map_cons, List.sum_cons]
    rcases List.mem_cons.1 h with e | e
    · rw [e2, e]; omega
    · have := ih e; omega
end Go.Proofs.YtifcpamliidabaaDoor.PfX

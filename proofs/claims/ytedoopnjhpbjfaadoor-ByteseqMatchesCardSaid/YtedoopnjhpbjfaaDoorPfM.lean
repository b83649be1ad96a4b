/- What Match, Any, Many, Is tell; how many of a set's rows a text matches. Conditions: bounds on lengths, and on the fuel. -/
import Derived.Test.YtedoopnjhpbjfaaDoorPBx0
import Derived.Test.YtedoopnjhpbjfaaDoorPBx5
import Derived.Test.YtedoopnjhpbjfaaDoorPBx6
import Derived.Test.YtedoopnjhpbjfaaDoorPBx7
import Derived.Test.YtedoopnjhpbjfaaDoorHandByOf
import Derived.Test.YtedoopnjhpbjfaaDoorHandByCount
import Derived.Test.YtedoopnjhpbjfaaDoorHandAl
set_option linter.unusedSimpArgs false
set_option linter.unusedVariables false
namespace Go.Proofs.YtedoopnjhpbjfaaDoor.PfM
open Go.RowKit Go.Proofs.YtedoopnjhpbjfaaDoorW.PrintWords Go.Proofs.YtedoopnjhpbjfaaDoorW.PrintLast Go.Proofs.YtedoopnjhpbjfaaDoorW.PrintMore Go.Proofs.YtedoopnjhpbjfaaDoor.PB Go.Proofs.YtedoopnjhpbjfaaDoor.PlE Go.Proofs.YtedoopnjhpbjfaaDoor.PlB Go.Proofs.YtedoopnjhpbjfaaDoor.PlT Go.Proofs.YtedoopnjhpbjfaaDoor.Sets Go.Proofs.YtedoopnjhpbjfaaDoor.PfR Go.Proofs.YtedoopnjhpbjfaaDoor.HandOf Go.Proofs.YtedoopnjhpbjfaaDoor.HandByOf Go.Proofs.YtedoopnjhpbjfaaDoor.HandByCount Go.Proofs.YtedoopnjhpbjfaaDoor.HandAl
theorem drop_T (l : List S35) (j : Nat) (h : j < l.length) : l.drop j = rd_T35 l (j : Int) :: l.drop (j + 1) := drop_G l j h
theorem drop_L3 (l : List (List S35)) (j : Nat) (h : j < l.length) : l.drop j = rd_L3 l (j : Int) :: l.drop (j + 1) := by
  rw [List.drop_eq_getElem_cons h]
  simp [rd_L3, List.getD_eq_getElem?_getD, h]
theorem wx (j : Nat) (h : j < 1000000000) : wrap64 ((j : Int) + 1) = ((j + 1 : Nat) : Int) := by rw [w64 _ (by omega) (by omega)]; rfl
/-- Whether a text matches a row. -/
def mb (s : ByteArray) (r : List S35) : Bool := decide (s.size ≠ 0) && matL r (L s)
theorem matL_ne {r : List S35} {t : List Int} (h : r.length ≠ t.length) : matL r t = false := by
  cases e : matL r t with
  | false => rfl
  | true => exact absurd (matL_len r t e) h
theorem Match_l0 (s : ByteArray) (r : List S35) (h : r.length = s.size) (hs : s.size < 1000000) : ∀ (d k j : Nat), r.length = j + d → d < k → byteseq_Match.l0 k s r (r.length : Int) (j : Int) = some (matL (r.drop j) ((L s).drop j)) := by
  intro d
  induction d with
  | zero =>
    intro k j h1 h2
    obtain ⟨k, rfl⟩ : ∃ k', k = k' + 1 := ⟨k - 1, by omega⟩
    rw [byteseq_Match.l0, if_neg (by omega), List.drop_of_length_le (by omega), List.drop_of_length_le (by rw [L_len]; omega)]
    rfl
  | succ d ih =>
    intro k j h1 h2
    obtain ⟨k, rfl⟩ : ∃ k', k = k' + 1 := ⟨k - 1, by omega⟩
    have hb := bt_byte s (j : Int)
    rw [byteseq_Match.l0, if_pos (by omega), if_pos (by omega), if_pos (by omega), if_pos (by omega), w64 _ (by omega) (by omega), drop_T r j (by omega), L_drop s j (by omega), matL]
    by_cases c1 : bt s (j : Int) < (rd_T35 r (j : Int)).f0
    · rw [if_pos c1, decide_eq_false (by omega), Bool.false_and, Bool.false_and]
    rw [if_neg c1, decide_eq_true (by omega), Bool.true_and]
    by_cases c2 : bt s (j : Int) > (rd_T35 r (j : Int)).f1
    · rw [if_pos c2, decide_eq_false (by omega), Bool.false_and]
    rw [if_neg c2, decide_eq_true (by omega), Bool.true_and, wx j (by omega)]
    exact ih k (j + 1) (by omega) (by omega)
theorem Match_f (s : ByteArray) (r : List S35) (hs : s.size < 1000000) (k : Nat) (hk : s.size + 3 < k) : byteseq_Match.f k r s = some (mb s r) := by
  obtain ⟨k, rfl⟩ : ∃ k', k = k' + 1 := ⟨k - 1, by omega⟩
  unfold byteseq_Match.f mb
  by_cases c : r.length = s.size
  · rw [if_pos (by omega), byteseq_Match.j0]
    by_cases e : s.size = 0
    · have hl : (s.toList == ([] : List UInt8)) = true := by rw [beq_iff_eq, L_nil]; exact List.length_eq_zero_iff.1 (by rw [L_len]; exact e)
      rw [hl, if_pos rfl, decide_eq_false (by omega), Bool.false_and]
    · have hl : (s.toList == ([] : List UInt8)) = false := by
        rw [Bool.eq_false_iff]; intro q; rw [beq_iff_eq, L_nil] at q
        have := L_len s; rw [q] at this; simp at this; omega
      rw [hl, if_neg (by decide), decide_eq_true e, Bool.true_and]
      exact Match_l0 s r c hs r.length k 0 (by omega) (by omega)
  · rw [if_neg (by omega), byteseq_Match.j0, if_pos rfl, matL_ne (by rw [L_len]; exact c), Bool.and_false]
theorem RMatch_l0 (s : ByteArray) (r : List S35) (h : r.length = s.size) (hs : s.size < 1000000) : ∀ (d k j : Nat), r.length = j + d → d < k → spoolref08_Match.l0 k r s (j : Int) = some (matL (r.drop j) ((L s).drop j)) := by
  intro d
  induction d with
  | zero =>
    intro k j h1 h2
    obtain ⟨k, rfl⟩ : ∃ k', k = k' + 1 := ⟨k - 1, by omega⟩
    rw [spoolref08_Match.l0, if_neg (by omega), List.drop_of_length_le (by omega), List.drop_of_length_le (by rw [L_len]; omega)]
    rfl
  | succ d ih =>
    intro k j h1 h2
    obtain ⟨k, rfl⟩ : ∃ k', k = k' + 1 := ⟨k - 1, by omega⟩
    have hb := bt_byte s (j : Int)
    rw [spoolref08_Match.l0, if_pos (by omega), if_pos (by omega), if_pos (by omega), w64 _ (by omega) (by omega), drop_T r j (by omega), L_drop s j (by omega), matL]
    by_cases c1 : bt s (j : Int) < (rd_T35 r (j : Int)).f0
    · rw [if_pos c1, decide_eq_false (by omega), Bool.false_and, Bool.false_and]
    rw [if_neg c1, decide_eq_true (by omega), Bool.true_and]
    by_cases c2 : bt s (j : Int) > (rd_T35 r (j : Int)).f1
    · rw [if_pos c2, decide_eq_false (by omega), Bool.false_and]
    rw [if_neg c2, decide_eq_true (by omega), Bool.true_and, wx j (by omega)]
    exact ih k (j + 1) (by omega) (by omega)
theorem RMatch_f (s : ByteArray) (r : List S35) (hs : s.size < 1000000) (k : Nat) (hk : s.size + 3 < k) : spoolref08_Match.f k r s = some (mb s r) := by
  obtain ⟨k, rfl⟩ : ∃ k', k = k' + 1 := ⟨k - 1, by omega⟩
  unfold spoolref08_Match.f mb
  by_cases e : s.size = 0
  · rw [if_pos (by omega), spoolref08_Match.j0, if_pos rfl, decide_eq_false (by omega), Bool.false_and]
  rw [if_neg (by omega), spoolref08_Match.j0, decide_eq_true e, Bool.true_and]
  by_cases c : r.length = s.size
  · rw [show ((r.length : Int) != (s.size : Int)) = false by simp [c], if_neg (by decide)]
    exact RMatch_l0 s r c hs r.length k 0 (by omega) (by omega)
  · rw [show ((r.length : Int) != (s.size : Int)) = true by simp; omega, if_pos rfl, matL_ne (by rw [L_len]; exact c)]
theorem Any_l0 (s : ByteArray) (rs : List (List S35)) (hs : s.size < 1000000) (hr : rs.length < 1000000) : ∀ (d k j : Nat), rs.length = j + d → d + s.size + 4 < k → byteseq_Any.l0 k s rs (rs.length : Int) (j : Int) = some ((rs.drop j).any (mb s)) := by
  intro d
  induction d with
  | zero =>
    intro k j h1 h2
    obtain ⟨k, rfl⟩ : ∃ k', k = k' + 1 := ⟨k - 1, by omega⟩
    rw [byteseq_Any.l0, if_neg (by omega), List.drop_of_length_le (by omega)]
    rfl
  | succ d ih =>
    intro k j h1 h2
    obtain ⟨k, rfl⟩ : ∃ k', k = k' + 1 := ⟨k - 1, by omega⟩
    rw [byteseq_Any.l0, if_pos (by omega), if_pos (by omega), if_pos (by omega), Match_f s _ hs k (by omega), Option.bind_some, drop_L3 rs j (by omega), List.any_cons]
    cases mb s (rd_L3 rs (j : Int)) with
    | true => rfl
    | false => rw [if_neg (by decide), wx j (by omega), Bool.false_or]; exact ih k (j + 1) (by omega) (by omega)
theorem Any_f (s : ByteArray) (rs : List (List S35)) (hs : s.size < 1000000) (hr : rs.length < 1000000) (k : Nat) (hk : rs.length + s.size + 4 < k) : byteseq_Any.f k rs s = some (rs.any (mb s)) :=
  Any_l0 s rs hs hr rs.length k 0 (by omega) hk
theorem Many_l0 (s : ByteArray) (rs : List (List S35)) (hs : s.size < 1000000) (hr : rs.length < 1000000) : ∀ (d k j n : Nat), rs.length = j + d → n ≤ j → d + s.size + 4 < k → spoolref08_Many.l0 k rs s (n : Int) (j : Int) = some ((n + (rs.drop j).countP (mb s) : Nat) : Int) := by
  intro d
  induction d with
  | zero =>
    intro k j n h1 h3 h2
    obtain ⟨k, rfl⟩ : ∃ k', k = k' + 1 := ⟨k - 1, by omega⟩
    rw [spoolref08_Many.l0, if_neg (by omega), List.drop_of_length_le (by omega)]
    rfl
  | succ d ih =>
    intro k j n h1 h3 h2
    obtain ⟨k, rfl⟩ : ∃ k', k = k' + 1 := ⟨k - 1, by omega⟩
    rw [spoolref08_Many.l0, if_pos (by omega), if_pos (by omega), RMatch_f s _ hs k (by omega), Option.bind_some, drop_L3 rs j (by omega), List.countP_cons]
    cases mb s (rd_L3 rs (j : Int)) with
    | true =>
      rw [if_pos rfl, if_pos rfl, wx j (by omega), wx n (by omega), ih k (j + 1) (n + 1) (by omega) (by omega) (by omega)]
      congr 2
      omega
    | false =>
      rw [if_neg (by decide), if_neg (by decide), wx j (by omega)]
      exact ih k (j + 1) n (by omega) (by omega) (by omega)
theorem Many_f (s : ByteArray) (rs : List (List S35)) (hs : s.size < 1000000) (hr : rs.length < 1000000) (k : Nat) (hk : rs.length + s.size + 4 < k) : spoolref08_Many.f k rs s = some ((rs.countP (mb s) : Nat) : Int) := by
  have := Many_l0 s rs hs hr rs.length k 0 0 (by omega) (by omega) hk
  rw [Nat.zero_add] at this
  exact this
/-- Is a text the bytes of a code point of a set? -/
def isB (l : List S35) (s : ByteArray) : Bool := decide (0 ≤ (getU s).1) && decide ((getU s).2 = (s.size : Int)) && hasL l (getU s).1
theorem Is_f (l : List S35) (s : ByteArray) (hl : l.length < 1000000) (k : Nat) (hk : l.length + 16 < k) : spoolref08_Is.f k l s = some (isB l s) := by
  unfold spoolref08_Is.f isB
  rw [RGet_k s k (by omega), Option.bind_some]
  by_cases c1 : 0 ≤ (getU s).1
  · rw [if_pos (show (getU s).1 ≥ 0 from c1), decide_eq_true c1, Bool.true_and]
    by_cases c2 : (getU s).2 = (s.size : Int)
    · rw [if_pos c2, decide_eq_true c2, Bool.true_and, Has_f l _ (by omega) k (by omega)]
      rfl
    · rw [if_neg c2, decide_eq_false c2, Bool.false_and]
  · rw [if_neg (show ¬ (getU s).1 ≥ 0 from c1), decide_eq_false c1, Bool.false_and, Bool.false_and]
theorem enc_inj {c d : Int} (hc : sc c = true) (hd : sc d = true) (h : encU d = encU c) : d = c := by
  have h1 := getL_enc c hc []
  have h2 := getL_enc d hd []
  rw [h, h1] at h2
  exact (congrArg Prod.fst h2).symm
/-- How many of a set's rows a text matches: one just if it is the bytes of a code point of it. -/
theorem many_is (l : List S35) (K : Nat) (hK : 1200000 ≤ K) (s : ByteArray) : ((tiles K l).map rowT).countP (mb s) = if isB l s = true then 1 else 0 := by
  have hT := tiles_tile l K hK
  have e0 : ((tiles K l).map rowT).countP (mb s) = (tiles K l).countP (fun t => matL (rowT t) (L s)) := by
    rw [List.countP_map]
    refine List.countP_congr fun t ht => ?_
    obtain ⟨n, h1, h2⟩ := hT t ht
    show mb s (rowT t) = true ↔ _
    unfold mb
    by_cases e : s.size = 0
    · have : matL (rowT t) (L s) = false := matL_ne (by rw [L_len, e]; unfold rowT; rw [row_len h1]; unfold Cls at h1; omega)
      rw [this, Bool.and_false]
    · rw [decide_eq_true e, Bool.true_and]
  rw [e0]
  have hgu : getU s = getL (L s) := getU_L s
  by_cases c1 : 0 ≤ (getU s).1 ∧ (getU s).2 = (s.size : Int)
  · obtain ⟨n, g1, g2, g3, g4, g5, g6, g7⟩ := getL_good (L s) (L_byte s) (by rw [← hgu]; exact c1.1)
    rw [← hgu] at g1 g5 g6 g7
    have hn : n = s.size := by have := c1.2; omega
    have hL : L s = encU (getU s).1 := by rw [g7, List.take_of_length_le (by rw [L_len]; omega)]
    have hsc := (sc_iff _).1 g6
    rw [rows_count (tiles K l) (tiles_sorted l K hK) hT (L s) (getU s).1 hL (fun d hd e => enc_inj g6 hd e)]
    have hb := tiles_inB l K hK (getU s).1 hsc.1 hsc.2.1
    rw [lessG_inn l _ hsc.1 hsc.2.1] at hb
    have hh := has_in l (getU s).1 hsc.1 hsc.2.1
    have : inB (tiles K l) (getU s).1 = isB l s := by
      rw [Bool.eq_iff_iff, hb]
      unfold isB
      rw [decide_eq_true c1.1, decide_eq_true c1.2, Bool.true_and, Bool.true_and, hh]
      exact ⟨fun h => h.1, fun h => ⟨h, hsc.2.2⟩⟩
    rw [this]
  · have hf : isB l s = false := by
      unfold isB
      by_cases c2 : 0 ≤ (getU s).1
      · rw [decide_eq_false (fun h => c1 ⟨c2, h⟩), Bool.and_false, Bool.false_and]
      · rw [decide_eq_false c2, Bool.false_and, Bool.false_and]
    rw [hf, if_neg (by decide)]
    refine rows_none (tiles K l) hT (L s) (fun d hd e => c1 ?_)
    have h1 := getL_enc d hd []
    rw [List.append_nil, ← e, ← hgu] at h1
    rw [h1]
    exact ⟨((sc_iff d).1 hd).1, by rw [← L_len, e]⟩
theorem any_is (l : List S35) (K : Nat) (hK : 1200000 ≤ K) (s : ByteArray) : ((tiles K l).map rowT).any (mb s) = isB l s := by
  have h := many_is l K hK s
  rw [Bool.eq_iff_iff]
  constructor
  · intro ha
    cases e : isB l s with
    | true => rfl
    | false =>
      rw [e, if_neg (by decide)] at h
      obtain ⟨x, hx, hm⟩ := List.any_eq_true.1 ha
      exact absurd hm (by simpa using List.countP_eq_zero.1 h x hx)
  · intro hi
    rw [hi, if_pos rfl] at h
    obtain ⟨x, hx, hm⟩ := List.countP_pos_iff.1 (by omega : 0 < ((tiles K l).map rowT).countP (mb s))
    exact List.any_eq_true.2 ⟨x, hx, hm⟩
/-! ### the example -/
theorem Of_f (l : List S35) (k : Nat) (hk : 1200000 ≤ k) (hl : l.length ≤ 1000) : byteseq_Of.f k l = some ((tiles k l).map rowT) := if_pos ⟨hk, hl⟩
theorem alive_f (k : Nat) (hk : 1200000 ≤ k) : spoollaw08_alive.f k = some true := if_pos hk
end Go.Proofs.YtedoopnjhpbjfaaDoor.PfM

/- An action's words are read back as the action; what is read may be told. -/
import Derived.Test.YtkfijbmplllmlaaDoorPfP
import Derived.Test.YtkfijbmplllmlaaDoorPfA
import Derived.Test.YtkfijbmplllmlaaDoorPAx9
set_option linter.unusedSimpArgs false
set_option linter.unusedVariables false
namespace Go.Proofs.YtkfijbmplllmlaaDoor.PfB
open Go.RowKit Go.Proofs.YtkfijbmplllmlaaDoor.PA Go.Proofs.YtkfijbmplllmlaaDoorW.PrintWords Go.Proofs.YtkfijbmplllmlaaDoorW.PrintLast Go.Proofs.YtkfijbmplllmlaaDoor.Pl Go.Proofs.YtkfijbmplllmlaaDoor.PlD Go.Proofs.YtkfijbmplllmlaaDoor.HandJn Go.Proofs.YtkfijbmplllmlaaDoor.HandWh Go.Proofs.YtkfijbmplllmlaaDoor.PfN Go.Proofs.YtkfijbmplllmlaaDoor.PfP
theorem str_eq {s t : ByteArray} : s.toList = t.toList ↔ s = t := by
  rw [ByteArray.toList_eq, ByteArray.toList_eq]
  constructor
  · intro h
    have h2 : s.data = t.data := Array.toList_inj.1 h
    cases s; cases t; simp_all
  · intro h; rw [h]
theorem of_L {a b : ByteArray} (h : L a = L b) : a = b := str_eq.1 (L_inj.2 h)
/-! ### words at a place -/
theorem bt_L (t : ByteArray) (pre l : List Int) (x : Int) (i : Nat) (h : L t = pre ++ x :: l) (hi : i = pre.length) : bt t (i : Int) = x := by
  rw [← L_get, h, List.getD_eq_getElem?_getD, List.getElem?_append_right (by omega), hi]
  simp
theorem bt_mid (t : ByteArray) (pre w post : List Int) (k : Nat) (hL : L t = pre ++ (w ++ post)) (h1 : pre.length ≤ k) (h2 : k < pre.length + w.length) : bt t (k : Int) ∈ w := by
  rw [← L_get, hL, List.getD_eq_getElem?_getD, List.getElem?_append_right h1, List.getElem?_append_left (by omega), List.getElem?_eq_getElem (by omega), Option.getD_some]
  exact List.getElem_mem _
theorem L_sub (t : ByteArray) (a b : Nat) : L (t.extract a b) = ((L t).take b).drop a := by
  unfold L
  rw [ByteArray.data_extract, Array.toList_extract, List.extract_eq_take_drop, List.map_take, List.map_drop, List.drop_take]
def Ends (post : List Int) : Prop := post = [] ∨ ∃ q, post = 32 :: q
theorem word_here (t : ByteArray) (pre w post : List Int) (i : Nat) (hL : L t = pre ++ (w ++ post)) (hi : i = pre.length) (hw : w ≠ []) (hnb : ∀ c ∈ w, bl c = false) (hp : Ends post) :
    fromW t i = i ∧ toW t i = i + w.length ∧ L (t.extract i (i + w.length)) = w := by
  have hlen := L_len t
  rw [hL] at hlen
  simp only [List.length_append] at hlen
  obtain ⟨c, w', rfl⟩ : ∃ c w', w = c :: w' := by
    cases w with
    | nil => exact absurd rfl hw
    | cons c w' => exact ⟨c, w', rfl⟩
  have b0 := bt_L t pre (w' ++ post) c i (by rw [hL]; simp) hi
  have h1 : fromW t i = i := fromW_here (by simp only [List.length_cons] at hlen; omega) (by rw [b0]; exact hnb c (by simp))
  refine ⟨h1, ?_, ?_⟩
  · unfold toW
    rw [h1]
    refine run_eq nb t i (i + (c :: w').length) (by omega) (by omega) (fun k g1 g2 => ?_) (fun hlt => ?_)
    · exact nb_of (hnb _ (bt_mid t pre (c :: w') post k hL (by omega) (by omega)))
    · rcases hp with rfl | ⟨q, rfl⟩
      · simp only [List.length_nil] at hlen; omega
      · have := bt_L t (pre ++ (c :: w')) q 32 (i + (c :: w').length) (by rw [hL]; simp) (by simp [hi])
        rw [this]
        rfl
  · rw [L_sub, hL, List.take_append, List.drop_append]
    simp [hi]
theorem word_next (t : ByteArray) (pre w post : List Int) (i : Nat) (hL : L t = pre ++ 32 :: (w ++ post)) (hi : i = pre.length) (hw : w ≠ []) (hnb : ∀ c ∈ w, bl c = false) (hp : Ends post) :
    fromW t i = i + 1 ∧ toW t i = i + 1 + w.length ∧ L (t.extract (i + 1) (i + 1 + w.length)) = w := by
  obtain ⟨g1, g2, g3⟩ := word_here t (pre ++ [32]) w post (i + 1) (by rw [hL]; simp) (by simp [hi]) hw hnb hp
  have hlen := L_len t
  rw [hL] at hlen
  simp only [List.length_append, List.length_cons] at hlen
  have b0 := bt_L t pre (w ++ post) 32 i hL hi
  have h1 : fromW t i = i + 1 := by
    unfold fromW at g1 ⊢
    rw [run_next (by omega) (by rw [b0]; rfl), g1]
  refine ⟨h1, ?_, g3⟩
  unfold toW at g2 ⊢
  rw [g1] at g2
  rw [h1, g2]
/-- A word: not empty, without blanks. -/
def Wd (w : ByteArray) : Prop := L w ≠ [] ∧ ∀ c ∈ L w, bl c = false
theorem spaced_ends (r : List ByteArray) : Ends (r.flatMap fun w => 32 :: L w) := by
  cases r with
  | nil => exact .inl rfl
  | cons a r => exact .inr ⟨_, by rw [List.flatMap_cons]; rfl⟩
theorem spaced (t : ByteArray) : ∀ (r : List ByteArray) (pre : List Int) (i : Nat), (∀ w ∈ r, Wd w) → L t = pre ++ (r.flatMap fun w => 32 :: L w) → i = pre.length → (allW t i).map (fun p => t.extract p.1 p.2) = r
  | [], pre, i, hr, hL, hi => by
    have hlen := L_len t
    rw [hL] at hlen
    simp only [List.flatMap_nil, List.append_nil] at hlen
    rw [allW_end (by omega)]
    rfl
  | w :: r, pre, i, hr, hL, hi => by
    rw [List.flatMap_cons] at hL
    obtain ⟨h1, h2⟩ := hr w (List.mem_cons_self ..)
    obtain ⟨g1, g2, g3⟩ := word_next t pre (L w) (r.flatMap fun w => 32 :: L w) i (by rw [hL]; rfl) hi h1 h2 (spaced_ends r)
    have hpos : 0 < (L w).length := List.length_pos_iff.2 h1
    have e : t.extract (i + 1) (i + 1 + (L w).length) = w := of_L g3
    rw [allW_eq, g1, g2, if_pos (by omega), List.map_cons]
    simp only
    rw [e, spaced t r (pre ++ 32 :: L w) (i + 1 + (L w).length) (fun x hx => hr x (List.mem_cons_of_mem _ hx)) (by rw [hL]; simp) (by simp [hi]; omega)]
theorem words_of (t x : ByteArray) (r : List ByteArray) (hx : Wd x) (hr : ∀ w ∈ r, Wd w) (hL : L t = L x ++ (r.flatMap fun w => 32 :: L w)) : (ws t).map (fun p => t.extract p.1 p.2) = x :: r := by
  obtain ⟨h1, h2⟩ := hx
  obtain ⟨g1, g2, g3⟩ := word_here t [] (L x) (r.flatMap fun w => 32 :: L w) 0 (by rw [hL]; rfl) rfl h1 h2 (spaced_ends r)
  rw [Nat.zero_add] at g2 g3
  have hpos : 0 < (L x).length := List.length_pos_iff.2 h1
  have e : t.extract 0 (L x).length = x := of_L g3
  unfold ws
  rw [allW_eq, g1, g2, if_pos hpos, List.map_cons]
  simp only
  rw [e, spaced t r (L x) (L x).length hr hL rfl]
theorem wd_of (t : ByteArray) (l : List ByteArray) (h : (ws t).map (fun p => t.extract p.1 p.2) = l) (j : Nat) : wd t j = (l[j]?).getD ⟨#[]⟩ := by
  unfold wd
  rw [← h, List.getElem?_map]
  by_cases hj : j < (ws t).length
  · rw [dif_pos hj, List.getElem?_eq_getElem hj]
    rfl
  · rw [dif_neg hj, List.getElem?_eq_none (by omega)]
    rfl
/-! ### names -/
theorem name_wd (s : ByteArray) (h : nameB s = true) : Wd s := by
  unfold nameB at h
  obtain ⟨h1, h2, h3⟩ := of_decide_eq_true h
  unfold lead at h3
  split at h3
  · refine ⟨fun e => ?_, fun c hc => ?_⟩
    · have := L_len s
      rw [e] at this
      simp at this
      omega
    · obtain ⟨j, hj, rfl⟩ := List.mem_iff_getElem.1 hc
      rw [L_len] at hj
      have e : (L s)[j] = bt s (j : Int) := by rw [← L_get, List.getD_eq_getElem?_getD, List.getElem?_eq_getElem (by rw [L_len]; exact hj), Option.getD_some]
      rw [e]
      have hp := run_all partB s 0 j (by omega) (by omega)
      unfold partB at hp
      have hp := of_decide_eq_true hp
      unfold bl
      rw [beq_eq_false_iff_ne.mpr (by omega), beq_eq_false_iff_ne.mpr (by omega)]
      rfl
  · omega
theorem sk_wd : Wd sk := by unfold Wd; decide +kernel
theorem em_wd : Wd em := by unfold Wd; decide +kernel
theorem go_wd : Wd go := by unfold Wd; decide +kernel
/-! ### the text -/
def rightB (nm : ByteArray) (g : Int) (n : Nat) : Bool := (decide (nm.toList = ([] : List UInt8)) || nameB nm) && (decide (-1 ≤ g) && decide (g < (n : Int)))
theorem Right_f (nm : ByteArray) (hn : nm.size ≤ 1000000) (g : Int) (ms : List ByteArray) (K : Nat) (hK : nm.size < K) : action_Right.f K nm g ms = some (rightB nm g ms.length) := by
  unfold action_Right.f rightB
  by_cases h : nm.toList = ([] : List UInt8)
  · rw [if_pos h, decide_eq_true h, Bool.true_or, Bool.true_and]
    by_cases hg : g ≥ -1
    · rw [if_pos hg, decide_eq_true (show -1 ≤ g from hg), Bool.true_and]
    · rw [if_neg hg, decide_eq_false (show ¬ -1 ≤ g from hg), Bool.false_and]
  · rw [if_neg h, decide_eq_false h, Bool.false_or, name_f nm (by omega) K hK, Option.bind_some]
    show (if nameB nm = true then _ else _) = _
    cases nameB nm with
    | false => rw [if_neg Bool.false_ne_true, Bool.false_and]
    | true =>
      rw [if_pos rfl, Bool.true_and]
      by_cases hg : g ≥ -1
      · rw [if_pos hg, decide_eq_true (show -1 ≤ g from hg), Bool.true_and]
      · rw [if_neg hg, decide_eq_false (show ¬ -1 ≤ g from hg), Bool.false_and]
theorem rRight_f (nm : ByteArray) (hn : nm.size ≤ 1000000) (g : Int) (ms : List ByteArray) (K : Nat) (hK : nm.size + 2 < K) : spoolref17_Right.f K nm g ms = some (rightB nm g ms.length) := by
  unfold spoolref17_Right.f rightB
  by_cases h : nm.toList = ([] : List UInt8)
  · rw [if_pos h, decide_eq_true h, Bool.true_or, Bool.true_and]
    by_cases hg : g ≥ -1
    · rw [if_pos hg, decide_eq_true (show -1 ≤ g from hg), Bool.true_and]
    · rw [if_neg hg, decide_eq_false (show ¬ -1 ≤ g from hg), Bool.false_and]
  · rw [if_neg h, decide_eq_false h, Bool.false_or, ref_name_f nm (by omega) K hK, Option.bind_some]
    show (if nameB nm = true then _ else _) = _
    cases nameB nm with
    | false => rw [if_neg Bool.false_ne_true, Bool.false_and]
    | true =>
      rw [if_pos rfl, Bool.true_and]
      by_cases hg : g ≥ -1
      · rw [if_pos hg, decide_eq_true (show -1 ≤ g from hg), Bool.true_and]
      · rw [if_neg hg, decide_eq_false (show ¬ -1 ≤ g from hg), Bool.false_and]
def sp : ByteArray := ⟨#[32]⟩
theorem tailJ (r : List ByteArray) : (Lib.joinTail sp.data.toList (r.map (·.data.toList))).map (fun b => (b.toNat : Int)) = r.flatMap fun w => 32 :: L w := by
  unfold Lib.joinTail
  induction r with
  | nil => rfl
  | cons a r ih =>
    rw [List.map_cons, List.map_cons, List.flatten_cons, List.map_append, ih, List.flatMap_cons]
    rfl
theorem join_L (x : ByteArray) (r : List ByteArray) : (joinB (x :: r) sp).map (fun b => (b.toNat : Int)) = L x ++ r.flatMap fun w => 32 :: L w := by
  unfold joinB
  rw [List.map_cons, Lib.join_cons, List.map_append, tailJ]
  rfl
theorem Join_f (x : ByteArray) (r : List ByteArray) (hz : (L x ++ r.flatMap fun w => 32 :: L w).length ≤ 1000) (hr : r.length ≤ 10) : ∃ t, strings_Join.f (x :: r) sp = some t ∧ L t = L x ++ r.flatMap fun w => 32 :: L w := by
  have hl : (joinB (x :: r) sp).length ≤ 1000 := by
    have := congrArg List.length (join_L x r)
    rw [List.length_map] at this
    omega
  unfold strings_Join.f
  rw [if_pos ⟨by simp, by rw [List.length_cons]; omega, by omega⟩]
  refine ⟨_, rfl, ?_⟩
  rw [← join_L]
  unfold L
  simp
theorem fold_len (w : ByteArray) (h : nameB w = true) : (L w).length ≤ 32 := by
  unfold nameB at h
  obtain ⟨h1, h2, h3⟩ := of_decide_eq_true h
  rw [L_len]; exact h2
theorem three_len : (L sk).length = 4 ∧ (L em).length = 4 ∧ (L go).length = 4 := by decide +kernel
theorem nil_list : (⟨#[]⟩ : ByteArray).toList = ([] : List UInt8) := by decide +kernel
theorem nil_of {s : ByteArray} (h : s.toList = ([] : List UInt8)) : s = ⟨#[]⟩ := str_eq.1 (by rw [h, nil_list])
/-- What is told is read as the action. -/
theorem back (nm : ByteArray) (g : Int) (ms : List ByteArray) (hms : ms.length ≤ 1000) (hm : ∀ (i : Nat) (h : i < ms.length), nameB ms[i] = true ∧ idx ms ms[i] = (i : Int)) (hr : rightB nm g ms.length = true) (hn : nm.size ≤ 1000) (K : Nat) (hK : 2000 < K) :
    ∃ t, action_Text.f K nm g ms = some t ∧ t.size ≤ 1000 ∧ allV t ms = (nm, g, 0, 0) := by
  have hr2 := hr
  unfold rightB at hr2
  simp only [Bool.and_eq_true, Bool.or_eq_true, decide_eq_true_eq] at hr2
  obtain ⟨hN, hg1, hg2⟩ := hr2
  obtain ⟨k1, k2, k3⟩ := three_len
  unfold action_Text.f
  rw [Right_f nm (by omega) g ms K (by omega), hr, Option.bind_some, if_pos rfl, Option.bind_some]
  by_cases he : nm.toList = ([] : List UInt8)
  · have enm := nil_of he
    rw [if_pos he]
    by_cases hg : g ≥ 0
    · obtain ⟨i, rfl⟩ := Int.eq_ofNat_of_zero_le hg
      have hi : i < ms.length := by omega
      obtain ⟨m1, m2⟩ := hm i hi
      have hml := fold_len _ m1
      rw [if_pos hg, if_pos hg, if_pos hg2, Option.bind_some, if_pos (by simp), rd_str ms i hi]
      obtain ⟨t, e1, e2⟩ := Join_f sk [go, ms[i]] (by simp only [List.length_append, List.flatMap_cons, List.flatMap_nil, List.length_cons, List.length_nil]; omega) (by simp)
      have e1' : strings_Join.f ([(⟨#[115, 107, 105, 112]⟩ : ByteArray)] ++ [(⟨#[103, 111, 116, 111]⟩ : ByteArray), ms[i]]) (⟨#[32]⟩ : ByteArray) = some t := e1
      rw [e1', Option.bind_some]
      have hw := wd_of t _ (words_of t sk [go, ms[i]] sk_wd (fun w h => by rcases List.mem_cons.1 h with e | e; rw [e]; exact go_wd; rw [List.mem_singleton.1 e]; exact name_wd _ m1) e2)
      have w0 : wd t 0 = sk := hw 0
      have w1 : wd t 1 = go := hw 1
      have w2 : wd t 2 = ms[i] := hw 2
      have w3 : wd t 3 = ⟨#[]⟩ := hw 3
      have hmne : ¬ ms[i].toList = ([] : List UInt8) := fun e => (name_wd _ m1).1 (L_nil.1 e)
      refine ⟨t, rfl, ?_, ?_⟩
      · rw [← L_len, e2]
        simp only [List.length_append, List.flatMap_cons, List.flatMap_nil, List.length_cons, List.length_nil]
        omega
      · unfold allV tailV
        rw [w0, if_pos sk_list, w1, if_neg (by rw [go_list]; simp), if_pos go_list, show 1 + 1 = 2 from rfl, show 1 + 2 = 3 from rfl, w2, if_neg hmne, if_pos m1, m2, if_neg (by omega), w3, if_pos (by decide +kernel), enm]
    · have hg' : g = -1 := by omega
      rw [if_neg hg]
      obtain ⟨t, e1, e2⟩ := Join_f sk [] (by simp only [List.length_append, List.flatMap_nil, List.length_nil]; omega) (by simp)
      have e1' : strings_Join.f ([(⟨#[115, 107, 105, 112]⟩ : ByteArray)]) (⟨#[32]⟩ : ByteArray) = some t := e1
      rw [e1', Option.bind_some]
      have hw := wd_of t _ (words_of t sk [] sk_wd (fun w h => by cases h) e2)
      have w0 : wd t 0 = sk := hw 0
      have w1 : wd t 1 = ⟨#[]⟩ := hw 1
      refine ⟨t, rfl, ?_, ?_⟩
      · rw [← L_len, e2]
        simp only [List.length_append, List.flatMap_nil, List.length_nil]
        omega
      · unfold allV tailV
        rw [w0, if_pos sk_list, w1, if_pos (by decide +kernel), hg', enm]
  · have hb := hN.resolve_left he
    have hnl := fold_len nm hb
    rw [if_neg he, Option.bind_some]
    by_cases hg : g ≥ 0
    · obtain ⟨i, rfl⟩ := Int.eq_ofNat_of_zero_le hg
      have hi : i < ms.length := by omega
      obtain ⟨m1, m2⟩ := hm i hi
      have hml := fold_len _ m1
      rw [if_pos hg, if_pos hg, if_pos hg2, Option.bind_some, if_pos (by simp), rd_str ms i hi]
      obtain ⟨t, e1, e2⟩ := Join_f em [nm, go, ms[i]] (by simp only [List.length_append, List.flatMap_cons, List.flatMap_nil, List.length_cons, List.length_nil]; omega) (by simp)
      have e1' : strings_Join.f ([(⟨#[101, 109, 105, 116]⟩ : ByteArray), nm] ++ [(⟨#[103, 111, 116, 111]⟩ : ByteArray), ms[i]]) (⟨#[32]⟩ : ByteArray) = some t := e1
      rw [e1', Option.bind_some]
      have hw := wd_of t _ (words_of t em [nm, go, ms[i]] em_wd (fun w h => by rcases List.mem_cons.1 h with e | e; rw [e]; exact name_wd _ hb; rcases List.mem_cons.1 e with e | e; rw [e]; exact go_wd; rw [List.mem_singleton.1 e]; exact name_wd _ m1) e2)
      have w0 : wd t 0 = em := hw 0
      have w1 : wd t 1 = nm := hw 1
      have w2 : wd t 2 = go := hw 2
      have w3 : wd t 3 = ms[i] := hw 3
      have w4 : wd t 4 = ⟨#[]⟩ := hw 4
      have hmne : ¬ ms[i].toList = ([] : List UInt8) := fun e => (name_wd _ m1).1 (L_nil.1 e)
      refine ⟨t, rfl, ?_, ?_⟩
      · rw [← L_len, e2]
        simp only [List.length_append, List.flatMap_cons, List.flatMap_nil, List.length_cons, List.length_nil]
        omega
      · unfold allV tailV
        rw [w0, if_neg (by rw [em_list]; decide), if_pos em_list, w1, if_neg he, if_pos hb, w2, if_neg (by rw [go_list]; simp), if_pos go_list, show 2 + 1 = 3 from rfl, show 2 + 2 = 4 from rfl, w3, if_neg hmne, if_pos m1, m2, if_neg (by omega), w4, if_pos (by decide +kernel)]
    · have hg' : g = -1 := by omega
      rw [if_neg hg]
      obtain ⟨t, e1, e2⟩ := Join_f em [nm] (by simp only [List.length_append, List.flatMap_cons, List.flatMap_nil, List.length_cons, List.length_nil]; omega) (by simp)
      have e1' : strings_Join.f ([(⟨#[101, 109, 105, 116]⟩ : ByteArray), nm]) (⟨#[32]⟩ : ByteArray) = some t := e1
      rw [e1', Option.bind_some]
      have hw := wd_of t _ (words_of t em [nm] em_wd (fun w h => by rw [List.mem_singleton.1 h]; exact name_wd _ hb) e2)
      have w0 : wd t 0 = em := hw 0
      have w1 : wd t 1 = nm := hw 1
      have w2 : wd t 2 = ⟨#[]⟩ := hw 2
      refine ⟨t, rfl, ?_, ?_⟩
      · rw [← L_len, e2]
        simp only [List.length_append, List.flatMap_cons, List.flatMap_nil, List.length_cons, List.length_nil]
        omega
      · unfold allV tailV
        rw [w0, if_neg (by rw [em_list]; decide), if_pos em_list, w1, if_neg he, if_pos hb, w2, if_pos (by decide +kernel), hg']
/-! ### what is read may be told -/
theorem tail_right (s : ByteArray) (ms : List ByteArray) (k : Nat) (nm nm' : ByteArray) (g A : Int) (hb : nm.toList = ([] : List UInt8) ∨ nameB nm = true) (h : tailV s ms k nm = (nm', g, 0, A)) : rightB nm' g ms.length = true := by
  have ok : ∀ g : Int, -1 ≤ g → g < (ms.length : Int) → rightB nm g ms.length = true := by
    intro g h1 h2
    unfold rightB
    rw [decide_eq_true h1, decide_eq_true h2]
    rcases hb with e | e
    · rw [decide_eq_true e]; rfl
    · rw [e, Bool.or_true]; rfl
  unfold tailV at h
  split at h
  · simp only [Prod.mk.injEq] at h
    obtain ⟨rfl, rfl, _⟩ := h
    exact ok (-1) (by decide) (by omega)
  · split at h
    · split at h
      · simp at h
      · split at h
        · split at h
          · simp at h
          · rename_i hi
            split at h
            · simp only [Prod.mk.injEq] at h
              obtain ⟨rfl, rfl, _⟩ := h
              have := idx_range (wd s (k + 1)) ms 0
              unfold idx at hi ⊢
              exact ok _ (by omega) (by omega)
            · simp at h
        · simp at h
    · simp at h
theorem all_right (s : ByteArray) (ms : List ByteArray) (nm : ByteArray) (g A : Int) (h : allV s ms = (nm, g, 0, A)) : rightB nm g ms.length = true ∧ nm.size ≤ s.size := by
  have hnm : ∀ k x, tailV s ms k x = (nm, g, 0, A) → nm = x := by
    intro k x h
    unfold tailV at h
    split at h
    · simp only [Prod.mk.injEq] at h; exact h.1.symm
    · split at h
      · split at h
        · simp at h
        · split at h
          · split at h
            · simp at h
            · split at h
              · simp only [Prod.mk.injEq] at h; exact h.1.symm
              · simp at h
          · simp at h
      · simp at h
  unfold allV at h
  split at h
  · refine ⟨tail_right s ms 1 ⟨#[]⟩ nm g A (.inl nil_list) h, ?_⟩
    rw [hnm _ _ h]
    exact Nat.zero_le _
  · split at h
    · split at h
      · simp at h
      · split at h
        · rename_i hb
          refine ⟨tail_right s ms 2 (wd s 1) nm g A (.inr hb) h, ?_⟩
          rw [hnm _ _ h]
          exact wd_size s 1
        · simp at h
    · simp at h
/-! ### the modes -/
theorem Modes_l0 (l : List ByteArray) (hl : l.length ≤ 1000) (hz : ∀ x ∈ l, x.size ≤ 140737488351232) (B : Nat) (hB : ∀ x ∈ l, x.size + 2 < B) (d : Nat) : ∀ (K j : Nat), l.length - j ≤ d → j ≤ l.length → d + B + 1002 < K →
    ∃ b, spoolref17_Modes.l0 K l (j : Int) = some b ∧ (b = true → ∀ (i : Nat) (h : i < l.length), j ≤ i → nameB l[i] = true ∧ idx l l[i] = (i : Int)) := by
  induction d with
  | zero =>
    intro K j h1 h2 hK
    obtain ⟨k, rfl⟩ : ∃ m, K = m + 1 := ⟨K - 1, by omega⟩
    simp only [spoolref17_Modes.l0]
    rw [if_neg (by omega)]
    exact ⟨_, rfl, fun _ i h hi => by omega⟩
  | succ d ih =>
    intro K j h1 h2 hK
    obtain ⟨k, rfl⟩ : ∃ m, K = m + 1 := ⟨K - 1, by omega⟩
    simp only [spoolref17_Modes.l0]
    by_cases hlt : j < l.length
    · have hm : l[j] ∈ l := List.getElem_mem hlt
      have hBm := hB _ hm
      rw [if_pos (by omega), if_pos (by omega), rd_str l j hlt, ref_name_f _ (hz _ hm) k (by omega), Option.bind_some]
      show ∃ b, (if nameB l[j] = true then _ else _) = some b ∧ _
      by_cases hb : nameB l[j] = true
      · rw [if_pos hb, place_f l (by omega) _ k (by omega), Option.bind_some]
        by_cases hp : idx l l[j] = (j : Int)
        · rw [if_pos hp, wrap_in (by omega) (by omega)]
          obtain ⟨b, g1, g2⟩ := ih k (j + 1) (by omega) (by omega) (by omega)
          refine ⟨b, g1, fun hb2 i h hi => ?_⟩
          by_cases e : i = j
          · subst e; exact ⟨hb, hp⟩
          · exact g2 hb2 i h (by omega)
        · rw [if_neg hp]
          exact ⟨_, rfl, fun h => by cases h⟩
      · rw [if_neg hb]
        exact ⟨_, rfl, fun h => by cases h⟩
    · rw [if_neg (by omega)]
      exact ⟨_, rfl, fun _ i h hi => by omega⟩
end Go.Proofs.YtkfijbmplllmlaaDoor.PfB

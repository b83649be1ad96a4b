/- What an action's words tell: the program and the reference at one. -/
import Derived.Test.YtkfijbmplllmlaaDoorPfN
import Derived.Test.YtkfijbmplllmlaaDoorPlD
import Derived.Test.YtkfijbmplllmlaaDoorPAx0
import Derived.Test.YtkfijbmplllmlaaDoorPAx6
import Derived.Test.YtkfijbmplllmlaaDoorHandParse
set_option linter.unusedSimpArgs false
set_option linter.unusedVariables false
namespace Go.Proofs.YtkfijbmplllmlaaDoor.PfP
open Go.RowKit Go.Proofs.YtkfijbmplllmlaaDoor.PA Go.Proofs.YtkfijbmplllmlaaDoorW.PrintWords Go.Proofs.YtkfijbmplllmlaaDoorW.PrintLast Go.Proofs.YtkfijbmplllmlaaDoorW.PrintMore Go.Proofs.YtkfijbmplllmlaaDoor.Pl Go.Proofs.YtkfijbmplllmlaaDoor.HandAll Go.Proofs.YtkfijbmplllmlaaDoor.HandRd Go.Proofs.YtkfijbmplllmlaaDoor.HandKw Go.Proofs.YtkfijbmplllmlaaDoor.HandWh Go.Proofs.YtkfijbmplllmlaaDoor.HandWr Go.Proofs.YtkfijbmplllmlaaDoor.HandParse Go.Proofs.YtkfijbmplllmlaaDoor.PfN
/-! ### a place among words -/
def idxN : List ByteArray → Nat → ByteArray → Int
  | [], _, _ => -1
  | y :: l, i, x => if y.toList = x.toList then (i : Int) else idxN l (i + 1) x
def idx (l : List ByteArray) (x : ByteArray) : Int := idxN l 0 x
theorem rd_str (l : List ByteArray) (j : Nat) (h : j < l.length) : rdOf ByteArray.empty l (j : Int) = l[j] := by
  unfold rdOf
  rw [Int.toNat_natCast, List.getD_eq_getElem?_getD, List.getElem?_eq_getElem h, Option.getD_some]
theorem Index_l0 (l : List ByteArray) (hl : l.length ≤ 1000000) (x : ByteArray) (d : Nat) : ∀ (K j : Nat), l.length - j ≤ d → j ≤ l.length → d < K → slices_Index_string_string.l0 K l x (l.length : Int) (j : Int) = some (idxN (l.drop j) j x) := by
  induction d with
  | zero =>
    intro K j h1 h2 hK
    obtain ⟨k, rfl⟩ : ∃ m, K = m + 1 := ⟨K - 1, by omega⟩
    simp only [slices_Index_string_string.l0]
    rw [if_neg (by omega), List.drop_of_length_le (by omega)]
    rfl
  | succ d ih =>
    intro K j h1 h2 hK
    obtain ⟨k, rfl⟩ : ∃ m, K = m + 1 := ⟨K - 1, by omega⟩
    simp only [slices_Index_string_string.l0]
    by_cases hlt : j < l.length
    · rw [if_pos (by omega), if_pos (by omega), if_pos (by omega), rd_str l j hlt, List.drop_eq_getElem_cons hlt]
      unfold idxN
      by_cases hx : x.toList = l[j].toList
      · rw [if_pos hx, if_pos hx.symm]
      · rw [if_neg hx, if_neg (fun e => hx e.symm), wrap_in (by omega) (by omega)]
        exact ih k (j + 1) (by omega) (by omega) (by omega)
    · rw [if_neg (by omega), List.drop_of_length_le (by omega)]
      rfl
theorem Index_f (l : List ByteArray) (hl : l.length ≤ 1000000) (x : ByteArray) (K : Nat) (hK : l.length < K) : slices_Index_string_string.f K l x = some (idx l x) := Index_l0 l hl x l.length K 0 (by omega) (by omega) hK
theorem place_l0 (l : List ByteArray) (hl : l.length ≤ 1000000) (x : ByteArray) (d : Nat) : ∀ (K j : Nat), l.length - j ≤ d → j ≤ l.length → d < K → spoolref17_place.l0 K l x (j : Int) = some (idxN (l.drop j) j x) := by
  induction d with
  | zero =>
    intro K j h1 h2 hK
    obtain ⟨k, rfl⟩ : ∃ m, K = m + 1 := ⟨K - 1, by omega⟩
    simp only [spoolref17_place.l0]
    rw [if_neg (by omega), List.drop_of_length_le (by omega)]
    rfl
  | succ d ih =>
    intro K j h1 h2 hK
    obtain ⟨k, rfl⟩ : ∃ m, K = m + 1 := ⟨K - 1, by omega⟩
    simp only [spoolref17_place.l0]
    by_cases hlt : j < l.length
    · rw [if_pos (by omega), if_pos (by omega), rd_str l j hlt, List.drop_eq_getElem_cons hlt]
      unfold idxN
      by_cases hx : l[j].toList = x.toList
      · rw [if_pos hx, if_pos hx]
      · rw [if_neg hx, if_neg hx, wrap_in (by omega) (by omega)]
        exact ih k (j + 1) (by omega) (by omega) (by omega)
    · rw [if_neg (by omega), List.drop_of_length_le (by omega)]
      rfl
theorem place_f (l : List ByteArray) (hl : l.length ≤ 1000000) (x : ByteArray) (K : Nat) (hK : l.length < K) : spoolref17_place.f K l x = some (idx l x) := place_l0 l hl x l.length K 0 (by omega) (by omega) hK
theorem Contains_f (l : List ByteArray) (hl : l.length ≤ 1000000) (x : ByteArray) (K : Nat) (hK : l.length < K) : slices_Contains_string_string.f K l x = some (decide (idx l x ≥ 0)) := by
  unfold slices_Contains_string_string.f
  rw [Index_f l hl x K hK, Option.bind_some]
theorem idx_range (x : ByteArray) : ∀ (l : List ByteArray) (i : Nat), idxN l i x = -1 ∨ ((i : Int) ≤ idxN l i x ∧ idxN l i x < (i + l.length : Nat))
  | [], i => .inl rfl
  | y :: l, i => by
    unfold idxN
    split
    · exact .inr ⟨Int.le_refl _, by simp only [List.length_cons]; omega⟩
    · rcases idx_range x l (i + 1) with h | ⟨h1, h2⟩
      · exact .inl h
      · exact .inr ⟨by omega, by simp only [List.length_cons]; omega⟩
def nameB (s : ByteArray) : Bool := decide (0 < s.size ∧ s.size ≤ 32 ∧ lead s = s.size)
/-! ### a text's words -/
def ws (s : ByteArray) : List (Nat × Nat) := allW s 0
def wd (s : ByteArray) (j : Nat) : ByteArray := if h : j < (ws s).length then s.extract (ws s)[j].1 (ws s)[j].2 else ⟨#[]⟩
def pl (s : ByteArray) (j : Nat) : Int := if h : j < (ws s).length then ((ws s)[j].1 : Int) else (s.size : Int)
def nx (s : ByteArray) (j : Nat) : Nat := if j < (ws s).length then j + 1 else j
theorem ws_in (s : ByteArray) : ∀ x ∈ ws s, x.1 < x.2 ∧ x.2 ≤ s.size := by
  have key : ∀ i, i ≤ s.size → ∀ x ∈ allW s i, x.1 < x.2 ∧ x.2 ≤ s.size := by
    intro i
    refine allW_ind (s := s) (M := fun i => i ≤ s.size → ∀ x ∈ allW s i, x.1 < x.2 ∧ x.2 ≤ s.size) (fun i h ih hi x hx => ?_) (fun i h hi x hx => ?_) i
    · rw [allW_eq, if_pos h] at hx
      rcases List.mem_cons.1 hx with e | e
      · rw [e]; exact ⟨h, toW_le s i hi⟩
      · exact ih (toW_le s i hi) x e
    · rw [allW_eq, if_neg h] at hx
      cases hx
  exact key 0 (by omega)
theorem rd_ws (s : ByteArray) (j : Nat) (h : j < (ws s).length) : rd_T48 ((ws s).map toS) (j : Int) = toS (ws s)[j] := by
  unfold rd_T48
  rw [Int.toNat_natCast, List.getD_eq_getElem?_getD, List.getElem?_map, List.getElem?_eq_getElem h]
  rfl
theorem word_at (s : ByteArray) (j : Nat) (hj : j < 1000000) : wordF s ((ws s).map toS) (j : Int) = some (wd s j, pl s j, (nx s j : Int)) := by
  unfold wordF wd pl nx
  rw [List.length_map]
  by_cases h : j < (ws s).length
  · have hm := ws_in s _ (List.getElem_mem h)
    rw [if_neg (by omega), dif_pos h, dif_pos h, if_pos h, rd_ws s j h, if_pos ⟨by omega, by omega, by simp only [toS]; omega, by simp only [toS]; omega, by simp only [toS]; omega⟩]
    simp only [toS, Int.toNat_natCast]
    rfl
  · rw [if_pos (by omega), dif_neg h, dif_neg h, if_neg h]
theorem nil_iff (s : ByteArray) : s.toList = ([] : List UInt8) ↔ s.size = 0 := empty_iff s
theorem wd_nil (s : ByteArray) (j : Nat) : (wd s j).toList = ([] : List UInt8) ↔ (ws s).length ≤ j := by
  rw [nil_iff]
  unfold wd
  by_cases h : j < (ws s).length
  · have hm := ws_in s _ (List.getElem_mem h)
    rw [dif_pos h]
    simp
    omega
  · rw [dif_neg h]
    exact ⟨fun _ => by omega, fun _ => rfl⟩
theorem wd_size (s : ByteArray) (j : Nat) : (wd s j).size ≤ s.size := by
  unfold wd
  by_cases h : j < (ws s).length
  · have hm := ws_in s _ (List.getElem_mem h)
    rw [dif_pos h]; simp; omega
  · rw [dif_neg h]; exact Nat.zero_le _
/-! ### what is told -/
def tailV (s : ByteArray) (ms : List ByteArray) (k : Nat) (nm : ByteArray) : ByteArray × Int × Int × Int :=
  if (wd s k).toList = ([] : List UInt8) then (nm, -1, 0, 0)
  else if (wd s k).toList = ([103, 111, 116, 111] : List UInt8) then
    if (wd s (k + 1)).toList = ([] : List UInt8) then (⟨#[]⟩, 0, 3, pl s (k + 1))
    else if nameB (wd s (k + 1)) = true then
      if idx ms (wd s (k + 1)) < 0 then (⟨#[]⟩, 0, 11, pl s (k + 1))
      else if (wd s (k + 2)).toList = ([] : List UInt8) then (nm, idx ms (wd s (k + 1)), 0, 0) else (⟨#[]⟩, 0, 3, pl s (k + 2))
    else (⟨#[]⟩, 0, 4, pl s (k + 1))
  else (⟨#[]⟩, 0, 3, pl s k)
def allV (s : ByteArray) (ms : List ByteArray) : ByteArray × Int × Int × Int :=
  if (wd s 0).toList = ([115, 107, 105, 112] : List UInt8) then tailV s ms 1 ⟨#[]⟩
  else if (wd s 0).toList = ([101, 109, 105, 116] : List UInt8) then
    if (wd s 1).toList = ([] : List UInt8) then (⟨#[]⟩, 0, 3, pl s 1)
    else if nameB (wd s 1) = true then tailV s ms 2 (wd s 1) else (⟨#[]⟩, 0, 4, pl s 1)
  else (⟨#[]⟩, 0, 3, pl s 0)
/-! ### the program -/
theorem name_at (s : ByteArray) (hs : s.size ≤ 1000000) (K : Nat) (hK : s.size < K) (j : Nat) (hj : j < 1000000) :
    nameF K s ((ws s).map toS) (j : Int) = some (if (wd s j).toList = ([] : List UInt8) then (⟨#[]⟩, pl s j, 3, pl s j, (nx s j : Int)) else if nameB (wd s j) = true then (wd s j, pl s j, 0, 0, (nx s j : Int)) else (⟨#[]⟩, pl s j, 4, pl s j, (nx s j : Int))) := by
  unfold nameF
  rw [word_at s j hj, Option.bind_some]
  simp only
  by_cases h : (wd s j).toList = ([] : List UInt8)
  · rw [if_pos h, if_pos h]
  · have hz := wd_size s j
    rw [if_neg h, if_neg h, name_f _ (by omega) K (by omega), Option.bind_some]
    show some _ = _
    by_cases hb : nameB (wd s j) = true
    · rw [if_pos hb]
      unfold nameB at hb
      rw [hb]
      rfl
    · rw [if_neg hb]
      have hb := Bool.not_eq_true _ ▸ hb
      unfold nameB at hb
      rw [hb]
      rfl
theorem nx_eq (s : ByteArray) (j : Nat) (h : ¬ (wd s j).toList = ([] : List UInt8)) : nx s j = j + 1 := by
  rw [wd_nil] at h
  unfold nx
  rw [if_pos (by omega)]
theorem go_list : go.toList = ([103, 111, 116, 111] : List UInt8) := by decide +kernel
theorem sk_list : sk.toList = ([115, 107, 105, 112] : List UInt8) := by decide +kernel
theorem em_list : em.toList = ([101, 109, 105, 116] : List UInt8) := by decide +kernel
theorem idx_go (x : ByteArray) : (idx [go] x ≥ 0) ↔ x.toList = ([103, 111, 116, 111] : List UInt8) := by
  unfold idx
  simp only [idxN, go_list]
  by_cases h : x.toList = ([103, 111, 116, 111] : List UInt8)
  · rw [if_pos h.symm]; exact ⟨fun _ => h, fun _ => by decide⟩
  · rw [if_neg (fun e => h e.symm)]; exact ⟨fun e => absurd e (by decide), fun e => absurd e h⟩
theorem idx_two (x : ByteArray) : (idx [sk, em] x ≥ 0) ↔ (x.toList = ([115, 107, 105, 112] : List UInt8) ∨ x.toList = ([101, 109, 105, 116] : List UInt8)) := by
  unfold idx
  simp only [idxN, sk_list, em_list]
  by_cases h : x.toList = ([115, 107, 105, 112] : List UInt8)
  · rw [if_pos h.symm]; exact ⟨fun _ => .inl h, fun _ => by decide⟩
  · rw [if_neg (fun e => h e.symm)]
    by_cases h2 : x.toList = ([101, 109, 105, 116] : List UInt8)
    · rw [if_pos h2.symm]; exact ⟨fun _ => .inr h2, fun _ => by decide⟩
    · rw [if_neg (fun e => h2 e.symm)]
      exact ⟨fun e => absurd e (by decide), fun e => by rcases e with e | e; exact absurd e h; exact absurd e h2⟩
theorem key_at (s : ByteArray) (ks : List ByteArray) (hk : ks.length ≤ 2) (K : Nat) (hK : 3 ≤ K) (j : Nat) (hj : j < 1000000) :
    keyF K ks s ((ws s).map toS) (j : Int) = some (if idx ks (wd s j) ≥ 0 then (wd s j, 0, 0, (nx s j : Int)) else (⟨#[]⟩, 3, pl s j, (nx s j : Int))) := by
  unfold keyF
  rw [word_at s j hj, Option.bind_some]
  simp only
  rw [Contains_f ks (by omega) _ K (by omega), Option.bind_some]
  by_cases h : idx ks (wd s j) ≥ 0
  · rw [decide_eq_true h, if_pos h]; rfl
  · rw [decide_eq_false h, if_neg h]; rfl
/-- The end of the words: where to, and nothing behind it. -/
def tailP (K : Nat) (s : ByteArray) (ms : List ByteArray) (l : List S48) (k : Int) (nm : ByteArray) : Option (ByteArray × Int × Int × Int) :=
  (whereF K ms s l k).bind fun i => if i.2.1 ≠ 0 then some (⟨#[]⟩, 0, i.2.1, i.2.2.1)
    else (wordF s l i.2.2.2).bind fun v => if v.1.toList = ([] : List UInt8) then some (nm, i.1, 0, 0) else some (⟨#[]⟩, 0, 3, v.2.1)
theorem tail_p (s : ByteArray) (hs : s.size ≤ 1000000) (ms : List ByteArray) (hm : ms.length ≤ 1000000) (K : Nat) (hK : s.size + ms.length + 10 < K) (k : Nat) (hk : k < 900000) (hle : k ≤ (ws s).length) (nm : ByteArray) :
    tailP K s ms ((ws s).map toS) (k : Int) nm = some (tailV s ms k nm) := by
  unfold tailP whereF tailV
  rw [List.length_map]
  by_cases h0 : (wd s k).toList = ([] : List UInt8)
  · have h1 := (wd_nil s k).1 h0
    rw [if_pos (show (k : Int) = ((ws s).length : Int) by omega), if_pos h0, Option.bind_some]
    simp only
    rw [if_neg (by simp), word_at s k (by omega), Option.bind_some]
    simp only
    rw [if_pos h0]
  · have h1 : ¬ (ws s).length ≤ k := fun e => h0 ((wd_nil s k).2 e)
    rw [if_neg (show ¬ (k : Int) = ((ws s).length : Int) by omega), if_neg h0, key_at s [go] (by simp) K (by omega) k (by omega), Option.bind_some]
    by_cases hg : (wd s k).toList = ([103, 111, 116, 111] : List UInt8)
    · rw [if_pos ((idx_go _).2 hg), if_pos hg]
      simp only
      rw [if_neg (by simp), nx_eq s k h0, name_at s hs K (by omega) (k + 1) (by omega), Option.bind_some]
      by_cases h2 : (wd s (k + 1)).toList = ([] : List UInt8)
      · rw [if_pos h2, if_pos h2]
        simp only
        rw [if_pos (by decide), Option.bind_some]
        simp only
        rw [if_pos (by decide)]
      · rw [if_neg h2, if_neg h2]
        by_cases hb : nameB (wd s (k + 1)) = true
        · rw [if_pos hb, if_pos hb]
          simp only
          rw [if_neg (by simp), Index_f ms hm _ K (by omega), Option.bind_some]
          by_cases hi : idx ms (wd s (k + 1)) < 0
          · rw [if_pos hi, if_pos hi, Option.bind_some]
            simp only
            rw [if_pos (by decide)]
          · rw [if_neg hi, if_neg hi, Option.bind_some]
            simp only
            rw [if_neg (by simp), nx_eq s (k + 1) h2, word_at s (k + 1 + 1) (by omega), Option.bind_some]
            simp only
            by_cases h3 : (wd s (k + 2)).toList = ([] : List UInt8)
            · rw [if_pos h3, if_pos h3]
            · rw [if_neg h3, if_neg h3]
        · rw [if_neg hb, if_neg hb]
          simp only
          rw [if_pos (by decide), Option.bind_some]
          simp only
          rw [if_pos (by decide)]
    · rw [if_neg (fun e => hg ((idx_go _).1 e)), if_neg hg]
      simp only
      rw [if_pos (by decide), Option.bind_some]
      simp only
      rw [if_pos (by decide)]
theorem parse_p (s : ByteArray) (hs : s.size ≤ 1000000) (ms : List ByteArray) (hm : ms.length ≤ 1000000) (K : Nat) (hK : s.size + ms.length + 10 < K) : action_Parse.f K s ms = some (allV s ms) := by
  unfold action_Parse.f words_All.f
  rw [if_pos hs, Option.bind_some]
  show ((whatF K s ((ws s).map toS) 0).bind fun q => if q.2.1 ≠ 0 then some (⟨#[]⟩, 0, q.2.1, q.2.2.1) else tailP K s ms ((ws s).map toS) q.2.2.2 q.1) = _
  unfold whatF allV
  have hk := key_at s [sk, em] (by simp) K (by omega) 0 (by omega)
  rw [show (((0 : Nat) : Nat) : Int) = 0 from rfl] at hk
  rw [hk, Option.bind_some]
  by_cases hS : (wd s 0).toList = ([115, 107, 105, 112] : List UInt8)
  · have h0 : ¬ (wd s 0).toList = ([] : List UInt8) := by rw [hS]; simp
    have h0' : ¬ (ws s).length ≤ 0 := fun e => h0 ((wd_nil s 0).2 e)
    rw [if_pos ((idx_two _).2 (.inl hS)), if_pos hS]
    simp only
    rw [if_pos (.inr hS), Option.bind_some]
    simp only
    rw [if_neg (by simp), nx_eq s 0 h0]
    exact tail_p s hs ms hm K hK 1 (by omega) (by omega) ⟨#[]⟩
  · rw [if_neg hS]
    by_cases hE : (wd s 0).toList = ([101, 109, 105, 116] : List UInt8)
    · have h0 : ¬ (wd s 0).toList = ([] : List UInt8) := by rw [hE]; simp
      rw [if_pos ((idx_two _).2 (.inr hE)), if_pos hE]
      simp only
      rw [if_neg (by simp [hS]), nx_eq s 0 h0, name_at s hs K (by omega) (0 + 1) (by omega), Option.bind_some]
      by_cases h1 : (wd s 1).toList = ([] : List UInt8)
      · rw [if_pos h1, if_pos h1]
        simp only
        rw [Option.bind_some]
        simp only
        rw [if_pos (by decide)]
      · have h1' : ¬ (ws s).length ≤ 1 := fun e => h1 ((wd_nil s 1).2 e)
        rw [if_neg h1, if_neg h1]
        by_cases hb : nameB (wd s 1) = true
        · rw [if_pos hb, if_pos hb]
          simp only
          rw [Option.bind_some]
          simp only
          rw [if_neg (by simp), nx_eq s (0 + 1) h1]
          exact tail_p s hs ms hm K hK 2 (by omega) (by omega) (wd s 1)
        · rw [if_neg hb, if_neg hb]
          simp only
          rw [Option.bind_some]
          simp only
          rw [if_pos (by decide)]
    · rw [if_neg hE, if_neg (show ¬ idx [sk, em] (wd s 0) ≥ 0 from fun e => by rcases (idx_two _).1 e with e | e; exact hS e; exact hE e)]
      simp only
      rw [if_pos (.inl (by decide)), Option.bind_some]
      simp only
      rw [if_pos (by decide)]
end Go.Proofs.YtkfijbmplllmlaaDoor.PfP

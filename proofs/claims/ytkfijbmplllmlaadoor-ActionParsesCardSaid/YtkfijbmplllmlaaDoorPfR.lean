/- What an action's words tell, by the reference. -/
import Derived.Test.YtkfijbmplllmlaaDoorPfP
import Derived.Test.YtkfijbmplllmlaaDoorPAx7
set_option linter.unusedSimpArgs false
set_option linter.unusedVariables false
namespace Go.Proofs.YtkfijbmplllmlaaDoor.PfR
open Go.RowKit Go.Proofs.YtkfijbmplllmlaaDoor.PA Go.Proofs.YtkfijbmplllmlaaDoorW.PrintWords Go.Proofs.YtkfijbmplllmlaaDoorW.PrintLast Go.Proofs.YtkfijbmplllmlaaDoorW.PrintMore Go.Proofs.YtkfijbmplllmlaaDoor.Pl Go.Proofs.YtkfijbmplllmlaaDoor.HandAll Go.Proofs.YtkfijbmplllmlaaDoor.PfN Go.Proofs.YtkfijbmplllmlaaDoor.PfP
/-- So many words and their places are laid. -/
def Inv (s : ByteArray) (n : Nat) (x7 : List ByteArray) (x8 : List Int) : Prop := x7.length = n ∧ x8.length = n ∧ ∀ i : Nat, i < n → rdOf ByteArray.empty x7 (i : Int) = wd s i ∧ rd x8 (i : Int) = pl s i
theorem inv_nil (s : ByteArray) : Inv s 0 [] [] := ⟨rfl, rfl, fun i h => absurd h (by omega)⟩
theorem inv_add {s : ByteArray} {n : Nat} {x7 : List ByteArray} {x8 : List Int} (h : Inv s n x7 x8) : Inv s (n + 1) (x7 ++ [wd s n]) (x8 ++ [pl s n]) := by
  obtain ⟨h1, h2, h3⟩ := h
  refine ⟨by rw [List.length_append, h1]; rfl, by rw [List.length_append, h2]; rfl, fun i hi => ?_⟩
  by_cases e : i < n
  · obtain ⟨g1, g2⟩ := h3 i e
    unfold rdOf at g1 ⊢
    unfold rd at g2 ⊢
    rw [Int.toNat_natCast, List.getD_eq_getElem?_getD] at g1 g2
    rw [Int.toNat_natCast, List.getD_eq_getElem?_getD, List.getD_eq_getElem?_getD, List.getElem?_append_left (by omega), List.getElem?_append_left (by omega)]
    exact ⟨g1, g2⟩
  · obtain rfl : i = n := by omega
    unfold rdOf rd
    rw [Int.toNat_natCast, List.getD_eq_getElem?_getD, List.getD_eq_getElem?_getD, List.getElem?_append_right (by omega), List.getElem?_append_right (by omega), h1, h2]
    simp
theorem tail_r (s : ByteArray) (hs : s.size ≤ 300) (ms : List ByteArray) (hm : ms.length ≤ 1000000) (x7 : List ByteArray) (x8 : List Int) (hI : Inv s ((ws s).length + 5) x7 x8) (K : Nat) (hK : s.size + ms.length + 10 < K) (k : Nat) (hk : k ≤ 2) (nm : ByteArray) :
    spoolref17_Parse.j3 K ms x7 x8 (k : Int) nm (-1) = some (tailV s ms k nm) := by
  obtain ⟨K, rfl⟩ : ∃ m, K = m + 1 := ⟨K - 1, by omega⟩
  obtain ⟨h7, h8, hr⟩ := hI
  have r0 := Aside0.mk (hr k (by omega))
  have r1 := Aside0.mk (hr (k + 1) (by omega))
  have r2 := Aside0.mk (hr (k + 2) (by omega))
  clear hr
  simp only [spoolref17_Parse.j3]
  unfold tailV
  have e1 : wrap64 ((k : Int) + 1) = ((k + 1 : Nat) : Int) := by rw [wrap_in (by omega) (by omega)]; omega
  have e2 : wrap64 ((k : Int) + 2) = ((k + 2 : Nat) : Int) := by
    have h : wrap64 ((k : Int) + 2) = (k : Int) + 2 := wrap_in (by omega) (by omega)
    omega
  rw [e1, e2, r0.out.1, r1.out.1, r2.out.1, r0.out.2, r1.out.2, r2.out.2, if_pos (by omega), if_pos (by omega)]
  by_cases h0 : (wd s k).toList = ([] : List UInt8)
  · rw [if_pos h0, if_pos h0]
  · rw [if_neg h0, if_neg h0]
    by_cases hg : (wd s k).toList = ([103, 111, 116, 111] : List UInt8)
    · rw [if_pos hg, if_pos hg, if_pos (by omega), if_pos (by omega)]
      by_cases h1 : (wd s (k + 1)).toList = ([] : List UInt8)
      · rw [if_pos h1, if_pos h1, if_pos (by omega)]
      · have hz := wd_size s (k + 1)
        rw [if_neg h1, if_neg h1, ref_name_f _ (by omega) K (by omega), Option.bind_some]
        show (if nameB (wd s (k + 1)) = true then _ else _) = _
        by_cases hb : nameB (wd s (k + 1)) = true
        · rw [if_pos hb, if_pos hb, place_f ms hm _ K (by omega), Option.bind_some]
          by_cases hi : idx ms (wd s (k + 1)) < 0
          · rw [if_pos hi, if_pos hi, if_pos (by omega)]
          · rw [if_neg hi, if_neg hi, if_pos (by omega), if_pos (by omega)]
            by_cases h2 : (wd s (k + 2)).toList = ([] : List UInt8)
            · rw [if_pos h2, if_pos h2]
            · rw [if_neg h2, if_neg h2, if_pos (by omega)]
        · rw [if_neg hb, if_neg hb, if_pos (by omega)]
    · rw [if_neg hg, if_neg hg, if_pos (by omega)]
theorem ref_j2 (s : ByteArray) (hs : s.size ≤ 300) (ms : List ByteArray) (hm : ms.length ≤ 1000000) (x7 : List ByteArray) (x8 : List Int) (hI : Inv s ((ws s).length + 5) x7 x8) (K : Nat) (hK : s.size + ms.length + 20 < K) :
    spoolref17_Parse.l1 K s ms x7 x8 5 = some (allV s ms) := by
  obtain ⟨K, rfl⟩ : ∃ m, K = (m + 1) + 1 := ⟨K - 2, by omega⟩
  have hI2 := hI
  obtain ⟨h7, h8, hr⟩ := hI2
  have r0 : Aside0 (rdOf ByteArray.empty x7 0 = wd s 0 ∧ rd x8 0 = pl s 0) := ⟨hr 0 (by omega)⟩
  have r1 : Aside0 (rdOf ByteArray.empty x7 1 = wd s 1 ∧ rd x8 1 = pl s 1) := ⟨hr 1 (by omega)⟩
  unfold allV
  simp only [spoolref17_Parse.l1]
  rw [if_neg (by decide), if_pos (by omega), r0.out.1]
  by_cases hS : (wd s 0).toList = ([115, 107, 105, 112] : List UInt8)
  · rw [if_pos hS, if_pos hS]
    simp only [spoolref17_Parse.j2]
    rw [if_neg Bool.false_ne_true, if_pos (by omega), r0.out.1, if_neg (by rw [hS]; decide)]
    exact tail_r s hs ms hm x7 x8 hI K (by omega) 1 (by omega) ⟨#[]⟩
  · rw [if_neg hS, if_neg hS]
    simp only [spoolref17_Parse.j2]
    by_cases hE : (wd s 0).toList = ([101, 109, 105, 116] : List UInt8)
    · rw [if_neg (by rw [hE]; decide), if_pos (by omega), r0.out.1, if_pos hE, if_pos hE, if_pos (by omega), r1.out.1]
      by_cases h1 : (wd s 1).toList = ([] : List UInt8)
      · rw [if_pos h1, if_pos h1, if_pos (by omega), r1.out.2]
      · have hz := wd_size s 1
        rw [if_neg h1, if_neg h1, ref_name_f _ (by omega) K (by omega), Option.bind_some]
        show (if nameB (wd s 1) = true then _ else _) = _
        by_cases hb : nameB (wd s 1) = true
        · rw [if_pos hb, if_pos hb]
          exact tail_r s hs ms hm x7 x8 hI K (by omega) 2 (by omega) (wd s 1)
        · rw [if_neg hb, if_neg hb, if_pos (by omega), r1.out.2]
    · rw [if_pos (by rw [bne_iff_ne]; exact hE), if_neg hE, if_pos (by omega), r0.out.2]
theorem ref_l1 (s : ByteArray) (hs : s.size ≤ 300) (ms : List ByteArray) (hm : ms.length ≤ 1000000) (d : Nat) : ∀ (K i : Nat) (x7 : List ByteArray) (x8 : List Int), 5 - i = d → i ≤ 5 → Inv s ((ws s).length + i) x7 x8 → (ws s).length ≤ s.size → s.size + ms.length + 20 + d < K →
    spoolref17_Parse.l1 K s ms x7 x8 (i : Int) = some (allV s ms) := by
  induction d with
  | zero =>
    intro K i x7 x8 h1 h2 hI hw hK
    obtain rfl : i = 5 := by omega
    exact ref_j2 s hs ms hm x7 x8 hI K (by omega)
  | succ d ih =>
    intro K i x7 x8 h1 h2 hI hw hK
    obtain ⟨K, rfl⟩ : ∃ m, K = m + 1 := ⟨K - 1, by omega⟩
    obtain ⟨h7, h8, hr⟩ := hI
    have e : wd s ((ws s).length + i) = ⟨#[]⟩ := by unfold wd; rw [dif_neg (by omega)]
    have e2 : pl s ((ws s).length + i) = (s.size : Int) := by unfold pl; rw [dif_neg (by omega)]
    have hn := inv_add (s := s) ⟨h7, h8, hr⟩
    rw [e, e2] at hn
    conv => lhs; unfold spoolref17_Parse.l1
    rw [if_pos (by omega), if_pos (by omega), if_pos (by omega), wrap_in (by omega) (by omega)]
    exact ih K (i + 1) _ _ (by omega) (by omega) hn hw (by omega)
theorem ref_l0 (s : ByteArray) (hs : s.size ≤ 300) (ms : List ByteArray) (hm : ms.length ≤ 1000000) (hw : (ws s).length ≤ s.size) (d : Nat) : ∀ (K j : Nat) (x7 : List ByteArray) (x8 : List Int), (ws s).length - j = d → j ≤ (ws s).length → Inv s j x7 x8 → s.size + ms.length + 30 + d < K →
    spoolref17_Parse.l0 K s ms ((ws s).map toS) x7 x8 (j : Int) = some (allV s ms) := by
  induction d with
  | zero =>
    intro K j x7 x8 h1 h2 hI hK
    obtain ⟨K, rfl⟩ : ∃ m, K = m + 1 := ⟨K - 1, by omega⟩
    obtain rfl : j = (ws s).length := by omega
    simp only [spoolref17_Parse.l0]
    rw [if_neg (by rw [List.length_map]; omega)]
    exact ref_l1 s hs ms hm 5 K 0 x7 x8 (by omega) (by omega) hI hw (by omega)
  | succ d ih =>
    intro K j x7 x8 h1 h2 hI hK
    obtain ⟨K, rfl⟩ : ∃ m, K = m + 1 := ⟨K - 1, by omega⟩
    have hj : j < (ws s).length := by omega
    have hm2 := ws_in s _ (List.getElem_mem hj)
    have hn := inv_add hI
    have h7 := hI.1
    have h8 := hI.2.1
    have e : wd s j = s.extract (ws s)[j].1 (ws s)[j].2 := by unfold wd; rw [dif_pos hj]
    have e2 : pl s j = ((ws s)[j].1 : Int) := by unfold pl; rw [dif_pos hj]
    rw [e, e2] at hn
    simp only [spoolref17_Parse.l0]
    rw [if_pos (by rw [List.length_map]; omega), if_pos (by omega), rd_ws s j hj]
    rw [show (toS (ws s)[j]).f0 = ((ws s)[j].1 : Int) from rfl, show (toS (ws s)[j]).f1 = ((ws s)[j].2 : Int) from rfl, Int.toNat_natCast, Int.toNat_natCast]
    rw [if_pos (by omega), if_pos (by omega), if_pos (by omega), if_pos (by omega), if_pos (by omega), wrap_in (by omega) (by omega)]
    exact ih K (j + 1) _ _ (by omega) (by omega) hn (by omega)
theorem parse_r (s : ByteArray) (hs : s.size ≤ 300) (ms : List ByteArray) (hm : ms.length ≤ 1000000) (K : Nat) (hK : 2 * s.size + ms.length + 40 < K) : spoolref17_Parse.f K s ms = some (allV s ms) := by
  have hw : (ws s).length ≤ s.size := by have := allW_len s 0 (by omega); unfold ws; omega
  unfold spoolref17_Parse.f spoolref04_All.f
  have ha : spoolref04_All.l0 K s [] 0 = some ((allW s 0).map toS) := ref_all_l0 s hs s.size K 0 [] (by omega) (by omega) (by simp) (scan_start s) (by omega)
  rw [ha, Option.bind_some]
  exact ref_l0 s hs ms hm hw (ws s).length K 0 [] [] (by omega) (by omega) (inv_nil s) (by omega)
end Go.Proofs.YtkfijbmplllmlaaDoor.PfR

/- RegprintPrints, in plain words: any tree's text is the document's, and how deep its brackets are, or it is told that it may not be. Condition: the arguments' own bounds. -/
import Derived.Test.YtlihkebmonfefaaDoorPGx0
import Derived.Test.YtlihkebmonfefaaDoorPGx14
import Derived.Test.YtlihkebmonfefaaDoorPGx17
import Derived.Test.YtlihkebmonfefaaDoorPGx20
import Derived.Test.YtlihkebmonfefaaDoorPGx21
import Derived.Test.YtlihkebmonfefaaDoorPfN
set_option linter.unusedSimpArgs false
set_option linter.unusedVariables false
namespace Go.Proofs.YtlihkebmonfefaaDoor.Pure
open Go.RowKit Go.Proofs.YtlihkebmonfefaaDoor.PG Go.Proofs.YtlihkebmonfefaaDoorW.PrintWords Go.Proofs.YtlihkebmonfefaaDoorW.PrintLast Go.Proofs.YtlihkebmonfefaaDoor.PlD Go.Proofs.YtlihkebmonfefaaDoor.HandRight
open Go.Proofs.YtlihkebmonfefaaDoor.HandPrint (regprint_Print.f okT T txN)
open Go.Proofs.YtlihkebmonfefaaDoor.HandDeeps (regprint_Deep.f okD)
open Go.Proofs.YtlihkebmonfefaaDoor.HandRefs (spoolref14_Print.f okR rxN)
open Go.Proofs.YtlihkebmonfefaaDoor.HandDeep (D)
open Go.Proofs.YtlihkebmonfefaaDoor.PfB (Sc stp scan Deep)
open Go.Proofs.YtlihkebmonfefaaDoor.PfT (RightT C)
open Go.Proofs.YtlihkebmonfefaaDoor.PfF (Near far_f)
open Go.Proofs.YtlihkebmonfefaaDoor.PfC (good check_a check_r good_right nodesFrom)
open Go.Proofs.YtlihkebmonfefaaDoor.PfD (ref_size)
open Go.Proofs.YtlihkebmonfefaaDoor.PfN (nodes_f)
theorem alive60 : spoollaw14_alive.f 330 = some true := by decide +kernel
theorem alive_f (K : Nat) (hK : 330 ≤ K) : spoollaw14_alive.f K = some true := at_rounds (g := fun k => spoollaw14_alive.f k) spoollaw14_alive.mono hK alive60
theorem deep_l0 (s : ByteArray) (hs : s.size ≤ 1000000000) : ∀ (d i k : Nat) (m n : Int) (inn : Bool), s.size = i + d → 6 * d < k → -(i : Int) ≤ n → n ≤ i → -(i : Int) ≤ m → m ≤ i → spoolref14_Deep.l0 k s m n inn (i : Int) = some (scan ((L s).drop i) ⟨m, n, inn⟩).most := by
  intro d
  induction d with
  | zero =>
    intro i k m n inn e hk n0 n1 m0 m1
    obtain ⟨k, rfl⟩ : ∃ k', k = k' + 1 := ⟨k - 1, by omega⟩
    rw [spoolref14_Deep.l0, if_neg (by omega), List.drop_of_length_le (by rw [L_len]; omega)]
    rfl
  | succ d ih =>
    intro i k m n inn e hk n0 n1 m0 m1
    obtain ⟨k, rfl⟩ : ∃ k', k = k' + 1 + 1 + 1 + 1 + 1 + 1 := ⟨k - 6, by omega⟩
    have hw : wrap64 ((i : Int) + 1) = ((i + 1 : Nat) : Int) := by rw [wrap_in (by omega) (by omega)]; omega
    rw [L_drop s i (by omega)]
    generalize hb : bt s (i : Int) = b
    have five : ∀ (m n : Int) (inn : Bool) (x : Bool), -(i : Int) ≤ m → m ≤ i → -(i : Int) - 1 ≤ n → n ≤ i + 1 → (x = true → -(i : Int) ≤ n ∧ n ≤ i) → spoolref14_Deep.j5 (k + 1) s m n inn (i : Int) x = some (scan ((L s).drop (i + 1)) ⟨if (if x = true then n - 1 else n) > m then (if x = true then n - 1 else n) else m, if x = true then n - 1 else n, inn⟩).most := by
      intro m n inn x m0 m1 n0 n1 hx
      rw [spoolref14_Deep.j5, hw]
      cases x with
      | true =>
        obtain ⟨x0, x1⟩ := hx rfl
        rw [if_pos rfl, wrap_in (by omega) (by omega)]
        simp only [if_true]
        by_cases c : n - 1 > m
        · rw [if_pos c, if_pos c]; exact ih (i + 1) k _ _ _ (by omega) (by omega) (by omega) (by omega) (by omega) (by omega)
        · rw [if_neg c, if_neg c]; exact ih (i + 1) k _ _ _ (by omega) (by omega) (by omega) (by omega) (by omega) (by omega)
      | false =>
        rw [if_neg (by decide)]
        simp only [Bool.false_eq_true, if_false]
        by_cases c : n > m
        · rw [if_pos c, if_pos c]; exact ih (i + 1) k _ _ _ (by omega) (by omega) (by omega) (by omega) (by omega) (by omega)
        · rw [if_neg c, if_neg c]; exact ih (i + 1) k _ _ _ (by omega) (by omega) (by omega) (by omega) (by omega) (by omega)
    have two : ∀ (inn' : Bool), spoolref14_Deep.j2 (k + 1 + 1 + 1 + 1) s m n inn' (i : Int) = some (scan ((L s).drop (i + 1)) (let x := if b = 40 ∧ inn' = false then n + 1 else if b = 41 ∧ inn' = false then n - 1 else n; ⟨if x > m then x else m, x, inn'⟩)).most := by
      intro inn'
      rw [spoolref14_Deep.j2, if_pos (by omega), if_pos (by omega), hb]
      by_cases c40 : b = 40
      · rw [if_pos c40, spoolref14_Deep.j3]
        cases inn' with
        | false =>
          rw [Bool.not_false, if_pos rfl, wrap_in (by omega) (by omega), spoolref14_Deep.j4, if_pos (by omega), if_pos (by omega), hb, if_neg (by omega), five m (n + 1) false false m0 m1 (by omega) (by omega) (fun h => by cases h)]
          simp [c40]
        | true =>
          rw [Bool.not_true, if_neg (by decide), spoolref14_Deep.j4, if_pos (by omega), if_pos (by omega), hb, if_neg (by omega), five m n true false m0 m1 (by omega) (by omega) (fun h => by cases h)]
          simp [c40]
      · rw [if_neg c40, spoolref14_Deep.j3, if_neg (by decide), spoolref14_Deep.j4, if_pos (by omega), if_pos (by omega), hb]
        by_cases c41 : b = 41
        · rw [if_pos c41]
          cases inn' with
          | false =>
            rw [Bool.not_false, five m n false true m0 m1 (by omega) (by omega) (fun _ => ⟨by omega, by omega⟩)]
            simp [c41]
          | true =>
            rw [Bool.not_true, five m n true false m0 m1 (by omega) (by omega) (fun h => by cases h)]
            simp [c41]
        · rw [if_neg c41, five m n inn' false m0 m1 (by omega) (by omega) (fun h => by cases h)]
          simp [c40, c41]
    have one : ∀ (inn' : Bool), spoolref14_Deep.j1 (k + 1 + 1 + 1 + 1 + 1) s m n inn' (i : Int) = some (scan ((L s).drop (i + 1)) (let q := if b = 93 then false else inn'; let x := if b = 40 ∧ q = false then n + 1 else if b = 41 ∧ q = false then n - 1 else n; ⟨if x > m then x else m, x, q⟩)).most := by
      intro inn'
      rw [spoolref14_Deep.j1, if_pos (by omega), if_pos (by omega), hb]
      by_cases c : b = 93
      · rw [if_pos c, two]; simp [c]
      · rw [if_neg c, two]; simp [c]
    rw [spoolref14_Deep.l0, if_pos (by omega), if_pos (by omega), hb]
    show _ = some (scan ((L s).drop (i + 1)) (stp ⟨m, n, inn⟩ b)).most
    by_cases c : b = 91
    · rw [if_pos c, one]; simp [stp, c]
    · rw [if_neg c, one]; simp [stp, c]
theorem deep_f (s : ByteArray) (hs : s.size ≤ 1000000000) (d : Int) (h : Deep (L s) d) (K : Nat) (hK : 6 * s.size < K) : spoolref14_Deep.f K s = some d := by
  unfold spoolref14_Deep.f
  have e := deep_l0 s hs s.size 0 K 0 0 false (by omega) hK (by decide) (by decide) (by decide) (by decide)
  rw [show ((0 : Nat) : Int) = 0 from rfl] at e
  rw [e, List.drop_zero, h.2 0 0 (Int.le_refl _)]
  have := h.1
  show some (max 0 (0 + d)) = some d
  congr 1
  omega
theorem all_range (n : Nat) (p : Nat → Bool) (h : ∀ i, i < n → p i = true) : (List.range n).all p = true := by
  rw [List.all_eq_true]
  intro i hi
  exact h i (List.mem_range.1 hi)
theorem toL (s : ByteArray) (l : List Int) (h : L s = l) (h2 : ∀ x ∈ l, 0 ≤ x ∧ x < 256) : (strOfNums l).toList = s.toList := by
  rw [L_inj, L_nums l h2, h]
theorem nil_toList : (⟨#[]⟩ : ByteArray).toList = ([] : List UInt8) := L_nil.2 rfl
theorem far_r (l : List S48) (s : List (List S60)) (r : Int) (K : Nat) (hK : 1000 ≤ K) : ∃ b, spoollaw14_R10Far.f K l s r = some b ∧ (b = false → Near l s) := by
  obtain ⟨b, hb, hn⟩ := far_f l s r K (by omega)
  unfold spoollaw14_R10Far.f
  rw [hb]
  simp only [Option.bind_some]
  cases b with
  | true => exact ⟨true, by rw [if_pos rfl], fun h => by cases h⟩
  | false =>
    have hN := hn rfl
    obtain ⟨e', he', he2', he3'⟩ := check_r l s r hN K (by omega)
    rw [if_neg (by decide), he']
    simp only [Option.bind_some]
    by_cases hg : good l s r
    · have z' : e' = 0 := he3'.2 hg
      subst z'
      have hR := good_right hg
      obtain ⟨⟨r0, r1⟩, hS, hNo⟩ := hg
      have hsz := ref_size l s r hR (hN.c hR) hN.n l.length r K r0 r1 r1 (by have := hN.n; omega)
      rw [if_pos rfl, hsz]
      exact ⟨_, rfl, fun _ => hN⟩
    · rw [if_neg (fun h => hg (he3'.1 h))]
      exact ⟨_, rfl, fun _ => hN⟩
theorem law_f (l : List S48) (s : List (List S60)) (r : Int) (K : Nat) (hK : 20000000 ≤ K) : spoollaw14_RegprintPrints.f K l s r = some true := by
  have ha := alive_f K (by omega)
  obtain ⟨b, hb, hn⟩ := far_r l s r K (by omega)
  unfold spoollaw14_RegprintPrints.f
  rw [hb]
  simp only [Option.bind_some]
  cases b with
  | true => rw [if_pos rfl, ha]
  | false =>
    have hN := hn rfl
    obtain ⟨e, he, he2, he3⟩ := check_a l s r hN K (by omega)
    obtain ⟨e', he', he2', he3'⟩ := check_r l s r hN K (by omega)
    rw [if_neg (by decide)]
    by_cases hg : good l s r
    · have z : e = 0 := he3.2 hg
      have z' : e' = 0 := he3'.2 hg
      subst z z'
      have hR := good_right hg
      obtain ⟨⟨r0, r1⟩, hS, hNo⟩ := hg
      have nf := nodes_f l s hR hN hS K (by omega) l.length
      have hokT : okT K l s = true := all_range _ _ (fun i hi => by
        obtain ⟨t, _, ht, _⟩ := nf (i : Int) (by omega) (by omega) (by omega)
        rw [hR (i : Int) (by omega) (by omega), ht]; rfl)
      have hokR : okR l s = true := all_range _ _ (fun i hi => hR (i : Int) (by omega) (by omega))
      have hokD : okD l s = true := all_range _ _ (fun i hi => hR (i : Int) (by omega) (by omega))
      obtain ⟨t, w, ht, hw, hL, hlen, hdp⟩ := nf r r0 r1 r1
      have hT : T K l s r = t := by unfold T; rw [ht]; rfl
      have hws : w.size = t.length := by rw [← L_len, hL]
      have hC3 := hN.c hR r r0 r1
      have hbt : ∀ x ∈ t, 0 ≤ x ∧ x < 256 := by rw [← hL]; exact L_byte w
      have hP : regprint_Print.f K l s r = some (if t.length ≤ 4096 then (strOfNums t, 0) else (⟨#[]⟩, 6)) := by
        unfold regprint_Print.f
        rw [he]
        simp only [Option.bind_some]
        rw [if_pos trivial, if_pos ⟨hokT, r0, r1⟩, hT]
        split <;> rfl
      have hQ : spoolref14_Print.f K l s r r = some w := by
        unfold spoolref14_Print.f
        rw [if_pos ⟨hokR, r0, r1⟩, hw]
      have hD : regprint_Deep.f K l s r = some (D l r) := by
        unfold regprint_Deep.f
        rw [he]
        simp only [Option.bind_some]
        rw [if_pos trivial, if_pos ⟨hokD, ⟨r0, r1⟩, by have := hN.n; omega⟩]
      have hDd := deep_f w (by omega) (D l r) (by rw [hL]; exact hdp) K (by omega)
      rw [hP, he', hQ]
      simp only [Option.bind_some]
      rw [if_pos trivial]
      by_cases c2 : t.length ≤ 4096
      · rw [if_pos c2, if_neg (by omega), if_pos ⟨toL w t hL hbt, rfl⟩, hD, hDd]
        simp only [Option.bind_some]
        rw [if_pos trivial, ha]
      · rw [if_neg c2, if_pos (by omega), if_pos ⟨nil_toList, rfl⟩, ha]
    · have z : ¬ e = 0 := fun h => hg (he3.1 h)
      have z' : ¬ e' = 0 := fun h => hg (he3'.1 h)
      have ee : e = e' := by omega
      subst ee
      have hP : regprint_Print.f K l s r = some (⟨#[]⟩, e) := by
        unfold regprint_Print.f
        rw [he]
        simp only [Option.bind_some]
        rw [if_neg z]
      have hD : regprint_Deep.f K l s r = some 0 := by
        unfold regprint_Deep.f
        rw [he]
        simp only [Option.bind_some]
        rw [if_neg z]
      rw [hP, he']
      simp only [Option.bind_some]
      rw [if_neg z, if_pos ⟨nil_toList, trivial⟩, hD]
      simp only [Option.bind_some]
      rw [if_pos trivial, ha]
theorem RegprintPrints : spoollaw14_RegprintPrints.Pure := by
  intro a0 _
  exact ⟨20000000, law_f a0.f0 a0.f1 a0.f2 20000000 (Nat.le_refl _)⟩
end Go.Proofs.YtlihkebmonfefaaDoor.Pure

/- A set's tiles: what byteseq.Of tells, plainly. Condition: bounds on lengths. -/
import Derived.Test.YtedoopnjhpbjfaaDoorPBx0
import Derived.Test.YtedoopnjhpbjfaaDoorPlB
import Derived.Test.YtedoopnjhpbjfaaDoorPfS
set_option linter.unusedSimpArgs false
set_option linter.unusedVariables false
namespace Go.Proofs.YtedoopnjhpbjfaaDoor.PlT
open Go.RowKit Go.Proofs.YtedoopnjhpbjfaaDoorW.PrintWords Go.Proofs.YtedoopnjhpbjfaaDoor.PB Go.Proofs.YtedoopnjhpbjfaaDoor.PlE Go.Proofs.YtedoopnjhpbjfaaDoor.PlB Go.Proofs.YtedoopnjhpbjfaaDoor.Sets Go.Proofs.YtedoopnjhpbjfaaDoor.PfR
def gapR : S35 := ⟨55296, 57343⟩
def lessG (l : List S35) : List S35 := bothL l (notL [gapR])
def lim (i : Nat) : S35 := match i with
  | 0 => ⟨0, 127⟩
  | 1 => ⟨128, 2047⟩
  | 2 => ⟨2048, 65535⟩
  | _ => ⟨65536, 1114111⟩
/-- The ranges of code points of i + 1 bytes. -/
def X (l : List S35) (i : Nat) : List S35 := bothL (lessG l) [lim i]
def pT (k : Nat) (r : S35) : List S35 := (parts k r.f0 r.f1).getD []
def til (k : Nat) (l : List S35) (i : Nat) : List S35 := (X l i).flatMap (pT k)
def tiles (k : Nat) (l : List S35) : List S35 := ((til k l 0 ++ til k l 1) ++ til k l 2) ++ til k l 3
theorem inn_one (r : S35) (c : Int) : inn [r] c ↔ r.f0 ≤ c ∧ c ≤ r.f1 := by simp [inn]
theorem lessG_St (l : List S35) : St (lessG l) := bothL_St _ _
theorem lessG_inn (l : List S35) (c : Int) (h0 : 0 ≤ c) (h1 : c ≤ 1114111) : inn (lessG l) c ↔ inn l c ∧ ¬ (55296 ≤ c ∧ c ≤ 57343) := by
  unfold lessG
  rw [bothL_inn _ _ c h0 h1, notL_inn _ c h0 h1, inn_one]
  rfl
theorem X_St (l : List S35) (i : Nat) : St (X l i) := bothL_St _ _
theorem X_inn (l : List S35) (i : Nat) (c : Int) (h0 : 0 ≤ c) (h1 : c ≤ 1114111) : inn (X l i) c ↔ inn (lessG l) c ∧ (lim i).f0 ≤ c ∧ c ≤ (lim i).f1 := by
  unfold X
  rw [bothL_inn _ _ c h0 h1, inn_one]
theorem inn_mem {l : List S35} {r : S35} (h : r ∈ l) (c : Int) (h0 : r.f0 ≤ c) (h1 : c ≤ r.f1) : inn l c := ⟨r, h, h0, h1⟩
/-- Each of these ranges: code points of one length, no gap between. -/
theorem X_cls (l : List S35) (i : Nat) (hi : i < 4) (r : S35) (hr : r ∈ X l i) : Cls (i + 1) r.f0 r.f1 := by
  have hok := (X_St l i).2 r hr
  obtain ⟨o1, o2, o3⟩ := hok
  have a := (X_inn l i r.f0 o1 (by omega)).1 (inn_mem hr _ (Int.le_refl _) o2)
  have b := (X_inn l i r.f1 (by omega) o3).1 (inn_mem hr _ o2 (Int.le_refl _))
  have a2 := ((lessG_inn l r.f0 o1 (by omega)).1 a.1).2
  have nogap : ¬ (r.f0 < 55296 ∧ 55296 ≤ r.f1) := by
    rintro ⟨g1, g2⟩
    have c := (X_inn l i 55296 (by omega) (by omega)).1 (inn_mem hr 55296 (by omega) g2)
    exact ((lessG_inn l 55296 (by omega) (by omega)).1 c.1).2 (by omega)
  have ha := a.2.1
  have hb := b.2.2
  unfold Cls
  match i, hi with
  | 0, _ => simp only [lim] at ha hb; omega
  | 1, _ => simp only [lim] at ha hb; omega
  | 2, _ => simp only [lim] at ha hb; omega
  | 3, _ => simp only [lim] at ha hb; omega
theorem Rt_sorted {m : Int} {l : List S35} (h : Rt m l) : l.Pairwise (fun x y => x.f1 < y.f0) := by
  induction l generalizing m with
  | nil => exact List.Pairwise.nil
  | cons r l ih =>
    refine List.pairwise_cons.2 ⟨fun y hy => ?_, ih h.2.2⟩
    have h1 : Rt (r.f1 + 2) l := h.2.2
    clear h ih
    generalize r.f1 = q at *
    induction l generalizing q with
    | nil => cases hy
    | cons z l ih =>
      rcases List.mem_cons.1 hy with rfl | hy
      · have := h1.1; omega
      · exact ih hy q (h1.2.2.mono (by have := h1.1; have := h1.2.1; omega))
theorem inB_inn (l : List S35) (c : Int) : inB l c = true ↔ inn l c := inB_iff l c
theorem parts_flat {k : Nat} : ∀ {Y T : List S35}, partsAll k Y = some T → (∀ r ∈ Y, ∃ a, parts k r.f0 r.f1 = some a) ∧ T = Y.flatMap (pT k) := by
  intro Y
  induction Y with
  | nil => intro T h; exact ⟨by simp, (Option.some.inj h).symm⟩
  | cons r Y ih =>
    intro T h
    rw [partsAll] at h
    cases ea : parts k r.f0 r.f1 with
    | none => rw [ea] at h; cases h
    | some a =>
      rw [ea] at h
      cases eb : partsAll k Y with
      | none => rw [eb] at h; cases h
      | some b =>
        rw [eb] at h
        obtain ⟨h1, h2⟩ := ih eb
        refine ⟨fun x hx => ?_, ?_⟩
        · rcases List.mem_cons.1 hx with rfl | hx
          · exact ⟨a, ea⟩
          · exact h1 x hx
        · rw [List.flatMap_cons, ← h2, show pT k r = a by simp [pT, ea]]
          exact (Option.some.inj h).symm
/-- The tiles of one length. -/
theorem til_good (l : List S35) (i : Nat) (hi : i < 4) (k : Nat) (hk : 1200000 ≤ k) : (∀ r ∈ X l i, parts k r.f0 r.f1 = some (pT k r)) ∧ Tls (i + 1) (X l i) (til k l i) := by
  obtain ⟨T, h1, h2⟩ := partsAll_good (i + 1) (X l i) (Rt_sorted (X_St l i).1) (X_cls l i hi)
  obtain ⟨p1, p2⟩ := parts_flat (h1 k hk)
  refine ⟨fun r hr => ?_, by rw [til, ← p2]; exact h2⟩
  obtain ⟨a, ha⟩ := p1 r hr
  simp [pT, ha]
theorem til_same (l : List S35) (i : Nat) (hi : i < 4) (k m : Nat) (hk : 1200000 ≤ k) (hm : 1200000 ≤ m) : til k l i = til m l i := by
  obtain ⟨T, h1, _⟩ := partsAll_good (i + 1) (X l i) (Rt_sorted (X_St l i).1) (X_cls l i hi)
  rw [til, til, ← (parts_flat (h1 k hk)).2, ← (parts_flat (h1 m hm)).2]
theorem tiles_same (l : List S35) (k m : Nat) (hk : 1200000 ≤ k) (hm : 1200000 ≤ m) : tiles k l = tiles m l := by
  unfold tiles
  rw [til_same l 0 (by omega) k m hk hm, til_same l 1 (by omega) k m hk hm, til_same l 2 (by omega) k m hk hm, til_same l 3 (by omega) k m hk hm]
theorem lessG_len (l : List S35) : (lessG l).length ≤ l.length + 2 := by
  unfold lessG
  have h1 := bothL_len l (notL [gapR])
  have h2 := notL_len [gapR]
  simp only [List.length_singleton] at h2
  omega
theorem X_len (l : List S35) (i : Nat) : (X l i).length ≤ l.length + 3 := by
  unfold X
  have h1 := bothL_len (lessG l) [lim i]
  have h2 := lessG_len l
  simp only [List.length_singleton] at h1
  omega
theorem til_in (l : List S35) (i : Nat) (hi : i < 4) (k : Nat) (hk : 1200000 ≤ k) (t : S35) (ht : t ∈ til k l i) : (lim i).f0 ≤ t.f0 ∧ t.f1 ≤ (lim i).f1 := by
  obtain ⟨r, hr, r1, r2⟩ := (til_good l i hi k hk).2.inn t ht
  obtain ⟨o1, o2, o3⟩ := (X_St l i).2 r hr
  have a := ((X_inn l i r.f0 o1 (by omega)).1 (inn_mem hr _ (Int.le_refl _) o2)).2.1
  have b := ((X_inn l i r.f1 (by omega) o3).1 (inn_mem hr _ o2 (Int.le_refl _))).2.2
  omega
theorem tiles_mem {l : List S35} {k : Nat} {t : S35} (h : t ∈ tiles k l) : ∃ i, i < 4 ∧ t ∈ til k l i := by
  unfold tiles at h
  simp only [List.mem_append] at h
  rcases h with ((h | h) | h) | h
  · exact ⟨0, by omega, h⟩
  · exact ⟨1, by omega, h⟩
  · exact ⟨2, by omega, h⟩
  · exact ⟨3, by omega, h⟩
theorem tiles_tile (l : List S35) (k : Nat) (hk : 1200000 ≤ k) : ∀ t ∈ tiles k l, ∃ n, Cls n t.f0 t.f1 ∧ Leafy t.f0 t.f1 := by
  intro t ht
  obtain ⟨i, hi, h⟩ := tiles_mem ht
  exact ⟨i + 1, (til_good l i hi k hk).2.tile t h⟩
theorem tiles_sorted (l : List S35) (k : Nat) (hk : 1200000 ≤ k) : (tiles k l).Pairwise (fun x y => x.f1 < y.f0) := by
  have s := fun i hi => (til_good l i hi k hk).2.sorted
  have a := fun i hi => til_in l i hi k hk
  unfold tiles
  refine List.pairwise_append.2 ⟨List.pairwise_append.2 ⟨List.pairwise_append.2 ⟨s 0 (by omega), s 1 (by omega), fun x hx y hy => ?_⟩, s 2 (by omega), fun x hx y hy => ?_⟩, s 3 (by omega), fun x hx y hy => ?_⟩
  · have h1 := a 0 (by omega) x hx; have h2 := a 1 (by omega) y hy
    simp only [lim] at h1 h2; omega
  · have h2 := a 2 (by omega) y hy
    rcases List.mem_append.1 hx with hx | hx
    · have h1 := a 0 (by omega) x hx; simp only [lim] at h1 h2; omega
    · have h1 := a 1 (by omega) x hx; simp only [lim] at h1 h2; omega
  · have h2 := a 3 (by omega) y hy
    rcases List.mem_append.1 hx with hx | hx
    · rcases List.mem_append.1 hx with hx | hx
      · have h1 := a 0 (by omega) x hx; simp only [lim] at h1 h2; omega
      · have h1 := a 1 (by omega) x hx; simp only [lim] at h1 h2; omega
    · have h1 := a 2 (by omega) x hx; simp only [lim] at h1 h2; omega
theorem tiles_inB (l : List S35) (k : Nat) (hk : 1200000 ≤ k) (c : Int) (h0 : 0 ≤ c) (h1 : c ≤ 1114111) : inB (tiles k l) c = true ↔ inn (lessG l) c := by
  have e : inB (tiles k l) c = (((inB (til k l 0) c || inB (til k l 1) c) || inB (til k l 2) c) || inB (til k l 3) c) := by simp [tiles, inB, Bool.or_assoc]
  have s := fun i hi => ((til_good l i hi k hk).2.same c).trans ((inB_inn _ c).trans (X_inn l i c h0 h1))
  rw [e, Bool.or_eq_true, Bool.or_eq_true, Bool.or_eq_true, s 0 (by omega), s 1 (by omega), s 2 (by omega), s 3 (by omega)]
  simp only [lim]
  constructor
  · rintro (((h | h) | h) | h) <;> exact h.1
  · intro h
    by_cases c1 : c ≤ 127
    · exact .inl (.inl (.inl ⟨h, h0, c1⟩))
    by_cases c2 : c ≤ 2047
    · exact .inl (.inl (.inr ⟨h, by omega, c2⟩))
    by_cases c3 : c ≤ 65535
    · exact .inl (.inr ⟨h, by omega, c3⟩)
    · exact .inr ⟨h, by omega, h1⟩
theorem tiles_Dj (l : List S35) (k : Nat) (hk : 1200000 ≤ k) : Dj (tiles k l) := by
  refine ⟨tiles_sorted l k hk, fun t ht => ?_⟩
  obtain ⟨n, h, _⟩ := tiles_tile l k hk t ht
  unfold Cls at h
  omega
theorem til_len (l : List S35) (i : Nat) (hi : i < 4) (k : Nat) (hk : 1200000 ≤ k) : (til k l i).length ≤ 7 * (l.length + 3) := by
  have := (til_good l i hi k hk).2.few
  have := X_len l i
  omega
theorem tiles_len (l : List S35) (k : Nat) (hk : 1200000 ≤ k) : (tiles k l).length ≤ 28 * l.length + 84 := by
  have h := fun i hi => til_len l i hi k hk
  have h0 := h 0 (by omega)
  have h1 := h 1 (by omega)
  have h2 := h 2 (by omega)
  have h3 := h 3 (by omega)
  unfold tiles
  simp only [List.length_append]
  omega
theorem tiles_nil (k : Nat) (hk : 1200000 ≤ k) : tiles k [] = [] := by
  cases e : tiles k [] with
  | nil => rfl
  | cons t T =>
    have ht : t ∈ tiles k [] := by rw [e]; exact List.mem_cons_self ..
    obtain ⟨d1, d2, d3⟩ := (tiles_Dj [] k hk).2 t ht
    have h := (tiles_inB [] k hk t.f0 d1 (by omega)).1 ((inB_iff _ _).2 ⟨t, ht, Int.le_refl _, d2⟩)
    have h2 := ((lessG_inn [] t.f0 d1 (by omega)).1 h).1
    exact absurd h2 (by simp [inn])
/-- Few rows. -/
theorem tiles_few (l : List S35) (k : Nat) (hk : 1200000 ≤ k) : (tiles k l).length ≤ 40 * (l.length + 2) := by
  cases l with
  | nil => rw [tiles_nil k hk]; simp
  | cons r l => have := tiles_len (r :: l) k hk; rw [List.length_cons] at this ⊢; omega
theorem len_sz : ∀ l : List S35, len l = sz l := by
  intro l
  induction l with
  | nil => rfl
  | cons r l ih => rw [len, ih]; simp [sz]
theorem St_Dj {l : List S35} (h : St l) : Dj l := ⟨Rt_sorted h.1, h.2⟩
/-- As many code points. -/
theorem tiles_sz (l : List S35) (k : Nat) (hk : 1200000 ≤ k) : sz (tiles k l) = len (lessG l) := by
  rw [len_sz]
  exact sz_same _ _ (tiles_Dj l k hk) (St_Dj (lessG_St l)) (fun c h0 h1 => (tiles_inB l k hk c h0 h1).trans (inB_inn _ c).symm)
end Go.Proofs.YtedoopnjhpbjfaaDoor.PlT

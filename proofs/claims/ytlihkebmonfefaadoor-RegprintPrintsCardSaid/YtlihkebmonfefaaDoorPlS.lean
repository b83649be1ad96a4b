/- Sets of numbers as ranges: plain facts (heap, merging, what is not in a set, in both, the document's set). No condition. -/
import Derived.Test.YtlihkebmonfefaaDoorPGx0
namespace Go.Proofs.YtlihkebmonfefaaDoor.Sets
open Go.Proofs.YtlihkebmonfefaaDoor.PG
def inn (l : List S60) (c : Int) : Prop := ∃ r, r ∈ l ∧ r.f0 ≤ c ∧ c ≤ r.f1
def Rt : Int → List S60 → Prop
  | _, [] => True
  | m, r :: l => m ≤ r.f0 ∧ r.f0 ≤ r.f1 ∧ Rt (r.f1 + 2) l
theorem inn_nil (c : Int) : inn [] c ↔ False := by simp [inn]
theorem inn_cons (r : S60) (l : List S60) (c : Int) : inn (r :: l) c ↔ (r.f0 ≤ c ∧ c ≤ r.f1) ∨ inn l c := by
  simp only [inn, List.mem_cons]
  constructor
  · rintro ⟨x, rfl | h, h1, h2⟩
    · exact .inl ⟨h1, h2⟩
    · exact .inr ⟨x, h, h1, h2⟩
  · rintro (⟨h1, h2⟩ | ⟨x, h, h1, h2⟩)
    · exact ⟨r, .inl rfl, h1, h2⟩
    · exact ⟨x, .inr h, h1, h2⟩
theorem inn_append (a b : List S60) (c : Int) : inn (a ++ b) c ↔ inn a c ∨ inn b c := by
  induction a with
  | nil => simp [inn_nil]
  | cons r a ih => rw [List.cons_append, inn_cons, inn_cons, ih, or_assoc]
theorem Rt.mono {m n : Int} {l : List S60} (h : Rt m l) (hn : n ≤ m) : Rt n l := by
  cases l with
  | nil => trivial
  | cons r l => exact ⟨by have := h.1; omega, h.2⟩
theorem Rt.least {m : Int} {l : List S60} (h : Rt m l) {c : Int} (hc : inn l c) : m ≤ c := by
  induction l generalizing m with
  | nil => exact ((inn_nil c).mp hc).elim
  | cons r l ih =>
    obtain ⟨h1, h2, h3⟩ := h
    rcases (inn_cons r l c).mp hc with ⟨a, b⟩ | h'
    · omega
    · have := ih h3 h'; omega
theorem Rt.uniq {a : List S60} : ∀ {m n : Int} {b : List S60}, Rt m a → Rt n b → (∀ c, inn a c ↔ inn b c) → a = b := by
  induction a with
  | nil =>
    intro m n b _ hb he
    cases b with
    | nil => rfl
    | cons s b => exact ((inn_nil _).mp ((he s.f0).mpr ((inn_cons s b _).mpr (.inl ⟨by omega, hb.2.1⟩)))).elim
  | cons r a ih =>
    intro m n b ha hb he
    cases b with
    | nil => exact ((inn_nil _).mp ((he r.f0).mp ((inn_cons r a _).mpr (.inl ⟨by omega, ha.2.1⟩)))).elim
    | cons s b =>
      obtain ⟨a1, a2, a3⟩ := ha
      obtain ⟨b1, b2, b3⟩ := hb
      have e0 : r.f0 = s.f0 := by
        have k1 : s.f0 ≤ r.f0 := Rt.least (m := s.f0) (l := s :: b) ⟨by omega, b2, b3⟩ ((he _).mp ((inn_cons r a _).mpr (.inl ⟨by omega, a2⟩)))
        have k2 : r.f0 ≤ s.f0 := Rt.least (m := r.f0) (l := r :: a) ⟨by omega, a2, a3⟩ ((he _).mpr ((inn_cons s b _).mpr (.inl ⟨by omega, b2⟩)))
        omega
      have e1 : r.f1 = s.f1 := by
        rcases Int.lt_trichotomy r.f1 s.f1 with h | h | h
        · exfalso
          rcases (inn_cons r a _).mp ((he (r.f1 + 1)).mpr ((inn_cons s b _).mpr (.inl ⟨by omega, by omega⟩))) with h' | h'
          · omega
          · have := a3.least h'; omega
        · exact h
        · exfalso
          rcases (inn_cons s b _).mp ((he (s.f1 + 1)).mp ((inn_cons r a _).mpr (.inl ⟨by omega, by omega⟩))) with h' | h'
          · omega
          · have := b3.least h'; omega
      have e : r = s := by cases r; cases s; simp only [S60.mk.injEq]; exact ⟨e0, e1⟩
      subst e
      rw [ih a3 b3 (fun c => ?_)]
      constructor
      · intro h
        have := a3.least h
        rcases (inn_cons r b c).mp ((he c).mp ((inn_cons r a c).mpr (.inr h))) with h' | h'
        · omega
        · exact h'
      · intro h
        have := b3.least h
        rcases (inn_cons r a c).mp ((he c).mpr ((inn_cons r b c).mpr (.inr h))) with h' | h'
        · omega
        · exact h'
def len : List S60 → Int
  | [] => 0
  | r :: l => (r.f1 - r.f0 + 1) + len l
open Classical in
def G (l : List S60) (i : Nat) : S60 := l.getD i ⟨0, 0⟩
def swap (l : List S60) (i j : Nat) : List S60 := (l.set i (G l j)).set j (G l i)
theorem G_set (l : List S60) (i : Nat) (x : S60) (k : Nat) (hi : i < l.length) : G (l.set i x) k = if k = i then x else G l k := by
  unfold G
  rw [List.getD_eq_getElem?_getD, List.getD_eq_getElem?_getD, List.getElem?_set]
  by_cases h : i = k
  · subst h; rw [if_pos rfl, if_pos hi, if_pos rfl]; rfl
  · rw [if_neg h, if_neg (fun e => h e.symm)]
theorem swap_length (l : List S60) (i j : Nat) : (swap l i j).length = l.length := by simp [swap]
theorem G_swap (l : List S60) (i j k : Nat) (hi : i < l.length) (hj : j < l.length) : G (swap l i j) k = if k = j then G l i else if k = i then G l j else G l k := by
  rw [swap, G_set _ _ _ _ (by simpa using hj), G_set _ _ _ _ hi]
theorem mem_G (l : List S60) (x : S60) : x ∈ l ↔ ∃ k, k < l.length ∧ G l k = x := by
  rw [List.mem_iff_getElem]
  constructor
  · rintro ⟨k, h, e⟩; exact ⟨k, h, by rw [G, List.getD_eq_getElem?_getD, List.getElem?_eq_getElem h]; exact e⟩
  · rintro ⟨k, h, e⟩; exact ⟨k, h, by rw [G, List.getD_eq_getElem?_getD, List.getElem?_eq_getElem h] at e; exact e⟩
theorem mem_swap (l : List S60) (i j : Nat) (hi : i < l.length) (hj : j < l.length) (x : S60) : x ∈ swap l i j ↔ x ∈ l := by
  rw [mem_G, mem_G, swap_length]
  constructor
  · rintro ⟨k, h, e⟩
    rw [G_swap l i j k hi hj] at e
    by_cases h1 : k = j
    · rw [if_pos h1] at e; exact ⟨i, hi, e⟩
    · rw [if_neg h1] at e
      by_cases h2 : k = i
      · rw [if_pos h2] at e; exact ⟨j, hj, e⟩
      · rw [if_neg h2] at e; exact ⟨k, h, e⟩
  · rintro ⟨k, h, e⟩
    by_cases h1 : k = i
    · exact ⟨j, hj, by rw [G_swap l i j j hi hj, if_pos rfl, ← h1, e]⟩
    · by_cases h2 : k = j
      · refine ⟨i, hi, ?_⟩
        rw [G_swap l i j i hi hj]
        by_cases h3 : i = j
        · rw [if_pos h3, h3, ← h2, e]
        · rw [if_neg h3, if_pos rfl, ← h2, e]
      · exact ⟨k, h, by rw [G_swap l i j k hi hj, if_neg h2, if_neg h1, e]⟩
theorem G_append (l m : List S60) (k : Nat) : G (l ++ m) k = if k < l.length then G l k else G m (k - l.length) := by
  unfold G
  rw [List.getD_eq_getElem?_getD, List.getD_eq_getElem?_getD, List.getD_eq_getElem?_getD, List.getElem?_append]
  split <;> rfl
theorem G_take (l : List S60) (n k : Nat) (h : k < n) : G (l.take n) k = G l k := by
  unfold G
  rw [List.getD_eq_getElem?_getD, List.getD_eq_getElem?_getD, List.getElem?_take, if_pos h]
def upL : Nat → List S60 → Nat → List S60
  | 0, l, _ => l
  | k + 1, l, j => if (j - 1) / 2 = j ∨ ¬ (G l j).f0 < (G l ((j - 1) / 2)).f0 then l
    else upL k (swap l ((j - 1) / 2) j) ((j - 1) / 2)
def kid (l : List S60) (i n : Nat) : Nat := if 2 * i + 2 < n ∧ (G l (2 * i + 2)).f0 < (G l (2 * i + 1)).f0 then 2 * i + 2 else 2 * i + 1
def downL : Nat → List S60 → Nat → Nat → List S60
  | 0, l, _, _ => l
  | k + 1, l, i, n => if n ≤ 2 * i + 1 ∨ ¬ (G l (kid l i n)).f0 < (G l i).f0 then l else downL k (swap l i (kid l i n)) (kid l i n) n
def Hp (l : List S60) (n : Nat) : Prop := ∀ k, 0 < k → k < n → (G l ((k - 1) / 2)).f0 ≤ (G l k).f0
theorem upL_spec (f : Nat) : ∀ (l : List S60) (j : Nat), j < l.length → j < f →
    (∀ k, 0 < k → k < l.length → k ≠ j → (G l ((k - 1) / 2)).f0 ≤ (G l k).f0) →
    (∀ k, 0 < k → k < l.length → (k - 1) / 2 = j → 0 < j → (G l ((j - 1) / 2)).f0 ≤ (G l k).f0) →
    Hp (upL f l j) l.length ∧ (upL f l j).length = l.length ∧ ∀ x, x ∈ upL f l j ↔ x ∈ l := by
  induction f with
  | zero => intro l j _ h; omega
  | succ f ih =>
    intro l j hj hf h1 h2
    rw [upL]
    by_cases hc : (j - 1) / 2 = j ∨ ¬ (G l j).f0 < (G l ((j - 1) / 2)).f0
    · rw [if_pos hc]
      refine ⟨fun k k0 k1 => ?_, rfl, fun x => Iff.rfl⟩
      by_cases hk : k = j
      · subst hk
        rcases hc with hc | hc
        · omega
        · omega
      · exact h1 k k0 k1 hk
    · rw [if_neg hc]
      have c1 : (j - 1) / 2 ≠ j := fun e => hc (.inl e)
      have c2 : (G l j).f0 < (G l ((j - 1) / 2)).f0 := Decidable.byContradiction fun e => hc (.inr e)
      have hp : (j - 1) / 2 < l.length := by omega
      obtain ⟨r1, r2, r3⟩ := ih (swap l ((j - 1) / 2) j) ((j - 1) / 2) (by rw [swap_length]; exact hp) (by omega)
        (by
          intro k k0 k1 kn
          rw [swap_length] at k1
          rw [G_swap l _ j _ hp hj, G_swap l _ j _ hp hj]
          by_cases e1 : k = j
          · subst e1
            rw [if_neg c1, if_pos rfl, if_pos rfl]; omega
          · rw [if_neg e1, if_neg kn]
            by_cases e2 : (k - 1) / 2 = j
            · rw [if_pos e2]
              exact h2 k k0 k1 e2 (by omega)
            · rw [if_neg e2]
              by_cases e3 : (k - 1) / 2 = (j - 1) / 2
              · rw [if_pos e3]
                have := h1 k k0 k1 e1
                rw [e3] at this
                omega
              · rw [if_neg e3]; exact h1 k k0 k1 e1)
        (by
          intro k k0 k1 kp pj
          rw [swap_length] at k1
          rw [G_swap l _ j _ hp hj, G_swap l _ j _ hp hj]
          have u1 : ((j - 1) / 2 - 1) / 2 ≠ j := by omega
          have u2 : ((j - 1) / 2 - 1) / 2 ≠ (j - 1) / 2 := by omega
          have ph := h1 ((j - 1) / 2) pj hp (by omega)
          rw [if_neg u1, if_neg u2]
          by_cases e1 : k = j
          · rw [if_pos e1]; exact ph
          · rw [if_neg e1, if_neg (by omega)]
            have := h1 k k0 k1 e1
            rw [kp] at this
            omega)
      rw [swap_length] at r1 r2
      exact ⟨r1, r2, fun x => (r3 x).trans (mem_swap l _ j hp hj x)⟩
theorem kid_two (l : List S60) (i n : Nat) : kid l i n = 2 * i + 1 ∨ kid l i n = 2 * i + 2 := by unfold kid; split <;> omega
theorem kid_lt (l : List S60) (i n : Nat) (h : 2 * i + 1 < n) : kid l i n < n := by unfold kid; split <;> omega
theorem kid_least (l : List S60) (i n k : Nat) (h : k < n) (hk : k = 2 * i + 1 ∨ k = 2 * i + 2) : (G l (kid l i n)).f0 ≤ (G l k).f0 := by
  unfold kid
  by_cases hc : 2 * i + 2 < n ∧ (G l (2 * i + 2)).f0 < (G l (2 * i + 1)).f0
  · rw [if_pos hc]; rcases hk with rfl | rfl <;> omega
  · rw [if_neg hc]
    rcases hk with rfl | rfl
    · omega
    · have : ¬ (G l (2 * i + 2)).f0 < (G l (2 * i + 1)).f0 := fun e => hc ⟨h, e⟩
      omega
theorem downL_spec (f : Nat) : ∀ (l : List S60) (i n : Nat), n ≤ l.length → i < l.length → n ≤ i + f →
    (∀ k, 0 < k → k < n → (k - 1) / 2 ≠ i → (G l ((k - 1) / 2)).f0 ≤ (G l k).f0) →
    (∀ k, 0 < k → k < n → (k - 1) / 2 = i → 0 < i → (G l ((i - 1) / 2)).f0 ≤ (G l k).f0) →
    Hp (downL f l i n) n ∧ (downL f l i n).length = l.length ∧ (∀ x, x ∈ downL f l i n ↔ x ∈ l) ∧ (∀ k, n ≤ k → k ≠ i → G (downL f l i n) k = G l k) := by
  induction f with
  | zero =>
    intro l i n hn hi hf h1 h2
    exact ⟨fun k k0 k1 => h1 k k0 k1 (by omega), rfl, fun x => Iff.rfl, fun k _ _ => rfl⟩
  | succ f ih =>
    intro l i n hn hi hf h1 h2
    rw [downL]
    by_cases hc : n ≤ 2 * i + 1 ∨ ¬ (G l (kid l i n)).f0 < (G l i).f0
    · rw [if_pos hc]
      refine ⟨fun k k0 k1 => ?_, rfl, fun x => Iff.rfl, fun k _ _ => rfl⟩
      by_cases hk : (k - 1) / 2 = i
      · rcases hc with hc | hc
        · omega
        · have := kid_least l i n k k1 (by omega)
          rw [hk]; omega
      · exact h1 k k0 k1 hk
    · rw [if_neg hc]
      have c1 : 2 * i + 1 < n := Decidable.byContradiction fun e => hc (.inl (by omega))
      have c2 : (G l (kid l i n)).f0 < (G l i).f0 := Decidable.byContradiction fun e => hc (.inr e)
      have hk := kid_lt l i n c1
      have h12 := kid_two l i n
      have hkl : kid l i n < l.length := by omega
      have hl := kid_least l i n
      generalize kid l i n = j at hk h12 hkl hl c2 ⊢
      obtain ⟨r1, r2, r3, r4⟩ := ih (swap l i j) j n (by rw [swap_length]; exact hn) (by rw [swap_length]; exact hkl) (by omega)
        (by
          intro k k0 k1 kn
          rw [G_swap l i j _ hi hkl, G_swap l i j _ hi hkl]
          rw [if_neg kn]
          by_cases e1 : k = j
          · subst e1
            rw [if_pos rfl, if_pos (by omega)]; omega
          · rw [if_neg e1]
            by_cases e2 : (k - 1) / 2 = i
            · rw [if_pos e2, if_neg (by omega)]
              exact hl k k1 (by omega)
            · rw [if_neg e2]
              by_cases e3 : k = i
              · rw [if_pos e3]
                rw [e3]
                exact h2 j (by omega) hk (by omega) (by omega)
              · rw [if_neg e3]; exact h1 k k0 k1 e2)
        (by
          intro k k0 k1 kp pj
          rw [G_swap l i j _ hi hkl, G_swap l i j _ hi hkl]
          rw [if_neg (by omega), if_pos (by omega), if_neg (by omega), if_neg (by omega)]
          have := h1 k k0 k1 (by omega)
          rw [kp] at this
          exact this)
      rw [swap_length] at r2
      refine ⟨r1, r2, fun x => (r3 x).trans (mem_swap l i j hi hkl x), fun k k0 k1 => ?_⟩
      rw [r4 k k0 (by omega), G_swap l i j _ hi hkl, if_neg (by omega), if_neg k1]
theorem Hp.root {l : List S60} {n : Nat} (h : Hp l n) : ∀ k, k < n → (G l 0).f0 ≤ (G l k).f0 := by
  intro k
  induction k using Nat.strongRecOn with
  | _ k ih =>
    intro hk
    by_cases h0 : k = 0
    · subst h0; omega
    · have := ih ((k - 1) / 2) (by omega) (by omega)
      have := h k (by omega) hk
      omega
def pushL (l : List S60) (r : S60) : List S60 := upL (l.length + 1) (l ++ [r]) l.length
theorem pushL_spec (l : List S60) (r : S60) (h : Hp l l.length) : Hp (pushL l r) (pushL l r).length ∧ (pushL l r).length = l.length + 1 ∧ ∀ x, x ∈ pushL l r ↔ x ∈ l ∨ x = r := by
  have hlen : (l ++ [r]).length = l.length + 1 := by simp
  obtain ⟨r1, r2, r3⟩ := upL_spec (l.length + 1) (l ++ [r]) l.length (by omega) (by omega)
    (by
      intro k k0 k1 kn
      rw [hlen] at k1
      rw [G_append, G_append, if_pos (by omega), if_pos (by omega)]
      exact h k k0 (by omega))
    (by intro k k0 k1 kn; omega)
  rw [pushL]
  refine ⟨by rw [r2]; exact r1, by rw [r2, hlen], fun x => (r3 x).trans ?_⟩
  simp
def popL (l : List S60) : List S60 := (downL l.length (swap l 0 (l.length - 1)) 0 (l.length - 1)).take (l.length - 1)
theorem popL_spec (l : List S60) (h : Hp l l.length) (h0 : 0 < l.length) : Hp (popL l) (popL l).length ∧ (popL l).length = l.length - 1 ∧ ∀ x, x ∈ l ↔ x = G l 0 ∨ x ∈ popL l := by
  have hs := swap_length l 0 (l.length - 1)
  have hn : l.length - 1 < l.length := by omega
  obtain ⟨r1, r2, r3, r4⟩ := downL_spec l.length (swap l 0 (l.length - 1)) 0 (l.length - 1) (by omega) (by omega) (by omega)
    (by
      intro k k0 k1 kn
      rw [G_swap l 0 _ _ h0 hn, G_swap l 0 _ _ h0 hn, if_neg (by omega), if_neg kn, if_neg (by omega), if_neg (by omega)]
      exact h k k0 (by omega))
    (by intro k k0 k1 kn; omega)
  have hl : (popL l).length = l.length - 1 := by rw [popL, List.length_take, r2, hs]; omega
  refine ⟨?_, hl, ?_⟩
  · intro k k0 k1
    rw [hl] at k1
    rw [popL, G_take _ _ _ (by omega), G_take _ _ _ k1]
    exact r1 k k0 k1
  · intro x
    rw [← mem_swap l 0 (l.length - 1) h0 hn x, ← r3 x, mem_G]
    constructor
    · rintro ⟨k, k1, e⟩
      rw [r2, hs] at k1
      by_cases hk : k < l.length - 1
      · right
        rw [mem_G]
        exact ⟨k, by omega, by rw [popL, G_take _ _ _ hk]; exact e⟩
      · left
        by_cases hz : k = 0
        · subst hz
          have e1 : l.length = 1 := by omega
          rw [← e]
          rw [e1]
          rw [downL, if_pos (.inl (by omega)), G_swap l 0 _ _ h0 (by omega), if_pos (by omega)]
        · rw [← e, r4 k (by omega) hz, G_swap l 0 _ _ h0 hn, if_pos (by omega)]
    · rintro (rfl | hx)
      · by_cases hz : l.length = 1
        · refine ⟨0, by rw [r2, hs]; exact h0, ?_⟩
          rw [hz, downL, if_pos (.inl (by omega)), G_swap l 0 _ _ h0 (by omega), if_pos (by omega)]
        · exact ⟨l.length - 1, by rw [r2, hs]; exact hn, by rw [r4 _ (by omega) (by omega), G_swap l 0 _ _ h0 hn, if_pos rfl]⟩
      · rw [mem_G] at hx
        obtain ⟨k, k1, e⟩ := hx
        rw [hl] at k1
        exact ⟨k, by rw [r2, hs]; omega, by rw [popL, G_take _ _ _ k1] at e; exact e⟩
def mergeL (o : List S60) (r : S60) : List S60 :=
  if 0 < o.length ∧ r.f0 ≤ (G o (o.length - 1)).f1 + 1 then o.set (o.length - 1) ⟨(G o (o.length - 1)).f0, max (G o (o.length - 1)).f1 r.f1⟩ else o ++ [r]
def drain : Nat → List S60 → List S60 → List S60
  | 0, _, o => o
  | k + 1, l, o => if l.length = 0 then o else drain k (popL l) (mergeL o (G l 0))
def clamp (r : S60) : S60 := ⟨max r.f0 0, min r.f1 1114111⟩
def fillL (l : List S60) (p : List S60) : List S60 := l.foldl (fun p r => if (clamp r).f0 ≤ (clamp r).f1 then pushL p (clamp r) else p) p
def ofL (l : List S60) : List S60 := drain (fillL l []).length (fillL l []) []
def Ok (r : S60) : Prop := 0 ≤ r.f0 ∧ r.f0 ≤ r.f1 ∧ r.f1 ≤ 1114111
theorem Rt_append (l : List S60) (x : S60) : ∀ m : Int, Rt m (l ++ [x]) ↔ Rt m l ∧ m ≤ x.f0 ∧ x.f0 ≤ x.f1 ∧ ∀ y, y ∈ l → y.f1 + 2 ≤ x.f0 := by
  induction l with
  | nil => intro m; simp [Rt]
  | cons r l ih =>
    intro m
    rw [List.cons_append, Rt, Rt, ih]
    constructor
    · rintro ⟨h1, h2, h3, h4, h5, h6⟩
      refine ⟨⟨h1, h2, h3⟩, by omega, h5, fun y hy => ?_⟩
      rcases List.mem_cons.mp hy with rfl | hy
      · exact h4
      · exact h6 y hy
    · rintro ⟨⟨h1, h2, h3⟩, h4, h5, h6⟩
      exact ⟨h1, h2, h3, h6 r (.head _), h5, fun y hy => h6 y (.tail _ hy)⟩
theorem last_form (o : List S60) (h : 0 < o.length) : ∃ o' x, o = o' ++ [x] ∧ G o (o.length - 1) = x ∧ ∀ y, o.set (o.length - 1) y = o' ++ [y] := by
  have hne : o ≠ [] := fun e => by subst e; simp at h
  obtain ⟨o', x, rfl⟩ : ∃ o' x, o = o' ++ [x] := ⟨o.dropLast, o.getLast hne, (List.dropLast_concat_getLast hne).symm⟩
  have hl : (o' ++ [x]).length - 1 = o'.length := by simp
  refine ⟨o', x, rfl, ?_, fun y => ?_⟩
  · rw [hl, G_append, if_neg (by omega), Nat.sub_self]; rfl
  · rw [hl, List.set_append_right _ _ (Nat.le_refl _), Nat.sub_self]; rfl
theorem mergeL_spec (o : List S60) (r : S60) (ho : Rt 0 o) (hok : ∀ x, x ∈ o → Ok x) (hr : Ok r) (hle : ∀ x, x ∈ o → x.f0 ≤ r.f0) :
    Rt 0 (mergeL o r) ∧ (∀ x, x ∈ mergeL o r → Ok x) ∧ (∀ x, x ∈ mergeL o r → x.f0 ≤ r.f0) ∧ ∀ c, inn (mergeL o r) c ↔ inn o c ∨ (r.f0 ≤ c ∧ c ≤ r.f1) := by
  obtain ⟨r0, r1, r2⟩ := hr
  rw [mergeL]
  by_cases hc : 0 < o.length ∧ r.f0 ≤ (G o (o.length - 1)).f1 + 1
  · rw [if_pos hc]
    obtain ⟨o', x, e, e1, e2⟩ := last_form o hc.1
    rw [e1, e2]
    have hc2 := hc.2
    rw [e1] at hc2
    clear e1 e2 hc
    subst e
    obtain ⟨q1, q2, q3, q4⟩ := (Rt_append o' x 0).mp ho
    obtain ⟨x0, x1, x2⟩ := hok x (by simp)
    have xl := hle x (by simp)
    refine ⟨(Rt_append o' _ 0).mpr ⟨q1, q2, by show x.f0 ≤ max x.f1 r.f1; omega, q4⟩, ?_, ?_, ?_⟩
    · intro y hy
      rcases List.mem_append.mp hy with h | h
      · exact hok y (List.mem_append_left _ h)
      · rw [List.mem_singleton.mp h]; exact ⟨x0, by show x.f0 ≤ max x.f1 r.f1; omega, by show max x.f1 r.f1 ≤ 1114111; omega⟩
    · intro y hy
      rcases List.mem_append.mp hy with h | h
      · exact hle y (List.mem_append_left _ h)
      · rw [List.mem_singleton.mp h]; exact xl
    · intro c
      rw [inn_append, inn_append, inn_cons, inn_cons, inn_nil]
      show _ ∨ (x.f0 ≤ c ∧ c ≤ max x.f1 r.f1) ∨ False ↔ _
      constructor
      · rintro (h | ⟨h1, h2⟩ | h)
        · exact .inl (.inl h)
        · by_cases hx : c ≤ x.f1
          · exact .inl (.inr (.inl ⟨h1, hx⟩))
          · exact .inr ⟨by omega, by omega⟩
        · exact h.elim
      · rintro ((h | ⟨h1, h2⟩ | h) | ⟨h1, h2⟩)
        · exact .inl h
        · exact .inr (.inl ⟨h1, by omega⟩)
        · exact h.elim
        · exact .inr (.inl ⟨by omega, by omega⟩)
  · rw [if_neg hc]
    refine ⟨(Rt_append o r 0).mpr ⟨ho, r0, r1, ?_⟩, ?_, ?_, fun c => ?_⟩
    · intro y hy
      by_cases hl : 0 < o.length
      · have h2 : ¬ r.f0 ≤ (G o (o.length - 1)).f1 + 1 := fun k => hc ⟨hl, k⟩
        obtain ⟨o', x, e, e1, e2⟩ := last_form o hl
        rw [e1] at h2
        clear e1 e2 hc
        subst e
        obtain ⟨q1, q2, q3, q4⟩ := (Rt_append o' x 0).mp ho
        rcases List.mem_append.mp hy with h | h
        · have := q4 y h; omega
        · rw [List.mem_singleton.mp h]; omega
      · have : o = [] := List.length_eq_zero_iff.mp (by omega)
        subst this
        exact absurd hy (by simp)
    · intro y hy
      rcases List.mem_append.mp hy with h | h
      · exact hok y h
      · rw [List.mem_singleton.mp h]; exact ⟨r0, r1, r2⟩
    · intro y hy
      rcases List.mem_append.mp hy with h | h
      · exact hle y h
      · rw [List.mem_singleton.mp h]; omega
    · rw [inn_append, inn_cons, inn_nil, or_false]
theorem drain_spec (k : Nat) : ∀ (l o : List S60), l.length ≤ k → Hp l l.length → (∀ x, x ∈ l → Ok x) → Rt 0 o → (∀ x, x ∈ o → Ok x) → (∀ x, x ∈ o → ∀ y, y ∈ l → x.f0 ≤ y.f0) →
    Rt 0 (drain k l o) ∧ (∀ x, x ∈ drain k l o → Ok x) ∧ ∀ c, inn (drain k l o) c ↔ inn o c ∨ inn l c := by
  induction k with
  | zero =>
    intro l o hk _ _ ho hok _
    have : l = [] := List.length_eq_zero_iff.mp (by omega)
    subst this
    exact ⟨ho, hok, fun c => by rw [inn_nil, or_false]; rfl⟩
  | succ k ih =>
    intro l o hk hp hl ho hok hle
    rw [drain]
    by_cases h0 : l.length = 0
    · rw [if_pos h0]
      have : l = [] := List.length_eq_zero_iff.mp h0
      subst this
      exact ⟨ho, hok, fun c => by rw [inn_nil, or_false]⟩
    · rw [if_neg h0]
      obtain ⟨p1, p2, p3⟩ := popL_spec l hp (by omega)
      have g0 : G l 0 ∈ l := (mem_G l _).mpr ⟨0, by omega, rfl⟩
      obtain ⟨m1, m2, m3, m4⟩ := mergeL_spec o (G l 0) ho hok (hl _ g0) (fun x hx => hle x hx _ g0)
      obtain ⟨d1, d2, d3⟩ := ih (popL l) (mergeL o (G l 0)) (by omega) p1 (fun x hx => hl x ((p3 x).mpr (.inr hx))) m1 m2
        (fun x hx y hy => by
          have := m3 x hx
          obtain ⟨i, i1, i2⟩ := (mem_G l y).mp ((p3 y).mpr (.inr hy))
          have := hp.root i i1
          rw [i2] at this
          omega)
      refine ⟨d1, d2, fun c => ?_⟩
      rw [d3, m4, or_assoc]
      refine or_congr_right ⟨?_, ?_⟩
      · rintro (h | ⟨r, hr, h⟩)
        · exact ⟨_, g0, h⟩
        · exact ⟨r, (p3 r).mpr (.inr hr), h⟩
      · rintro ⟨r, hr, h⟩
        rcases (p3 r).mp hr with rfl | h'
        · exact .inl h
        · exact .inr ⟨r, h', h⟩
theorem fillL_spec (l : List S60) : ∀ p : List S60, Hp p p.length → (∀ x, x ∈ p → Ok x) →
    Hp (fillL l p) (fillL l p).length ∧ (∀ x, x ∈ fillL l p → Ok x) ∧ ∀ c, inn (fillL l p) c ↔ inn p c ∨ (inn l c ∧ 0 ≤ c ∧ c ≤ 1114111) := by
  induction l with
  | nil => intro p h hk; exact ⟨h, hk, fun c => by rw [inn_nil]; simp [fillL]⟩
  | cons r l ih =>
    intro p h hk
    have e : fillL (r :: l) p = fillL l (if (clamp r).f0 ≤ (clamp r).f1 then pushL p (clamp r) else p) := rfl
    rw [e]
    have hin : ∀ c : Int, ((clamp r).f0 ≤ c ∧ c ≤ (clamp r).f1) ↔ (r.f0 ≤ c ∧ c ≤ r.f1) ∧ 0 ≤ c ∧ c ≤ 1114111 := by
      intro c
      show (max r.f0 0 ≤ c ∧ c ≤ min r.f1 1114111) ↔ _
      omega
    by_cases hc : (clamp r).f0 ≤ (clamp r).f1
    · rw [if_pos hc]
      obtain ⟨q1, q2, q3⟩ := pushL_spec p (clamp r) h
      obtain ⟨i1, i2, i3⟩ := ih (pushL p (clamp r)) q1 (fun x hx => by
        rcases (q3 x).mp hx with h' | h'
        · exact hk x h'
        · subst h'; exact ⟨by show 0 ≤ max r.f0 0; omega, hc, by show min r.f1 1114111 ≤ 1114111; omega⟩)
      refine ⟨i1, i2, fun c => (i3 c).trans ?_⟩
      rw [inn_cons, or_and_right, ← hin, ← or_assoc]
      refine or_congr_left ⟨?_, ?_⟩
      · rintro ⟨x, hx, h'⟩
        rcases (q3 x).mp hx with h2 | h2
        · exact .inl ⟨x, h2, h'⟩
        · subst h2; exact .inr h'
      · rintro (⟨x, hx, h'⟩ | h')
        · exact ⟨x, (q3 x).mpr (.inl hx), h'⟩
        · exact ⟨_, (q3 _).mpr (.inr rfl), h'⟩
    · rw [if_neg hc]
      obtain ⟨i1, i2, i3⟩ := ih p h hk
      refine ⟨i1, i2, fun c => (i3 c).trans ?_⟩
      rw [inn_cons, or_and_right, ← hin]
      have : ¬ ((clamp r).f0 ≤ c ∧ c ≤ (clamp r).f1) := by omega
      simp only [this, false_or]
theorem ofL_spec (l : List S60) : Rt 0 (ofL l) ∧ (∀ x, x ∈ ofL l → Ok x) ∧ ∀ c, inn (ofL l) c ↔ inn l c ∧ 0 ≤ c ∧ c ≤ 1114111 := by
  obtain ⟨f1, f2, f3⟩ := fillL_spec l [] (fun k _ h => absurd h (Nat.not_lt_zero _)) (fun x hx => absurd hx (by simp))
  obtain ⟨d1, d2, d3⟩ := drain_spec _ (fillL l []) [] (Nat.le_refl _) f1 f2 trivial (fun x hx => absurd hx (by simp)) (fun x hx => absurd hx (by simp))
  exact ⟨d1, d2, fun c => by rw [ofL, d3, inn_nil, false_or, f3, inn_nil, false_or]⟩
def St (l : List S60) : Prop := Rt 0 l ∧ ∀ x, x ∈ l → Ok x
theorem St.inn_le {l : List S60} (h : St l) {c : Int} (hc : inn l c) : 0 ≤ c ∧ c ≤ 1114111 := by
  obtain ⟨r, hr, h1, h2⟩ := hc
  obtain ⟨k1, k2, k3⟩ := h.2 r hr
  omega
theorem St.same {a b : List S60} (ha : St a) (hb : St b) (h : ∀ c, 0 ≤ c → c ≤ 1114111 → (inn a c ↔ inn b c)) : a = b :=
  ha.1.uniq hb.1 fun c => ⟨fun k => (h c (ha.inn_le k).1 (ha.inn_le k).2).mp k, fun k => (h c (hb.inn_le k).1 (hb.inn_le k).2).mpr k⟩
theorem ofL_St (l : List S60) : St (ofL l) := ⟨(ofL_spec l).1, (ofL_spec l).2.1⟩
theorem ofL_inn (l : List S60) (c : Int) (h0 : 0 ≤ c) (h1 : c ≤ 1114111) : inn (ofL l) c ↔ inn l c := by rw [(ofL_spec l).2.2]; simp only [h0, h1, and_true]
theorem ofL_self {l : List S60} (h : St l) : ofL l = l := (ofL_St l).same h (fun c h0 h1 => ofL_inn l c h0 h1)
def rightL : Int → List S60 → Bool
  | _, [] => true
  | m, r :: l => if r.f0 < m ∨ r.f1 < r.f0 ∨ 1114111 < r.f1 then false else rightL (r.f1 + 2) l
theorem rightL_iff (l : List S60) : ∀ m : Int, 0 ≤ m → (rightL m l = true ↔ Rt m l ∧ ∀ x, x ∈ l → Ok x) := by
  induction l with
  | nil => intro m _; simp [rightL, Rt]
  | cons r l ih =>
    intro m hm
    rw [rightL]
    by_cases hc : r.f0 < m ∨ r.f1 < r.f0 ∨ 1114111 < r.f1
    · rw [if_pos hc]
      constructor
      · intro h; exact absurd h (by decide)
      · rintro ⟨⟨h1, h2, _⟩, h3⟩
        have := h3 r (.head _)
        rcases this with ⟨_, _, _⟩
        omega
    · rw [if_neg hc, ih _ (by omega), Rt]
      constructor
      · rintro ⟨h1, h2⟩
        refine ⟨⟨by omega, by omega, h1⟩, fun x hx => ?_⟩
        rcases List.mem_cons.mp hx with rfl | hx
        · exact ⟨by omega, by omega, by omega⟩
        · exact h2 x hx
      · rintro ⟨⟨h1, h2, h3⟩, h4⟩
        exact ⟨h3, fun x hx => h4 x (.tail _ hx)⟩
def hasL (l : List S60) (c : Int) : Bool := decide (0 ≤ c) && decide (c ≤ 1114111) && l.any fun r => decide (r.f0 ≤ c) && decide (c ≤ r.f1)
theorem hasL_iff (l : List S60) (c : Int) : hasL l c = true ↔ 0 ≤ c ∧ c ≤ 1114111 ∧ inn l c := by
  rw [hasL, Bool.and_eq_true, Bool.and_eq_true, decide_eq_true_iff, decide_eq_true_iff, List.any_eq_true, and_assoc]
  refine and_congr_right fun _ => and_congr_right fun _ => ⟨?_, ?_⟩
  · rintro ⟨x, hx, h⟩
    rw [Bool.and_eq_true, decide_eq_true_iff, decide_eq_true_iff] at h
    exact ⟨x, hx, h⟩
  · rintro ⟨x, hx, h⟩
    exact ⟨x, hx, by rw [Bool.and_eq_true, decide_eq_true_iff, decide_eq_true_iff]; exact h⟩
theorem Rt.ends {m : Int} {l : List S60} (h : Rt m l) {x : S60} (hx : x ∈ l) : m ≤ x.f0 ∧ x.f0 ≤ x.f1 := by
  induction l generalizing m with
  | nil => exact absurd hx (by simp)
  | cons r l ih =>
    rcases List.mem_cons.mp hx with rfl | hx
    · exact ⟨h.1, h.2.1⟩
    · have := ih h.2.2 hx
      have := h.1
      have := h.2.1
      omega
def putL : List Int → Int → List Int
  | [], x => [x]
  | y :: l, x => if y < x then y :: putL l x else if y = x then y :: l else x :: y :: l
theorem putL_mem (l : List Int) (x z : Int) : z ∈ putL l x ↔ z ∈ l ∨ z = x := by
  induction l with
  | nil => simp [putL]
  | cons y l ih =>
    rw [putL]
    split
    · rw [List.mem_cons, ih, List.mem_cons, or_assoc]
    · split
      · rename_i h; subst h; simp only [List.mem_cons]
        constructor
        · exact .inl
        · rintro (h | rfl)
          · exact h
          · exact .inl rfl
      · simp only [List.mem_cons]
        constructor
        · rintro (h | h)
          · exact .inr h
          · exact .inl h
        · rintro (h | h)
          · exact .inr h
          · exact .inl h
def Ris : List Int → Prop
  | [] => True
  | x :: l => (∀ y, y ∈ l → x < y) ∧ Ris l
theorem putL_Ris (l : List Int) (x : Int) (h : Ris l) : Ris (putL l x) := by
  induction l with
  | nil => exact ⟨fun y hy => absurd hy (by simp), trivial⟩
  | cons y l ih =>
    rw [putL]
    split
    · rename_i hy
      refine ⟨fun z hz => ?_, ih h.2⟩
      rcases (putL_mem l x z).mp hz with h' | rfl
      · exact h.1 z h'
      · exact hy
    · split
      · exact h
      · refine ⟨fun z hz => ?_, h⟩
        rcases List.mem_cons.mp hz with rfl | hz
        · omega
        · have := h.1 z hz; omega
def endStep (o : List Int) (r : S60) : List Int :=
  let o1 := if 0 < r.f0 ∧ r.f0 < 1114112 then putL o r.f0 else o
  if 0 ≤ r.f1 ∧ r.f1 < 1114111 then putL o1 (r.f1 + 1) else o1
def endsL (l : List S60) : List Int := l.foldl endStep [0, 1114112]
theorem endStep_spec (o : List Int) (r : S60) (h : Ris o) (hb : ∀ z, z ∈ o → 0 ≤ z ∧ z ≤ 1114112) :
    Ris (endStep o r) ∧ (∀ z, z ∈ endStep o r → 0 ≤ z ∧ z ≤ 1114112) ∧ (∀ z, z ∈ o → z ∈ endStep o r) ∧
    (0 < r.f0 → r.f0 < 1114112 → r.f0 ∈ endStep o r) ∧ (0 ≤ r.f1 → r.f1 < 1114111 → r.f1 + 1 ∈ endStep o r) := by
  unfold endStep
  by_cases h1 : 0 < r.f0 ∧ r.f0 < 1114112
  · simp only [h1, and_self, if_true]
    by_cases h2 : 0 ≤ r.f1 ∧ r.f1 < 1114111
    · simp only [h2, and_self, if_true]
      refine ⟨putL_Ris _ _ (putL_Ris _ _ h), fun z hz => ?_, fun z hz => ?_, fun _ _ => ?_, fun _ _ => ?_⟩
      · rcases (putL_mem _ _ _).mp hz with hz | rfl
        · rcases (putL_mem _ _ _).mp hz with hz | rfl
          · exact hb z hz
          · omega
        · omega
      · exact (putL_mem _ _ _).mpr (.inl ((putL_mem _ _ _).mpr (.inl hz)))
      · exact (putL_mem _ _ _).mpr (.inl ((putL_mem _ _ _).mpr (.inr rfl)))
      · exact (putL_mem _ _ _).mpr (.inr rfl)
    · rw [if_neg h2]
      refine ⟨putL_Ris _ _ h, fun z hz => ?_, fun z hz => ?_, fun _ _ => ?_, fun k1 k2 => absurd ⟨k1, k2⟩ h2⟩
      · rcases (putL_mem _ _ _).mp hz with hz | rfl
        · exact hb z hz
        · omega
      · exact (putL_mem _ _ _).mpr (.inl hz)
      · exact (putL_mem _ _ _).mpr (.inr rfl)
  · simp only [h1, if_false]
    by_cases h2 : 0 ≤ r.f1 ∧ r.f1 < 1114111
    · simp only [h2, and_self, if_true]
      refine ⟨putL_Ris _ _ h, fun z hz => ?_, fun z hz => ?_, fun k1 k2 => absurd ⟨k1, k2⟩ h1, fun _ _ => ?_⟩
      · rcases (putL_mem _ _ _).mp hz with hz | rfl
        · exact hb z hz
        · omega
      · exact (putL_mem _ _ _).mpr (.inl hz)
      · exact (putL_mem _ _ _).mpr (.inr rfl)
    · rw [if_neg h2]
      exact ⟨h, hb, fun z hz => hz, fun k1 k2 => absurd ⟨k1, k2⟩ h1, fun k1 k2 => absurd ⟨k1, k2⟩ h2⟩
theorem endsF_spec (l : List S60) : ∀ o : List Int, Ris o → (∀ z, z ∈ o → 0 ≤ z ∧ z ≤ 1114112) →
    Ris (l.foldl endStep o) ∧ (∀ z, z ∈ l.foldl endStep o → 0 ≤ z ∧ z ≤ 1114112) ∧ (∀ z, z ∈ o → z ∈ l.foldl endStep o) ∧
    ∀ r, r ∈ l → (0 < r.f0 → r.f0 < 1114112 → r.f0 ∈ l.foldl endStep o) ∧ (0 ≤ r.f1 → r.f1 < 1114111 → r.f1 + 1 ∈ l.foldl endStep o) := by
  induction l with
  | nil => intro o h hb; exact ⟨h, hb, fun z hz => hz, fun r hr => absurd hr (by simp)⟩
  | cons r l ih =>
    intro o h hb
    obtain ⟨s1, s2, s3, s4, s5⟩ := endStep_spec o r h hb
    obtain ⟨i1, i2, i3, i4⟩ := ih (endStep o r) s1 s2
    refine ⟨i1, i2, fun z hz => i3 z (s3 z hz), fun x hx => ?_⟩
    rcases List.mem_cons.mp hx with rfl | hx
    · exact ⟨fun k1 k2 => i3 _ (s4 k1 k2), fun k1 k2 => i3 _ (s5 k1 k2)⟩
    · exact i4 x hx
theorem endsL_spec (l : List S60) : Ris (endsL l) ∧ (∀ z, z ∈ endsL l → 0 ≤ z ∧ z ≤ 1114112) ∧ (0 ∈ endsL l ∧ 1114112 ∈ endsL l) ∧
    ∀ r, r ∈ l → (0 < r.f0 → r.f0 < 1114112 → r.f0 ∈ endsL l) ∧ (0 ≤ r.f1 → r.f1 < 1114111 → r.f1 + 1 ∈ endsL l) := by
  obtain ⟨h1, h2, h3, h4⟩ := endsF_spec l [0, 1114112] ⟨fun y hy => by rw [List.mem_singleton.mp hy]; decide, fun y hy => absurd hy (by simp), trivial⟩
    (fun z hz => by rcases List.mem_cons.mp hz with rfl | hz; · decide
                    · rw [List.mem_singleton.mp hz]; decide)
  exact ⟨h1, h2, ⟨h3 0 (by simp), h3 1114112 (by simp)⟩, h4⟩
def segStep (o : List S60) (x y : Int) (h : Bool) : List S60 :=
  if h = true then (if 0 < o.length ∧ (G o (o.length - 1)).f1 = x - 1 then o.set (o.length - 1) ⟨(G o (o.length - 1)).f0, y - 1⟩ else o ++ [⟨x, y - 1⟩]) else o
def segs (P : Int → Bool) : List Int → List S60 → List S60
  | [], o => o
  | [_], o => o
  | x :: y :: l, o => segs P (y :: l) (segStep o x y (P x))
theorem segStep_spec (P : Int → Bool) (o : List S60) (x y : Int) (ho : St o) (hl : ∀ r, r ∈ o → r.f1 < x) (hx : 0 ≤ x) (hxy : x < y) (hy : y ≤ 1114112)
    (hi : ∀ c, inn o c ↔ P c = true ∧ 0 ≤ c ∧ c < x) (hP : ∀ c, x ≤ c → c < y → P c = P x) :
    St (segStep o x y (P x)) ∧ (∀ r, r ∈ segStep o x y (P x) → r.f1 < y) ∧ ∀ c, inn (segStep o x y (P x)) c ↔ P c = true ∧ 0 ≤ c ∧ c < y := by
  unfold segStep
  by_cases hp : P x = true
  · rw [if_pos hp]
    have hseg : ∀ c, (P c = true ∧ 0 ≤ c ∧ c < y) ↔ (P c = true ∧ 0 ≤ c ∧ c < x) ∨ (x ≤ c ∧ c ≤ y - 1) := by
      intro c
      constructor
      · rintro ⟨h1, h2, h3⟩
        by_cases hc : c < x
        · exact .inl ⟨h1, h2, hc⟩
        · exact .inr ⟨by omega, by omega⟩
      · rintro (⟨h1, h2, h3⟩ | ⟨h1, h2⟩)
        · exact ⟨h1, h2, by omega⟩
        · exact ⟨by rw [hP c h1 (by omega)]; exact hp, by omega, by omega⟩
    by_cases hc : 0 < o.length ∧ (G o (o.length - 1)).f1 = x - 1
    · rw [if_pos hc]
      obtain ⟨o', z, e, e1, e2⟩ := last_form o hc.1
      rw [e1, e2]
      have hc2 := hc.2
      rw [e1] at hc2
      clear e1 e2 hc
      subst e
      obtain ⟨q1, q2, q3, q4⟩ := (Rt_append o' z 0).mp ho.1
      refine ⟨⟨(Rt_append o' _ 0).mpr ⟨q1, q2, by show z.f0 ≤ y - 1; omega, q4⟩, fun r hr => ?_⟩, fun r hr => ?_, fun c => ?_⟩
      · rcases List.mem_append.mp hr with h | h
        · exact ho.2 r (List.mem_append_left _ h)
        · rw [List.mem_singleton.mp h]; exact ⟨q2, by show z.f0 ≤ y - 1; omega, by show y - 1 ≤ 1114111; omega⟩
      · rcases List.mem_append.mp hr with h | h
        · have := hl r (List.mem_append_left _ h); omega
        · rw [List.mem_singleton.mp h]; show y - 1 < y; omega
      · rw [hseg, ← hi, inn_append, inn_append, inn_cons, inn_cons, inn_nil, or_assoc]
        refine or_congr_right ?_
        show (z.f0 ≤ c ∧ c ≤ y - 1) ∨ False ↔ _
        rw [or_false, or_false]
        omega
    · rw [if_neg hc]
      refine ⟨⟨(Rt_append o _ 0).mpr ⟨ho.1, hx, by show x ≤ y - 1; omega, fun r hr => ?_⟩, fun r hr => ?_⟩, fun r hr => ?_, fun c => ?_⟩
      · show r.f1 + 2 ≤ x
        have h1 := hl r hr
        by_cases h2 : r.f1 + 1 = x
        · exfalso
          obtain ⟨o', z, e, e1, e2⟩ := last_form o (by cases o with | nil => exact absurd hr (by simp) | cons => simp)
          have h3 : z.f1 ≠ x - 1 := fun h => hc ⟨by rw [e]; simp, by rw [e1]; exact h⟩
          have hr' := hr
          rw [e] at hr'
          have ho1 := ho.1
          rw [e] at ho1
          obtain ⟨q1, q2, q3, q4⟩ := (Rt_append o' z 0).mp ho1
          rcases List.mem_append.mp hr' with h | h
          · have := q4 r h
            have := hl z (by rw [e]; simp)
            omega
          · rw [List.mem_singleton.mp h] at h2; omega
        · omega
      · rcases List.mem_append.mp hr with h | h
        · exact ho.2 r h
        · rw [List.mem_singleton.mp h]; exact ⟨hx, by show x ≤ y - 1; omega, by show y - 1 ≤ 1114111; omega⟩
      · rcases List.mem_append.mp hr with h | h
        · have := hl r h; omega
        · rw [List.mem_singleton.mp h]; show y - 1 < y; omega
      · rw [hseg, ← hi, inn_append, inn_cons, inn_nil, or_false]
  · rw [if_neg hp]
    refine ⟨ho, fun r hr => by have := hl r hr; omega, fun c => (hi c).trans ⟨?_, ?_⟩⟩
    · rintro ⟨h1, h2, h3⟩; exact ⟨h1, h2, by omega⟩
    · rintro ⟨h1, h2, h3⟩
      refine ⟨h1, h2, Decidable.byContradiction fun h => hp ?_⟩
      rw [← hP c (by omega) h3]; exact h1
theorem segs_spec (P : Int → Bool) (l : List Int) : ∀ (x : Int) (o : List S60), Ris (x :: l) → (∀ z, z ∈ x :: l → 0 ≤ z ∧ z ≤ 1114112) → 1114112 ∈ x :: l →
    (∀ a c, 0 ≤ a → a ≤ c → c ≤ 1114111 → (∀ z, z ∈ x :: l → z ≤ a ∨ c < z) → x ≤ a → P c = P a) →
    St o → (∀ r, r ∈ o → r.f1 < x) → (∀ c, inn o c ↔ P c = true ∧ 0 ≤ c ∧ c < x) →
    St (segs P (x :: l) o) ∧ ∀ c, inn (segs P (x :: l) o) c ↔ P c = true ∧ 0 ≤ c ∧ c ≤ 1114111 := by
  induction l with
  | nil =>
    intro x o _ _ hM _ ho _ hi
    have : x = 1114112 := (List.mem_singleton.mp hM).symm
    subst this
    exact ⟨ho, fun c => (hi c).trans ⟨fun ⟨a, b, c⟩ => ⟨a, b, by omega⟩, fun ⟨a, b, c⟩ => ⟨a, b, by omega⟩⟩⟩
  | cons y l ih =>
    intro x o hr hb hM hP ho hl hi
    have hxy : x < y := hr.1 y (.head _)
    have hx := hb x (.head _)
    have hy := hb y (.tail _ (.head _))
    obtain ⟨s1, s2, s3⟩ := segStep_spec P o x y ho hl hx.1 hxy hy.2 hi (fun c h1 h2 => hP x c hx.1 h1 (by omega) (fun z hz => by
      rcases List.mem_cons.mp hz with rfl | hz
      · exact .inl (Int.le_refl _)
      · rcases List.mem_cons.mp hz with rfl | hz
        · exact .inr h2
        · have := hr.2.1 z hz; exact .inr (by omega)) (Int.le_refl _))
    exact ih y _ hr.2 (fun z hz => hb z (.tail _ hz)) (by
      rcases List.mem_cons.mp hM with h | h
      · omega
      · exact h) (fun a c h1 h2 h3 h4 h5 => hP a c h1 h2 h3 (fun z hz => by
        rcases List.mem_cons.mp hz with rfl | hz
        · exact .inl (by omega)
        · exact h4 z hz) (by omega)) s1 s2 s3
def setL (P : Int → Bool) (all : List S60) : List S60 := segs P (endsL all) []
theorem has_const (all l : List S60) (hs : ∀ r, r ∈ l → r ∈ all) (a c : Int) (ha : 0 ≤ a) (hac : a ≤ c) (hc : c ≤ 1114111) (hz : ∀ z, z ∈ endsL all → z ≤ a ∨ c < z) : hasL l c = hasL l a := by
  rw [Bool.eq_iff_iff, hasL_iff, hasL_iff]
  have : inn l c ↔ inn l a := by
    constructor
    · rintro ⟨r, hr, h1, h2⟩
      obtain ⟨e1, e2⟩ := (endsL_spec all).2.2.2 r (hs r hr)
      refine ⟨r, hr, Decidable.byContradiction fun h => ?_, by omega⟩
      have := hz _ (e1 (by omega) (by omega))
      omega
    · rintro ⟨r, hr, h1, h2⟩
      obtain ⟨e1, e2⟩ := (endsL_spec all).2.2.2 r (hs r hr)
      refine ⟨r, hr, by omega, Decidable.byContradiction fun h => ?_⟩
      have := hz _ (e2 (by omega) (by omega))
      omega
  rw [this]
  constructor
  · rintro ⟨_, _, h⟩; exact ⟨ha, by omega, h⟩
  · rintro ⟨_, _, h⟩; exact ⟨by omega, hc, h⟩
theorem setL_spec (P : Int → Bool) (all : List S60) (hP : ∀ a c, 0 ≤ a → a ≤ c → c ≤ 1114111 → (∀ z, z ∈ endsL all → z ≤ a ∨ c < z) → P c = P a) :
    St (setL P all) ∧ ∀ c, inn (setL P all) c ↔ P c = true ∧ 0 ≤ c ∧ c ≤ 1114111 := by
  obtain ⟨h1, h2, ⟨h3, h4⟩, _⟩ := endsL_spec all
  unfold setL
  revert hP h1 h2 h3 h4
  generalize endsL all = at_
  intro hP h1 h2 h3 h4
  cases at_ with
  | nil => exact absurd h3 (by simp)
  | cons x l =>
    have hx : x = 0 := by
      rcases List.mem_cons.mp h3 with h | h
      · exact h.symm
      · have := h1.1 0 h
        have := h2 x (.head _)
        omega
    subst hx
    exact segs_spec P l 0 [] h1 h2 h4 (fun a c k1 k2 k3 k4 _ => hP a c k1 k2 k3 k4) ⟨trivial, fun x hx => absurd hx (by simp)⟩ (fun r hr => absurd hr (by simp))
      (fun c => by rw [inn_nil]; exact ⟨False.elim, fun ⟨_, a, b⟩ => by omega⟩)
end Go.Proofs.YtlihkebmonfefaaDoor.Sets

/- What the functions on ranges, and the document's ones, tell: each is the plain one. Conditions: bounds on lengths, and on the fuel. -/
import Derived.Test.YtlihkebmonfefaaDoorPGx0
import Derived.Test.YtlihkebmonfefaaDoorPGx7
import Derived.Test.YtlihkebmonfefaaDoorPGx9
import Derived.Test.YtlihkebmonfefaaDoorPGx10
import Derived.Test.YtlihkebmonfefaaDoorPGx14
import Derived.Test.YtlihkebmonfefaaDoorPlS
import Derived.Test.YtlihkebmonfefaaDoorHandOf
set_option linter.unusedSimpArgs false
set_option linter.unusedVariables false
namespace Go.Proofs.YtlihkebmonfefaaDoor.PfR
open Go.RowKit Go.Proofs.YtlihkebmonfefaaDoor.PG Go.Proofs.YtlihkebmonfefaaDoor.Sets Go.Proofs.YtlihkebmonfefaaDoor.HandOf Go.Proofs.YtlihkebmonfefaaDoorW.PrintWords Go.Proofs.YtlihkebmonfefaaDoorW.PrintLast
theorem wn (x : Int) (h0 : -9223372036854775808 ≤ x) (h1 : x < 9223372036854775808) : wrap64 x = x := by unfold wrap64; omega
theorem wj (j : Nat) (h : j < 4611686018427387904) : wrap64 ((j : Int) + 1) = ((j + 1 : Nat) : Int) := by rw [wn _ (by omega) (by omega)]; omega
theorem rdG (l : List S60) (j : Nat) : rd_T60 l (j : Int) = G l j := rfl
theorem drop_nil {α : Type} (l : List α) (j : Nat) (h : l.length = j + 0) : l.drop j = [] := List.drop_of_length_le (by omega)
def sameL : List S60 → List S60 → Bool
  | [], [] => true
  | x :: a, y :: b => (x.f0 == y.f0 && x.f1 == y.f1) && sameL a b
  | _, _ => false
theorem sameL_iff (a : List S60) : ∀ b, sameL a b = true ↔ a = b := by
  induction a with
  | nil => intro b; cases b <;> simp [sameL]
  | cons x a ih =>
    intro b
    cases b with
    | nil => simp [sameL]
    | cons y b =>
      rw [sameL, Bool.and_eq_true, ih, Bool.and_eq_true, beq_iff_eq, beq_iff_eq]
      constructor
      · rintro ⟨⟨h1, h2⟩, rfl⟩
        cases x; cases y; cases h1; cases h2; rfl
      · intro h
        cases h
        exact ⟨⟨rfl, rfl⟩, rfl⟩
theorem sameL_len (a b : List S60) (h : a.length ≠ b.length) : sameL a b = false := by
  rw [Bool.eq_false_iff]
  intro h2
  rw [(sameL_iff a b).mp h2] at h
  exact h rfl
theorem Same_l0 (a b : List S60) (hab : a.length = b.length) (hl : a.length < 4611686018427387904) : ∀ (d k j : Nat), a.length = j + d → d < k → spoolref05_Same.l0 k a b (j : Int) = some (sameL (a.drop j) (b.drop j)) := by
  intro d
  induction d with
  | zero =>
    intro k j h hk
    obtain ⟨k, rfl⟩ : ∃ k', k = k' + 1 := ⟨k - 1, by omega⟩
    rw [spoolref05_Same.l0, if_neg (by omega), drop_nil a j h, drop_nil b j (by omega)]
    rfl
  | succ d ih =>
    intro k j h hk
    obtain ⟨k, rfl⟩ : ∃ k', k = k' + 1 := ⟨k - 1, by omega⟩
    rw [spoolref05_Same.l0, if_pos (by omega), if_pos (by omega), if_pos (by omega), drop_G a j (by omega), drop_G b j (by omega), sameL, rdG, rdG, wj j (by omega), ih k (j + 1) (by omega) (by omega)]
    cases h1 : ((G a j).f0 == (G b j).f0) <;> cases h2 : ((G a j).f1 == (G b j).f1) <;> simp
theorem Same_f (a b : List S60) (hl : a.length < 4611686018427387904) (k : Nat) (hk : a.length < k) : spoolref05_Same.f k a b = some (sameL a b) := by
  unfold spoolref05_Same.f
  by_cases h : a.length = b.length
  · rw [if_pos (by omega)]
    exact Same_l0 a b h hl a.length k 0 (by omega) hk
  · rw [if_neg (by omega), sameL_len a b h]
theorem hasL_cons (x : S60) (l : List S60) (c : Int) : hasL (x :: l) c = ((decide (0 ≤ c) && decide (c ≤ 1114111) && (decide (x.f0 ≤ c) && decide (c ≤ x.f1))) || hasL l c) := by
  unfold hasL
  rw [List.any_cons, Bool.and_or_distrib_left]
theorem Has_l0 (l : List S60) (c : Int) (hl : l.length < 4611686018427387904) : ∀ (d k j : Nat), l.length = j + d → d < k → spoolref05_Has.l0 k l c (j : Int) = some (hasL (l.drop j) c) := by
  intro d
  induction d with
  | zero =>
    intro k j h hk
    obtain ⟨k, rfl⟩ : ∃ k', k = k' + 1 := ⟨k - 1, by omega⟩
    rw [spoolref05_Has.l0, if_neg (by omega), drop_nil l j h]
    simp [hasL]
  | succ d ih =>
    intro k j h hk
    obtain ⟨k, rfl⟩ : ∃ k', k = k' + 1 := ⟨k - 1, by omega⟩
    rw [spoolref05_Has.l0, if_pos (by omega), drop_G l j (by omega), hasL_cons, rdG, wj j (by omega), ih k (j + 1) (by omega) (by omega)]
    by_cases h0 : 0 ≤ c
    · rw [if_pos h0]
      by_cases h1 : c ≤ 1114111
      · rw [if_pos h1, if_pos (by omega)]
        by_cases h2 : (G l j).f0 ≤ c
        · rw [if_pos h2]
          by_cases h3 : c ≤ (G l j).f1
          · rw [if_pos h3]; simp [h0, h1, h2, h3]
          · rw [if_neg h3]; simp [h3]
        · rw [if_neg h2]; simp [h2]
      · rw [if_neg h1]; simp [h1]
    · rw [if_neg h0]; simp [h0]
theorem Has_f (l : List S60) (c : Int) (hl : l.length < 4611686018427387904) (k : Nat) (hk : l.length < k) : spoolref05_Has.f k l c = some (hasL l c) := Has_l0 l c hl l.length k 0 (by omega) hk
def holdsL (kind : Int) (a b : List S60) (c : Int) : Bool :=
  if kind = 1 then !hasL a c else if kind = 2 then hasL a c || hasL b c else if kind = 3 then hasL a c && hasL b c else if kind = 4 then hasL a c && !hasL b c else hasL a c
theorem holds_f (kind : Int) (a b : List S60) (c : Int) (ha : a.length < 4611686018427387904) (hb : b.length < 4611686018427387904) (k : Nat) (hka : a.length < k) (hkb : b.length < k) : spoolref05_holds.f k kind a b c = some (holdsL kind a b c) := by
  unfold spoolref05_holds.f holdsL
  rw [Has_f a c ha k hka, Has_f b c hb k hkb]
  by_cases h1 : kind = 1
  · rw [if_pos h1, if_pos h1]; rfl
  · rw [if_neg h1, if_neg h1]
    by_cases h2 : kind = 2
    · rw [if_pos h2, if_pos h2]; cases hasL a c <;> rfl
    · rw [if_neg h2, if_neg h2]
      by_cases h3 : kind = 3
      · rw [if_pos h3, if_pos h3]; cases hasL a c <;> rfl
      · rw [if_neg h3, if_neg h3]
        by_cases h4 : kind = 4
        · rw [if_pos h4, if_pos h4]; cases hasL a c <;> rfl
        · rw [if_neg h4, if_neg h4]; rfl
theorem drop_I (l : List Int) (j : Nat) (h : j < l.length) : l.drop j = rd l (j : Int) :: l.drop (j + 1) := by
  rw [List.drop_eq_getElem_cons h]
  congr 1
  show l[j] = l.getD j 0
  rw [List.getD_eq_getElem?_getD, List.getElem?_eq_getElem h]
  rfl
theorem put_l0 (l : List Int) (x : Int) (hl : l.length < 1000000000) : ∀ (d k j : Nat), l.length = j + d → d < k → spoolref05_put.l0 k l x (j : Int) = some (l.take j ++ putL (l.drop j) x) := by
  intro d
  induction d with
  | zero =>
    intro k j h hk
    obtain ⟨k, rfl⟩ : ∃ k', k = k' + 1 := ⟨k - 1, by omega⟩
    have e1 : ((j : Int)).toNat = j := rfl
    rw [spoolref05_put.l0, if_neg (by omega), drop_nil l j h, putL]
    simp only [Option.bind_some, List.nil_append, e1]
    rw [if_pos (by omega), if_pos (by omega), if_pos (by simp; omega), if_pos (by simp; omega), drop_nil l j h, if_pos (by simp; omega), List.append_nil]
  | succ d ih =>
    intro k j h hk
    obtain ⟨k, rfl⟩ : ∃ k', k = k' + 1 := ⟨k - 1, by omega⟩
    have e1 : ((j : Int)).toNat = j := rfl
    rw [spoolref05_put.l0, if_pos (by omega), if_pos (by omega), drop_I l j (by omega), putL]
    by_cases h1 : rd l (j : Int) < x
    · rw [if_pos h1, if_pos h1, wj j (by omega), ih k (j + 1) (by omega) (by omega)]
      have e : l.take (j + 1) = l.take j ++ [rd l (j : Int)] := by
        have := drop_I l j (by omega)
        rw [List.take_succ_eq_append_getElem (by omega : j < l.length)]
        rw [List.drop_eq_getElem_cons (by omega : j < l.length)] at this
        rw [(List.cons.inj this).1]
      rw [e, List.append_assoc]
      rfl
    · rw [if_neg h1, if_neg h1]
      by_cases h2 : rd l (j : Int) = x
      · rw [if_pos h2, if_pos h2, ← drop_I l j (by omega), List.take_append_drop]
      · rw [if_neg h2, if_neg h2]
        simp only [Option.bind_some, List.nil_append, e1]
        rw [if_pos (by omega), if_pos (by simp; omega), if_pos (by simp; omega), if_pos (by simp; omega), drop_I l j (by omega)]
        simp
theorem put_f (l : List Int) (x : Int) (hl : l.length < 1000000000) (k : Nat) (hk : l.length < k) : spoolref05_put.f k l x = some (putL l x) := put_l0 l x hl l.length k 0 (by omega) hk
theorem putL_len (l : List Int) (x : Int) : (putL l x).length ≤ l.length + 1 := by
  induction l with
  | nil => simp [putL]
  | cons y l ih =>
    rw [putL]
    split
    · simp only [List.length_cons]; omega
    · split <;> simp
theorem endStep_len (o : List Int) (r : S60) : (endStep o r).length ≤ o.length + 2 := by
  unfold endStep
  have h1 := putL_len o r.f0
  have h2 := putL_len o (r.f1 + 1)
  have h3 := putL_len (putL o r.f0) (r.f1 + 1)
  dsimp only
  (repeat' split) <;> omega
theorem ends_l0 (l : List S60) (hl : l.length < 100000000) : ∀ (d k j : Nat) (o : List Int), l.length = j + d → o.length + 4 * d + 4 < k → o.length + 2 * d < 900000000 → spoolref05_ends.l0 k l o (j : Int) = some ((l.drop j).foldl endStep o) := by
  intro d
  induction d with
  | zero =>
    intro k j o h hk _
    obtain ⟨k, rfl⟩ : ∃ k', k = k' + 1 := ⟨k - 1, by omega⟩
    rw [spoolref05_ends.l0, if_neg (by omega), drop_nil l j h]
    rfl
  | succ d ih =>
    intro k j o h hk ho
    obtain ⟨k, rfl⟩ : ∃ k', k = k' + 1 + 1 := ⟨k - 2, by omega⟩
    have hw : ∀ x : Int, 0 ≤ x → x < 1114111 → wrap64 (x + 1) = x + 1 := fun x h0 h1 => wn _ (by omega) (by omega)
    rw [spoolref05_ends.l0, if_pos (by omega), if_pos (by omega), drop_G l j (by omega), List.foldl_cons, rdG]
    have hstep := endStep_len o (G l j)
    have hih := ih k (j + 1) (endStep o (G l j)) (by omega) (by omega) (by omega)
    rw [← hih]
    unfold endStep
    have hsecond : ∀ o1 : List Int, o1.length ≤ o.length + 1 → (if (G l j).f1 ≥ 0 then (if (G l j).f1 < 1114111 then ((spoolref05_put.f k o1 (wrap64 ((G l j).f1 + 1))).bind fun t178 => (spoolref05_ends.l0 k l t178 (wrap64 ((j : Int) + 1)))) else (spoolref05_ends.l0 k l o1 (wrap64 ((j : Int) + 1)))) else (spoolref05_ends.l0 k l o1 (wrap64 ((j : Int) + 1)))) = spoolref05_ends.l0 k l (if 0 ≤ (G l j).f1 ∧ (G l j).f1 < 1114111 then putL o1 ((G l j).f1 + 1) else o1) ((j + 1 : Nat) : Int) := by
      intro o1 h1
      rw [wj j (by omega)]
      by_cases c1 : (G l j).f1 ≥ 0
      · rw [if_pos c1]
        by_cases c2 : (G l j).f1 < 1114111
        · rw [if_pos c2, if_pos ⟨c1, c2⟩, hw _ c1 c2, put_f o1 _ (by omega) k (by omega)]
          rfl
        · rw [if_neg c2, if_neg (fun hh => c2 hh.2)]
      · rw [if_neg c1, if_neg (fun hh => c1 hh.1)]
    by_cases c1 : (G l j).f0 > 0
    · rw [if_pos c1]
      by_cases c2 : (G l j).f0 < 1114112
      · rw [decide_eq_true c2, spoolref05_ends.j1, if_pos rfl, if_pos (by omega), if_pos (by omega), rdG, put_f o _ (by omega) k (by omega)]
        simp only [Option.bind_some]
        rw [hsecond _ (putL_len _ _)]
        simp only [gt_iff_lt] at c1
        simp only [c1, c2, and_self, if_true]
      · rw [decide_eq_false c2, spoolref05_ends.j1, if_neg (by decide), if_pos (by omega), if_pos (by omega), rdG]
        rw [hsecond _ (by omega)]
        simp only [c2, and_false, if_false]
    · rw [if_neg c1, spoolref05_ends.j1, if_neg (by decide), if_pos (by omega), if_pos (by omega), rdG]
      rw [hsecond _ (by omega)]
      simp only [gt_iff_lt] at c1
      simp only [c1, false_and, if_false]
theorem ends_f (l : List S60) (hl : l.length < 100000000) (k : Nat) (hk : 4 * l.length + 6 < k) : spoolref05_ends.f k l = some (endsL l) := ends_l0 l hl l.length k 0 [0, 1114112] (by omega) (by simp; omega) (by simp; omega)
theorem endsL_len (l : List S60) : ∀ o : List Int, (l.foldl endStep o).length ≤ o.length + 2 * l.length := by
  induction l with
  | nil => intro o; simp
  | cons r l ih => intro o; have := ih (endStep o r); have := endStep_len o r; rw [List.foldl_cons, List.length_cons]; omega
theorem segStep_len (o : List S60) (x y : Int) (h : Bool) : (segStep o x y h).length ≤ o.length + 1 := by
  unfold segStep
  (repeat' split) <;> simp
theorem Set_l0 (kind : Int) (a b : List S60) (at_ : List Int) (ha : a.length < 100000000) (hb : b.length < 100000000) (hat : at_.length < 1000000000) (hz : ∀ z, z ∈ at_ → 0 ≤ z ∧ z ≤ 1114112) (h0 : 0 < at_.length) :
    ∀ (d k j : Nat) (o : List S60), at_.length = j + d + 1 → d + a.length + b.length < k → o.length ≤ j → spoolref05_Set.l0 k kind a b at_ o (j : Int) = some (segs (holdsL kind a b) (at_.drop j) o) := by
  intro d
  induction d with
  | zero =>
    intro k j o h hk ho
    obtain ⟨k, rfl⟩ : ∃ k', k = k' + 1 := ⟨k - 1, by omega⟩
    rw [spoolref05_Set.l0, wj j (by omega), if_neg (by omega), drop_I at_ j (by omega), List.drop_of_length_le (by omega)]
    rfl
  | succ d ih =>
    intro k j o h hk ho
    obtain ⟨k, rfl⟩ : ∃ k', k = k' + 1 := ⟨k - 1, by omega⟩
    have hx : rd at_ (j : Int) ∈ at_ := by
      have := drop_I at_ j (by omega)
      exact List.mem_of_mem_drop (i := j) (by rw [this]; exact .head _)
    have hy : rd at_ ((j + 1 : Nat) : Int) ∈ at_ := by
      have := drop_I at_ (j + 1) (by omega)
      exact List.mem_of_mem_drop (i := j + 1) (by rw [this]; exact .head _)
    have hzx := hz _ hx
    have hzy := hz _ hy
    rw [spoolref05_Set.l0, wj j (by omega), if_pos (by omega), if_pos (by omega), if_pos (by omega), holds_f kind a b _ (by omega) (by omega) k (by omega) (by omega)]
    rw [drop_I at_ j (by omega), drop_I at_ (j + 1) (by omega), segs]
    rw [← drop_I at_ (j + 1) (by omega)]
    have hih := fun o1 ho1 => ih k (j + 1) o1 (by omega) (by omega) ho1
    simp only [Option.bind_some]
    generalize rd at_ (j : Int) = x at hzx ⊢
    generalize rd at_ ((j + 1 : Nat) : Int) = y at hzy ⊢
    rw [wn (x - 1) (by omega) (by omega), wn (y - 1) (by omega) (by omega)]
    unfold segStep
    by_cases c1 : holdsL kind a b x = true
    · rw [if_pos c1, if_pos c1]
      by_cases c2 : 0 < o.length
      · have e : wrap64 ((o.length : Int) - 1) = ((o.length - 1 : Nat) : Int) := by rw [wn _ (by omega) (by omega)]; omega
        rw [e, if_pos (by omega), if_pos (by omega), if_pos (by omega), rdG]
        by_cases c3 : (G o (o.length - 1)).f1 = x - 1
        · rw [if_pos c3, if_pos (by omega), if_pos ⟨c2, c3⟩, hih _ (by simp; omega)]
          rfl
        · rw [if_neg c3, if_pos (by omega), if_pos (by omega), if_neg (fun hh => c3 hh.2), hih _ (by simp; omega)]
      · have e0 : o.length = 0 := by omega
        have e : wrap64 ((o.length : Int) - 1) = -1 := by rw [wn _ (by omega) (by omega), e0]; rfl
        rw [e, if_neg (by omega), if_pos (by omega), if_pos (by omega), if_neg (fun hh => c2 hh.1), hih _ (by simp; omega)]
    · rw [if_neg c1, if_neg c1, hih _ (by omega)]
theorem Set_f (kind : Int) (a b : List S60) (ha : a.length ≤ 10000000) (hb : b.length ≤ 10000000) (k : Nat) (hk : 8 * (a.length + b.length) + 100 < k) : spoolref05_Set.f k kind a b = some (setL (holdsL kind a b) (a ++ b)) := by
  unfold spoolref05_Set.f
  have hlen : (a ++ b).length = a.length + b.length := List.length_append
  rw [if_pos (by simp; omega)]
  simp only [Option.bind_some, List.nil_append]
  rw [if_pos (by omega), ends_f (a ++ b) (by omega) k (by omega)]
  obtain ⟨_, h2, ⟨h3, _⟩, _⟩ := endsL_spec (a ++ b)
  have hl2 : (endsL (a ++ b)).length ≤ 2 + 2 * (a ++ b).length := endsL_len (a ++ b) [0, 1114112]
  have hpos : 0 < (endsL (a ++ b)).length := List.length_pos_iff.mpr (fun e => by rw [e] at h3; cases h3)
  exact Set_l0 kind a b (endsL (a ++ b)) (by omega) (by omega) (by omega) h2 hpos ((endsL (a ++ b)).length - 1) k 0 [] (by omega) (by omega) (by simp)
theorem Right_l0 (l : List S60) (hl : l.length < 4611686018427387904) : ∀ (d k j : Nat) (m : Int), l.length = j + d → d < k → 0 ≤ m → ranges_Right.l0 k m l (l.length : Int) (j : Int) = some (rightL m (l.drop j)) := by
  intro d
  induction d with
  | zero =>
    intro k j m h hk _
    obtain ⟨k, rfl⟩ : ∃ k', k = k' + 1 := ⟨k - 1, by omega⟩
    rw [ranges_Right.l0, if_neg (by omega), drop_nil l j h]
    rfl
  | succ d ih =>
    intro k j m h hk hm
    obtain ⟨k, rfl⟩ : ∃ k', k = k' + 1 := ⟨k - 1, by omega⟩
    rw [ranges_Right.l0, if_pos (by omega), if_pos (by omega), if_pos (by omega), drop_G l j (by omega), rightL, rdG, wj j (by omega)]
    by_cases c1 : (G l j).f0 < m
    · rw [if_pos c1, if_pos (.inl c1)]
    · rw [if_neg c1]
      by_cases c2 : (G l j).f1 < (G l j).f0
      · rw [if_pos c2, if_pos (.inr (.inl c2))]
      · rw [if_neg c2]
        by_cases c3 : (G l j).f1 > 1114111
        · rw [if_pos c3, if_pos (.inr (.inr c3))]
        · rw [if_neg c3, if_neg (by omega), wn ((G l j).f1 + 2) (by omega) (by omega), ih k (j + 1) _ (by omega) (by omega) (by omega)]
theorem Right_f (l : List S60) (hl : l.length < 4611686018427387904) (k : Nat) (hk : l.length < k) : ranges_Right.f k l = some (rightL 0 l) := Right_l0 l hl l.length k 0 0 (by omega) hk (by omega)
theorem segs_len (P : Int → Bool) (at_ : List Int) : ∀ o : List S60, (segs P at_ o).length ≤ o.length + at_.length := by
  induction at_ with
  | nil => intro o; exact Nat.le_add_right _ _
  | cons x l ih =>
    intro o
    cases l with
    | nil => exact Nat.le_add_right _ _
    | cons y l =>
      have h1 := ih (segStep o x y (P x))
      have h2 := segStep_len o x y (P x)
      rw [segs, List.length_cons]
      omega
theorem setL_len (P : Int → Bool) (all : List S60) : (setL P all).length ≤ 2 + 2 * all.length := by
  have h1 := segs_len P (endsL all) []
  have h2 : (endsL all).length ≤ 2 + 2 * all.length := endsL_len all [0, 1114112]
  rw [setL]
  simp only [List.length_nil] at h1
  omega
theorem Of_f (l : List S60) (hl : l.length < 8796093022208) : ranges_Of.f l = some (ofL l) := if_pos hl
theorem setL_of (kind : Int) (a b : List S60) : St (setL (holdsL kind a b) (a ++ b)) ∧ ∀ c, inn (setL (holdsL kind a b) (a ++ b)) c ↔ holdsL kind a b c = true ∧ 0 ≤ c ∧ c ≤ 1114111 := by
  refine setL_spec _ _ (fun x c h0 h1 h2 hz => ?_)
  have ea := has_const (a ++ b) a (fun r hr => List.mem_append_left _ hr) x c h0 h1 h2 hz
  have eb := has_const (a ++ b) b (fun r hr => List.mem_append_right _ hr) x c h0 h1 h2 hz
  unfold holdsL
  rw [ea, eb]
theorem set0_eq (l : List S60) : setL (holdsL 0 l []) (l ++ []) = ofL l := by
  obtain ⟨h1, h2⟩ := setL_of 0 l []
  refine h1.same (ofL_St l) (fun c c0 c1 => ?_)
  rw [h2, ofL_inn l c c0 c1]
  show hasL l c = true ∧ _ ↔ _
  rw [hasL_iff]
  simp only [c0, c1, true_and, and_true]
theorem Set0_f (l : List S60) (hl : l.length ≤ 10000000) (k : Nat) (hk : 8 * l.length + 100 < k) : spoolref05_Set.f k 0 l [] = some (ofL l) := by
  rw [Set_f 0 l [] hl (by simp) k (by simp; omega), set0_eq]
theorem RRight_f (l : List S60) (hl : l.length ≤ 10000000) (k : Nat) (hk : 8 * l.length + 100 < k) : spoolref05_Right.f k l = some (rightL 0 l) := by
  unfold spoolref05_Right.f
  rw [Set0_f l hl k hk]
  simp only [Option.bind_some]
  rw [Same_f l (ofL l) (by omega) k (by omega)]
  simp only [Option.bind_some]
  congr 1
  rw [Bool.eq_iff_iff, sameL_iff, rightL_iff l 0 (Int.le_refl _)]
  constructor
  · intro e; rw [e]; exact ofL_St l
  · intro h; exact (ofL_self h).symm
end Go.Proofs.YtlihkebmonfefaaDoor.PfR

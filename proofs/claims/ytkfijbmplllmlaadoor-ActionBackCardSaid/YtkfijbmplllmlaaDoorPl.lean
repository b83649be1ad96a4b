/- Plain facts about strings of bytes: where a run of bytes of one kind ends, and the words of a line. No program in sight. -/
import Derived.Test.YtkfijbmplllmlaaDoorWWords
namespace Go.Proofs.YtkfijbmplllmlaaDoor.Pl
open Go.RowKit Go.Proofs.YtkfijbmplllmlaaDoorW.PrintWords

/-! ### where a run of bytes ends -/
def runN (p : Int → Bool) (s : ByteArray) : Nat → Nat → Nat
  | 0, i => i
  | d + 1, i => if p (bt s (i : Int)) = true then runN p s d (i + 1) else i
def run (p : Int → Bool) (s : ByteArray) (i : Nat) : Nat := runN p s (s.size - i) i

theorem run_next {p : Int → Bool} {s : ByteArray} {i : Nat} (h : i < s.size) (hp : p (bt s (i : Int)) = true) : run p s i = run p s (i + 1) := by
  unfold run
  rw [show s.size - i = s.size - (i + 1) + 1 by omega, runN, if_pos hp]
theorem run_here {p : Int → Bool} {s : ByteArray} {i : Nat} (h : i < s.size) (hp : p (bt s (i : Int)) = false) : run p s i = i := by
  unfold run
  rw [show s.size - i = s.size - (i + 1) + 1 by omega, runN, if_neg (by simp [hp])]
theorem run_end {p : Int → Bool} {s : ByteArray} {i : Nat} (h : s.size ≤ i) : run p s i = i := by
  unfold run
  rw [show s.size - i = 0 by omega, runN]
/-- A run is told by its rounds. -/
theorem run_ind {p : Int → Bool} {s : ByteArray} {M : Nat → Prop} (h1 : ∀ i, i < s.size → p (bt s (i : Int)) = true → M (i + 1) → M i) (h2 : ∀ i, i < s.size → p (bt s (i : Int)) = false → M i) (h3 : ∀ i, s.size ≤ i → M i) (i : Nat) : M i := by
  generalize hd : s.size - i = d
  induction d generalizing i with
  | zero => exact h3 i (by omega)
  | succ d ih =>
    cases hp : p (bt s (i : Int)) with
    | true => exact h1 i (by omega) hp (ih (i + 1) (by omega))
    | false => exact h2 i (by omega) hp
theorem run_ge (p : Int → Bool) (s : ByteArray) (i : Nat) : i ≤ run p s i := by
  refine run_ind (p := p) (s := s) (M := fun i => i ≤ run p s i) (fun i h hp ih => ?_) (fun i h hp => ?_) (fun i h => ?_) i
  · rw [run_next h hp]; omega
  · rw [run_here h hp]; omega
  · rw [run_end h]; omega
theorem run_le (p : Int → Bool) (s : ByteArray) (i : Nat) (hi : i ≤ s.size) : run p s i ≤ s.size := by
  refine run_ind (p := p) (s := s) (M := fun i => i ≤ s.size → run p s i ≤ s.size) (fun i h hp ih _ => ?_) (fun i h hp _ => ?_) (fun i h _ => ?_) i hi
  · rw [run_next h hp]; exact ih (by omega)
  · rw [run_here h hp]; omega
  · rw [run_end h]; omega
theorem run_all (p : Int → Bool) (s : ByteArray) (i : Nat) : ∀ j : Nat, i ≤ j → j < run p s i → p (bt s (j : Int)) = true := by
  refine run_ind (p := p) (s := s) (M := fun i => ∀ j : Nat, i ≤ j → j < run p s i → p (bt s (j : Int)) = true) (fun i h hp ih j h1 h2 => ?_) (fun i h hp j h1 h2 => ?_) (fun i h j h1 h2 => ?_) i
  · rw [run_next h hp] at h2
    by_cases e : j = i
    · subst e; exact hp
    · exact ih j (by omega) h2
  · rw [run_here h hp] at h2; omega
  · rw [run_end h] at h2; omega
theorem run_same (p : Int → Bool) (s : ByteArray) (i : Nat) (d : Nat) : ∀ j, j - i = d → i ≤ j → j ≤ s.size → (∀ k : Nat, i ≤ k → k < j → p (bt s (k : Int)) = true) → run p s i = run p s j := by
  induction d with
  | zero => intro j hd h1 h2 h; have : j = i := by omega
            rw [this]
  | succ d ih =>
    intro j hd h1 h2 h
    rw [ih (j - 1) (by omega) (by omega) (by omega) (fun k a b => h k a (by omega))]
    have := run_next (p := p) (s := s) (i := j - 1) (by omega) (h (j - 1) (by omega) (by omega))
    rw [this, show j - 1 + 1 = j by omega]
theorem run_eq (p : Int → Bool) (s : ByteArray) (i j : Nat) (h1 : i ≤ j) (h2 : j ≤ s.size) (h : ∀ k : Nat, i ≤ k → k < j → p (bt s (k : Int)) = true) (hs : j < s.size → p (bt s (j : Int)) = false) : run p s i = j := by
  rw [run_same p s i _ j rfl h1 h2 h]
  by_cases e : j < s.size
  · exact run_here e (hs e)
  · exact run_end (by omega)

/-! ### a text from a byte on -/
theorem size_from (s : ByteArray) (a : Nat) : (s.extract a s.size).size = s.size - a := by simp
theorem bt_from (s : ByteArray) (a k : Nat) (h : a + k < s.size) : bt (s.extract a s.size) (k : Int) = bt s ((a + k : Nat) : Int) := by
  have h1 : k < (s.extract a s.size).size := by rw [size_from]; omega
  unfold bt
  rw [dif_pos (by simpa using h1), dif_pos (by rw [Int.toNat_natCast]; exact h)]
  simp only [Int.toNat_natCast, ByteArray.getElem_extract]
theorem run_from (p : Int → Bool) (s : ByteArray) (a : Nat) (ha : a ≤ s.size) (d : Nat) : ∀ k, s.size - (a + k) = d → a + k ≤ s.size → a + run p (s.extract a s.size) k = run p s (a + k) := by
  induction d with
  | zero =>
    intro k hd hk
    rw [run_end (by rw [size_from]; omega), run_end (by omega)]
  | succ d ih =>
    intro k hd hk
    have hb := bt_from s a k (by omega)
    cases hp : p (bt s ((a + k : Nat) : Int)) with
    | true => rw [run_next (by rw [size_from]; omega) (by rw [hb]; exact hp), run_next (i := a + k) (by omega) hp]; exact ih (k + 1) (by omega) (by omega)
    | false => rw [run_here (by rw [size_from]; omega) (by rw [hb]; exact hp), run_here (i := a + k) (by omega) hp]

/-! ### words -/
def bl (c : Int) : Bool := c == 32 || c == 9
def nb (c : Int) : Bool := !bl c
def fromW (s : ByteArray) (i : Nat) : Nat := run bl s i
def toW (s : ByteArray) (i : Nat) : Nat := run nb s (fromW s i)
theorem fromW_ge (s : ByteArray) (i : Nat) : i ≤ fromW s i := run_ge _ _ _
theorem toW_ge (s : ByteArray) (i : Nat) : fromW s i ≤ toW s i := run_ge _ _ _
theorem fromW_le (s : ByteArray) (i : Nat) (h : i ≤ s.size) : fromW s i ≤ s.size := run_le _ _ _ h
theorem toW_le (s : ByteArray) (i : Nat) (h : i ≤ s.size) : toW s i ≤ s.size := run_le _ _ _ (fromW_le s i h)
theorem toW_lt (s : ByteArray) (i : Nat) (h : fromW s i < toW s i) : i < s.size := by
  by_cases e : i < s.size
  · exact e
  · have h1 : fromW s i = i := run_end (by omega)
    have h2 : toW s i = fromW s i := run_end (by omega)
    omega
def allN (s : ByteArray) : Nat → Nat → List (Nat × Nat)
  | 0, _ => []
  | d + 1, i => if fromW s i < toW s i then (fromW s i, toW s i) :: allN s d (toW s i) else []
theorem allN_two (s : ByteArray) (d : Nat) : ∀ e i, s.size - i ≤ d → s.size - i ≤ e → allN s d i = allN s e i := by
  induction d with
  | zero =>
    intro e i h _
    have h1 : ¬ fromW s i < toW s i := fun h1 => by have := toW_lt s i h1; omega
    cases e with
    | zero => rfl
    | succ e => rw [allN, allN, if_neg h1]
  | succ d ih =>
    intro e i h he
    cases e with
    | zero =>
      have h1 : ¬ fromW s i < toW s i := fun h1 => by have := toW_lt s i h1; omega
      rw [allN, allN, if_neg h1]
    | succ e =>
      rw [allN, allN]
      by_cases q : fromW s i < toW s i
      · have h1 := toW_lt s i q
        have h2 := fromW_ge s i
        rw [if_pos q, if_pos q, ih e (toW s i) (by omega) (by omega)]
      · rw [if_neg q, if_neg q]
theorem allN_more (s : ByteArray) (d : Nat) (i : Nat) (h : s.size - i ≤ d) : allN s d i = allN s (s.size - i) i := allN_two s d _ i h (Nat.le_refl _)
def allW (s : ByteArray) (i : Nat) : List (Nat × Nat) := allN s (s.size - i) i
theorem allW_eq (s : ByteArray) (i : Nat) : allW s i = if fromW s i < toW s i then (fromW s i, toW s i) :: allW s (toW s i) else [] := by
  unfold allW
  by_cases e : fromW s i < toW s i
  · have h1 := toW_lt s i e
    have h2 := fromW_ge s i
    rw [if_pos e, show s.size - i = s.size - (i + 1) + 1 by omega, allN, if_pos e, allN_more s (s.size - (i + 1)) (toW s i) (by omega)]
  · rw [if_neg e]
    by_cases q : s.size - i = 0
    · rw [q, allN]
    · rw [show s.size - i = s.size - (i + 1) + 1 by omega, allN, if_neg e]
/-- A word's numbers as a slice's cells. -/
def pairs (l : List (Nat × Nat)) : List Value := l.flatMap fun x => [.int .i64 (x.1 : Int), .int .i64 (x.2 : Int)]
theorem pairs_length (l : List (Nat × Nat)) : (pairs l).length = l.length * 2 := by
  induction l with
  | nil => rfl
  | cons x l ih => simp only [pairs, List.flatMap_cons, List.length_append, List.length_cons, List.length_nil] at ih ⊢; omega
theorem pairs_append (l m : List (Nat × Nat)) : pairs (l ++ m) = pairs l ++ pairs m := by simp [pairs]
theorem pairs_drop (l : List (Nat × Nat)) : ∀ (j : Nat) (x : Nat × Nat), l[j]? = some x → ((pairs l).drop (j * 2)).take 2 = [.int .i64 (x.1 : Int), .int .i64 (x.2 : Int)] := by
  induction l with
  | nil => intro j x h; simp at h
  | cons y l ih =>
    intro j x h
    cases j with
    | zero =>
      simp only [List.getElem?_cons_zero, Option.some.injEq] at h
      subst h
      rfl
    | succ j =>
      rw [List.getElem?_cons_succ] at h
      rw [show (j + 1) * 2 = j * 2 + 2 by omega]
      exact ih j x h
theorem fromW_here {s : ByteArray} {i : Nat} (h : i < s.size) (hb : bl (bt s (i : Int)) = false) : fromW s i = i := run_here h hb
theorem nb_of {c : Int} (h : bl c = false) : nb c = true := by simp [nb, h]
theorem allW_end {s : ByteArray} {i : Nat} (h : s.size ≤ i) : allW s i = [] := by
  have e : fromW s i = i := run_end h
  have e2 : toW s i = i := by unfold toW; rw [e]; exact run_end h
  rw [allW_eq, if_neg (by omega)]
/-- Words are told one by one. -/
theorem allW_ind {s : ByteArray} {M : Nat → Prop} (h1 : ∀ i, fromW s i < toW s i → M (toW s i) → M i) (h2 : ∀ i, ¬ fromW s i < toW s i → M i) (i : Nat) : M i := by
  generalize hd : s.size - i = d
  induction d using Nat.strongRecOn generalizing i with
  | _ d ih =>
    by_cases q : fromW s i < toW s i
    · have h3 := toW_lt s i q
      have h4 := fromW_ge s i
      exact h1 i q (ih (s.size - toW s i) (by omega) (toW s i) rfl)
    · exact h2 i q
end Go.Proofs.YtkfijbmplllmlaaDoor.Pl

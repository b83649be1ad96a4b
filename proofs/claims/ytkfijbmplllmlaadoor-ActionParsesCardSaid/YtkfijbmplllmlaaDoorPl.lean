/- Plain facts about strings of bytes: where a run of bytes of one kind ends, and the words of a line. No program in sight. -/
import Derived.Test.YtkfijbmplllmlaaDoorWWords
namespace Go.Proofs.YtkfijbmplllmlaaDoor.Pl
open Go.RowKit Go.Proofs.YtkfijbmplllmlaaDoorW.PrintWords

/-! ### where a run of bytes ends -/
def runN (p : Int → Bool) (s : ByteArray) : Nat → Nat → Nat
  | 0, i => i
  | d + 1, i => if p (bt s (i : Int)) = true then runN p s d (i + 1) else i
def run (p : Int → Bool) (s : ByteArray) (i : Nat) : Nat := runN p s (s.size - i) i

theorem run_next {p : Int → Bool} {s : ByteArray} {i : Nat} (h : i < s.size) (hp : p (bt s (i : Int)) = true) : run p s i = run p s (i + 1) := by
  unfold run
  rw [show s.size - i = s.size - (i + 1) + 1 by omega, runN, if_pos hp]
theorem run_here {p : Int → Bool} {s : ByteArray} {i : Nat} (h : i < s.size) (hp : p (bt s (i : Int)) = false) : run p s i = i := by
  unfold run
  rw [show s.size - i = s.size - (i + 1) + 1 by omega, runN, if_neg (by simp [hp])]
theorem run_end {p : Int → Bool} {s : ByteArray} {i : Nat} (h : s.size ≤ i) : run p s i = i := by
  unfold run
  rw [show s.size - i = 0 by omega, runN]
/-- A run is told by its rounds. -/
theorem run_ind {p : Int → Bool} {s : ByteArray} {M : Nat → Prop} (h1 : ∀ i, i < s.size → p (bt s (i : Int)) = true → M (i + 1) → M i) (h2 : ∀ i, i < s.size → p (bt s (i : Int)) = false → M i) (h3 : ∀ i, s.size ≤ i → M i) (i : Nat) : M i := by
  generalize hd : s.size - i = d
  induction d generalizing i with
  | zero => exact h3 i (by omega)
  | succ d ih =>
    cases hp : p (bt s (i : Int)) with
    | true => exact h1 i (by omega) hp (ih (i + 1) (by omega))
    | false => exact h2 i (by omega) hp
theorem run_ge (p : Int → Bool) (s : ByteArray) (i : Nat) : i ≤ run p s i := by
  refine run_ind (p := p) (s := s) (M := fun i => i ≤ run p s i) (fun i h hp ih => ?_) (fun i h hp => ?_) (fun i h => ?_) i
  · rw [run_next h hp]; omega
  · rw [run_here h hp]; omega
  · rw [run_end h]; omega
theorem run_le (p : Int → Bool) (s : ByteArray) (i : Nat) (hi : i ≤ s.size) : run p s i ≤ s.size := by
  refine run_ind (p := p) (s := s) (M := fun i => i ≤ s.size → run p s i ≤ s.size) (fun i h hp ih _ => ?_) (fun i h hp _ => ?_) (fun i h _ => ?_) i hi
  · rw [run_next h hp]; exact ih (by omega)
  · rw [run_here h hp]; omega
  · rw [run_end h]; omega
/-! ### a text from a byte on -/
theorem size_from (s : ByteArray) (a : Nat) : (s.extract a s.size).size = s.size - a := by simp
theorem bt_from (s : ByteArray) (a k : Nat) (h : a + k < s.size) : bt (s.extract a s.size) (k : Int) = bt s ((a + k : Nat) : Int) := by
  have h1 : k < (s.extract a s.size).size := by rw [size_from]; omega
  unfold bt
  rw [dif_pos (by simpa using h1), dif_pos (by rw [Int.toNat_natCast]; exact h)]
  simp only [Int.toNat_natCast, ByteArray.getElem_extract]
theorem run_from (p : Int → Bool) (s : ByteArray) (a : Nat) (ha : a ≤ s.size) (d : Nat) : ∀ k, s.size - (a + k) = d → a + k ≤ s.size → a + run p (s.extract a s.size) k = run p s (a + k) := by
  induction d with
  | zero =>
    intro k hd hk
    rw [run_end (by rw [size_from]; omega), run_end (by omega)]
  | succ d ih =>
    intro k hd hk
    have hb := bt_from s a k (by omega)
    cases hp : p (bt s ((a + k : Nat) : Int)) with
    | true => rw [run_next (by rw [size_from]; omega) (by rw [hb]; exact hp), run_next (i := a + k) (by omega) hp]; exact ih (k + 1) (by omega) (by omega)
    | false => rw [run_here (by rw [size_from]; omega) (by rw [hb]; exact hp), run_here (i := a + k) (by omega) hp]

/-! ### words -/
def bl (c : Int) : Bool := c == 32 || c == 9
def nb (c : Int) : Bool := !bl c
def fromW (s : ByteArray) (i : Nat) : Nat := run bl s i
def toW (s : ByteArray) (i : Nat) : Nat := run nb s (fromW s i)
theorem fromW_ge (s : ByteArray) (i : Nat) : i ≤ fromW s i := run_ge _ _ _
theorem toW_ge (s : ByteArray) (i : Nat) : fromW s i ≤ toW s i := run_ge _ _ _
theorem fromW_le (s : ByteArray) (i : Nat) (h : i ≤ s.size) : fromW s i ≤ s.size := run_le _ _ _ h
theorem toW_le (s : ByteArray) (i : Nat) (h : i ≤ s.size) : toW s i ≤ s.size := run_le _ _ _ (fromW_le s i h)
theorem toW_lt (s : ByteArray) (i : Nat) (h : fromW s i < toW s i) : i < s.size := by
  by_cases e : i < s.size
  · exact e
  · have h1 : fromW s i = i := run_end (by omega)
    have h2 : toW s i = fromW s i := run_end (by omega)
    omega
def allN (s : ByteArray) : Nat → Nat → List (Nat × Nat)
  | 0, _ => []
  | d + 1, i => if fromW s i < toW s i then (fromW s i, toW s i) :: allN s d (toW s i) else []
theorem allN_two (s : ByteArray) (d : Nat) : ∀ e i, s.size - i ≤ d → s.size - i ≤ e → allN s d i = allN s e i := by
  induction d with
  | zero =>
    intro e i h _
    have h1 : ¬ fromW s i < toW s i := fun h1 => by have := toW_lt s i h1; omega
    cases e with
    | zero => rfl
    | succ e => rw [allN, allN, if_neg h1]
  | succ d ih =>
    intro e i h he
    cases e with
    | zero =>
      have h1 : ¬ fromW s i < toW s i := fun h1 => by have := toW_lt s i h1; omega
      rw [allN, allN, if_neg h1]
    | succ e =>
      rw [allN, allN]
      by_cases q : fromW s i < toW s i
      · have h1 := toW_lt s i q
        have h2 := fromW_ge s i
        rw [if_pos q, if_pos q, ih e (toW s i) (by omega) (by omega)]
      · rw [if_neg q, if_neg q]
theorem allN_more (s : ByteArray) (d : Nat) (i : Nat) (h : s.size - i ≤ d) : allN s d i = allN s (s.size - i) i := allN_two s d _ i h (Nat.le_refl _)
def allW (s : ByteArray) (i : Nat) : List (Nat × Nat) := allN s (s.size - i) i
theorem allW_eq (s : ByteArray) (i : Nat) : allW s i = if fromW s i < toW s i then (fromW s i, toW s i) :: allW s (toW s i) else [] := by
  unfold allW
  by_cases e : fromW s i < toW s i
  · have h1 := toW_lt s i e
    have h2 := fromW_ge s i
    rw [if_pos e, show s.size - i = s.size - (i + 1) + 1 by omega, allN, if_pos e, allN_more s (s.size - (i + 1)) (toW s i) (by omega)]
  · rw [if_neg e]
    by_cases q : s.size - i = 0
    · rw [q, allN]
    · rw [show s.size - i = s.size - (i + 1) + 1 by omega, allN, if_neg e]
/-- A word's numbers as a slice's cells. -/
def pairs (l : List (Nat × Nat)) : List Value := l.flatMap fun x => [.int .i64 (x.1 : Int), .int .i64 (x.2 : Int)]
theorem pairs_length (l : List (Nat × Nat)) : (pairs l).length = l.length * 2 := by
  induction l with
  | nil => rfl
  | cons x l ih => simp only [pairs, List.flatMap_cons, List.length_append, List.length_cons, List.length_nil] at ih ⊢; omega
theorem pairs_append (l m : List (Nat × Nat)) : pairs (l ++ m) = pairs l ++ pairs m := by simp [pairs]
theorem pairs_drop (l : List (Nat × Nat)) : ∀ (j : Nat) (x : Nat × Nat), l[j]? = some x → ((pairs l).drop (j * 2)).take 2 = [.int .i64 (x.1 : Int), .int .i64 (x.2 : Int)] := by
  induction l with
  | nil => intro j x h; simp at h
  | cons y l ih =>
    intro j x h
    cases j with
    | zero =>
      simp only [List.getElem?_cons_zero, Option.some.injEq] at h
      subst h
      rfl
    | succ j =>
      rw [List.getElem?_cons_succ] at h
      rw [show (j + 1) * 2 = j * 2 + 2 by omega]
      exact ih j x h
theorem fromW_here {s : ByteArray} {i : Nat} (h : i < s.size) (hb : bl (bt s (i : Int)) = false) : fromW s i = i := run_here h hb
theorem nb_of {c : Int} (h : bl c = false) : nb c = true := by simp [nb, h]
theorem nb_not {c : Int} (h : bl c = true) : nb c = false := by simp [nb, h]
theorem allW_blank {s : ByteArray} {i : Nat} (h : i < s.size) (hb : bl (bt s (i : Int)) = true) : allW s i = allW s (i + 1) := by
  have e : fromW s i = fromW s (i + 1) := run_next h hb
  have e2 : toW s i = toW s (i + 1) := by unfold toW; rw [e]
  rw [allW_eq, e, e2, ← allW_eq]
theorem allW_word {s : ByteArray} {i : Nat} (h : i < s.size) (hb : bl (bt s (i : Int)) = false) : allW s i = (i, run nb s (i + 1)) :: allW s (run nb s (i + 1)) := by
  have e : fromW s i = i := fromW_here h hb
  have e2 : toW s i = run nb s (i + 1) := by unfold toW; rw [e]; exact run_next h (nb_of hb)
  have e3 := run_ge nb s (i + 1)
  rw [allW_eq, if_pos (by rw [e, e2]; omega), e, e2]
theorem allW_end {s : ByteArray} {i : Nat} (h : s.size ≤ i) : allW s i = [] := by
  have e : fromW s i = i := run_end h
  have e2 : toW s i = i := by unfold toW; rw [e]; exact run_end h
  rw [allW_eq, if_neg (by omega)]
/-- What the reference's one way through the line keeps: the words so far, the last one cut where it stands. -/
def Scan (s : ByteArray) (i : Nat) (acc : List (Nat × Nat)) : Prop :=
  ((i = 0 ∨ bl (bt s ((i : Int) - 1)) = true) ∧ acc ++ allW s i = allW s 0) ∨
  (0 < i ∧ bl (bt s ((i : Int) - 1)) = false ∧ ∃ pre f, acc = pre ++ [(f, i)] ∧ pre ++ (f, run nb s i) :: allW s (run nb s i) = allW s 0)
theorem scan_start (s : ByteArray) : Scan s 0 [] := .inl ⟨.inl rfl, by simp⟩
theorem back_one (i : Nat) : ((i + 1 : Nat) : Int) - 1 = (i : Int) := by omega
theorem scan_blank {s : ByteArray} {i : Nat} {acc : List (Nat × Nat)} (h : i < s.size) (hb : bl (bt s (i : Int)) = true) (hs : Scan s i acc) : Scan s (i + 1) acc := by
  refine .inl ⟨.inr (by rw [back_one]; exact hb), ?_⟩
  rw [← allW_blank h hb]
  rcases hs with ⟨_, e⟩ | ⟨_, _, pre, f, rfl, e⟩
  · exact e
  · rw [run_here h (nb_not hb)] at e
    rw [← e]; simp
theorem scan_new {s : ByteArray} {i : Nat} {acc : List (Nat × Nat)} (h : i < s.size) (hb : bl (bt s (i : Int)) = false) (h0 : i = 0 ∨ bl (bt s ((i : Int) - 1)) = true) (hs : Scan s i acc) : Scan s (i + 1) (acc ++ [(i, i + 1)]) := by
  refine .inr ⟨by omega, by rw [back_one]; exact hb, acc, i, rfl, ?_⟩
  rw [← allW_word h hb]
  rcases hs with ⟨_, e⟩ | ⟨hi, hn, _⟩
  · exact e
  · rcases h0 with h0 | h0
    · omega
    · rw [h0] at hn; cases hn
theorem scan_more {s : ByteArray} {i : Nat} {acc : List (Nat × Nat)} (h : i < s.size) (hb : bl (bt s (i : Int)) = false) (hi : 0 < i) (h0 : bl (bt s ((i : Int) - 1)) = false) (hs : Scan s i acc) :
    ∃ pre f, acc = pre ++ [(f, i)] ∧ Scan s (i + 1) (pre ++ [(f, i + 1)]) := by
  rcases hs with ⟨h1, _⟩ | ⟨_, _, pre, f, rfl, e⟩
  · rcases h1 with h1 | h1
    · omega
    · rw [h0] at h1; cases h1
  · refine ⟨pre, f, rfl, .inr ⟨by omega, by rw [back_one]; exact hb, pre, f, rfl, ?_⟩⟩
    rw [run_next h (nb_of hb)] at e
    exact e
theorem scan_end {s : ByteArray} {acc : List (Nat × Nat)} (hs : Scan s s.size acc) : acc = allW s 0 := by
  rcases hs with ⟨_, e⟩ | ⟨_, _, pre, f, rfl, e⟩
  · rw [allW_end (Nat.le_refl _)] at e; simpa using e
  · rw [run_end (Nat.le_refl _), allW_end (Nat.le_refl _)] at e; exact e
/-- Words are told one by one. -/
theorem allW_ind {s : ByteArray} {M : Nat → Prop} (h1 : ∀ i, fromW s i < toW s i → M (toW s i) → M i) (h2 : ∀ i, ¬ fromW s i < toW s i → M i) (i : Nat) : M i := by
  generalize hd : s.size - i = d
  induction d using Nat.strongRecOn generalizing i with
  | _ d ih =>
    by_cases q : fromW s i < toW s i
    · have h3 := toW_lt s i q
      have h4 := fromW_ge s i
      exact h1 i q (ih (s.size - toW s i) (by omega) (toW s i) rfl)
    · exact h2 i q
end Go.Proofs.YtkfijbmplllmlaaDoor.Pl

/- Letters that are the same but for their case, plain: the other one of a pair, and a set folded. No condition. -/
import Derived.Test.YtfknoaokoncneabDoorPFx0
import Derived.Test.YtfknoaokoncneabDoorHandThr
import Derived.Test.YtfknoaokoncneabDoorPlS
set_option linter.unusedSimpArgs false
set_option linter.unusedVariables false
namespace Go.Proofs.YtfknoaokoncneabDoor.PlF
open Go.RowKit Go.Proofs.YtfknoaokoncneabDoor.PF Go.Proofs.YtfknoaokoncneabDoor.Sets Go.Proofs.YtfknoaokoncneabDoor.HandThr Go.Proofs.YtfknoaokoncneabDoorW.PrintWords Go.Proofs.YtfknoaokoncneabDoorW.PrintLast
def oth : List S35 → Int → Option Int
  | [], _ => none
  | q :: l, c => if q.f0 ≤ c ∧ c ≤ q.f1 then some (c + q.f2) else if q.f0 ≤ c - q.f2 ∧ c - q.f2 ≤ q.f1 then some (c - q.f2) else oth l c
/-- The other one of a pair. -/
def otherL (c : Int) : Option Int := if 0 ≤ c ∧ c ≤ 1114111 then oth tab_fold_rows c else none
/-- A row that the table may have. -/
def Rok (q : S35) : Prop := 65 ≤ q.f0 ∧ q.f0 ≤ q.f1 ∧ q.f1 ≤ 1071 ∧ 32 ≤ q.f2 ∧ q.f2 ≤ 80
theorem rows_ok : ∀ q ∈ tab_fold_rows, Rok q := by
  intro q hq
  simp only [tab_fold_rows, List.mem_cons, List.not_mem_nil, or_false] at hq
  rcases hq with rfl | rfl | rfl | rfl | rfl | rfl | rfl <;> exact ⟨by decide, by decide, by decide, by decide, by decide⟩
theorem oth_form (l : List S35) (c x : Int) (h : oth l c = some x) : ∃ q ∈ l, (q.f0 ≤ c ∧ c ≤ q.f1 ∧ x = c + q.f2) ∨ (q.f0 ≤ x ∧ x ≤ q.f1 ∧ c = x + q.f2) := by
  induction l with
  | nil => cases h
  | cons q l ih =>
    rw [oth] at h
    split at h
    · rename_i h1
      cases h
      exact ⟨q, .head _, .inl ⟨h1.1, h1.2, rfl⟩⟩
    · split at h
      · rename_i h2
        cases h
        exact ⟨q, .head _, .inr ⟨h2.1, h2.2, by omega⟩⟩
      · obtain ⟨q', h1, h2⟩ := ih h
        exact ⟨q', .tail _ h1, h2⟩
/-- What is so of each number that has another one. -/
def okAt (c : Nat) : Bool :=
  tab_fold_rows.all (fun q => if q.f0 ≤ (c : Int) ∧ (c : Int) ≤ q.f1 then oth tab_fold_rows (c : Int) == some ((c : Int) + q.f2) && oth tab_fold_rows ((c : Int) + q.f2) == some (c : Int) else true)
theorem all_ok : (List.range 1200).all okAt = true := by decide +kernel
theorem at_row (q : S35) (hq : q ∈ tab_fold_rows) (c : Int) (h0 : q.f0 ≤ c) (h1 : c ≤ q.f1) : oth tab_fold_rows c = some (c + q.f2) ∧ oth tab_fold_rows (c + q.f2) = some c := by
  have hr := rows_ok q hq
  obtain ⟨r1, r2, r3, r4, r5⟩ := hr
  obtain ⟨n, rfl⟩ := Int.eq_ofNat_of_zero_le (show 0 ≤ c by omega)
  have h := List.all_eq_true.mp all_ok n (List.mem_range.mpr (by omega))
  have h2 := List.all_eq_true.mp h q hq
  rw [if_pos ⟨h0, h1⟩, Bool.and_eq_true, beq_iff_eq, beq_iff_eq] at h2
  exact h2
theorem oth_pair (c x : Int) (h : oth tab_fold_rows c = some x) : oth tab_fold_rows x = some c ∧ 65 ≤ c ∧ c < 1200 ∧ 65 ≤ x ∧ x < 1200 := by
  obtain ⟨q, hq, h1⟩ := oth_form _ _ _ h
  obtain ⟨r1, r2, r3, r4, r5⟩ := rows_ok q hq
  rcases h1 with ⟨a, b, rfl⟩ | ⟨a, b, rfl⟩
  · exact ⟨(at_row q hq c a b).2, by omega, by omega, by omega, by omega⟩
  · exact ⟨(at_row q hq x a b).1, by omega, by omega, by omega, by omega⟩
theorem other_pair (c x : Int) (h : otherL c = some x) : otherL x = some c ∧ 65 ≤ c ∧ c < 1200 ∧ 65 ≤ x ∧ x < 1200 := by
  unfold otherL at h ⊢
  split at h
  · obtain ⟨h1, h2, h3, h4, h5⟩ := oth_pair c x h
    exact ⟨by rw [if_pos (by omega)]; exact h1, h2, h3, h4, h5⟩
  · cases h
theorem other_row (q : S35) (hq : q ∈ tab_fold_rows) (c : Int) (h0 : q.f0 ≤ c) (h1 : c ≤ q.f1) : otherL c = some (c + q.f2) ∧ otherL (c + q.f2) = some c := by
  obtain ⟨r1, r2, r3, r4, r5⟩ := rows_ok q hq
  obtain ⟨a, b⟩ := at_row q hq c h0 h1
  unfold otherL
  exact ⟨by rw [if_pos (by omega)]; exact a, by rw [if_pos (by omega)]; exact b⟩
/-! ### sets -/
theorem thrF_inn (g : S33 → S33) (l : List S33) (x : Int) : ∀ o : List S33, inn (l.foldl (thrStep g) o) x ↔ inn o x ∨ ∃ r ∈ l, (g r).f0 ≤ x ∧ x ≤ (g r).f1 := by
  induction l with
  | nil => intro o; simp
  | cons r l ih =>
    intro o
    rw [List.foldl_cons, ih, thrStep]
    have e : inn (if (g r).f0 ≤ (g r).f1 then o ++ [g r] else o) x ↔ inn o x ∨ ((g r).f0 ≤ x ∧ x ≤ (g r).f1) := by
      split
      · rw [inn_append, inn_cons, inn_nil, or_false]
      · constructor
        · exact .inl
        · rintro (h | h)
          · exact h
          · omega
    rw [e]
    constructor
    · rintro ((h | h) | ⟨y, hy, h⟩)
      · exact .inl h
      · exact .inr ⟨r, .head _, h⟩
      · exact .inr ⟨y, .tail _ hy, h⟩
    · rintro (h | ⟨y, hy, h⟩)
      · exact .inl (.inl h)
      · rcases List.mem_cons.mp hy with rfl | hy
        · exact .inl (.inr h)
        · exact .inr ⟨y, hy, h⟩
theorem thr_inn (g : S33 → S33) (l : List S33) (x : Int) : inn (thr g l) x ↔ ∃ r ∈ l, (g r).f0 ≤ x ∧ x ≤ (g r).f1 := by
  rw [thr, thrF_inn, inn_nil, false_or]
theorem wrap_in (x : Int) (h0 : -9223372036854775808 ≤ x) (h1 : x < 9223372036854775808) : wrap64 x = x := by unfold wrap64; omega
theorem mx_max (a b : Int) : mx a b = max a b := by unfold mx; split <;> omega
theorem mn_min (a b : Int) : mn a b = min a b := by unfold mn; split <;> omega
theorem small_inn (q : S35) (hq : Rok q) (l : List S33) (hl : ∀ x ∈ l, Ok x) (x : Int) : inn (thr (smallR q) l) x ↔ q.f0 ≤ x - q.f2 ∧ x - q.f2 ≤ q.f1 ∧ inn l (x - q.f2) := by
  obtain ⟨r1, r2, r3, r4, r5⟩ := hq
  rw [thr_inn]
  have e : ∀ r ∈ l, (smallR q r).f0 = max r.f0 q.f0 + q.f2 ∧ (smallR q r).f1 = min r.f1 q.f1 + q.f2 := by
    intro r hr
    obtain ⟨a, b, c⟩ := hl r hr
    unfold smallR
    rw [mx_max, mn_min]
    exact ⟨wrap_in _ (by omega) (by omega), wrap_in _ (by omega) (by omega)⟩
  constructor
  · rintro ⟨r, hr, h1, h2⟩
    obtain ⟨e1, e2⟩ := e r hr
    rw [e1] at h1
    rw [e2] at h2
    exact ⟨by omega, by omega, r, hr, by omega, by omega⟩
  · rintro ⟨h1, h2, r, hr, h3, h4⟩
    obtain ⟨e1, e2⟩ := e r hr
    exact ⟨r, hr, by rw [e1]; omega, by rw [e2]; omega⟩
theorem great_inn (q : S35) (hq : Rok q) (l : List S33) (hl : ∀ x ∈ l, Ok x) (x : Int) : inn (thr (greatR q) l) x ↔ q.f0 ≤ x ∧ x ≤ q.f1 ∧ inn l (x + q.f2) := by
  obtain ⟨r1, r2, r3, r4, r5⟩ := hq
  rw [thr_inn]
  have e : ∀ r ∈ l, (greatR q r).f0 = max (r.f0 - q.f2) q.f0 ∧ (greatR q r).f1 = min (r.f1 - q.f2) q.f1 := by
    intro r hr
    obtain ⟨a, b, c⟩ := hl r hr
    unfold greatR
    rw [mx_max, mn_min, wrap_in _ (by omega) (by omega), wrap_in _ (by omega) (by omega)]
    exact ⟨rfl, rfl⟩
  constructor
  · rintro ⟨r, hr, h1, h2⟩
    obtain ⟨e1, e2⟩ := e r hr
    rw [e1] at h1
    rw [e2] at h2
    exact ⟨by omega, by omega, r, hr, by omega, by omega⟩
  · rintro ⟨h1, h2, r, hr, h3, h4⟩
    obtain ⟨e1, e2⟩ := e r hr
    exact ⟨r, hr, by rw [e1]; omega, by rw [e2]; omega⟩
/-- All that a set has folded: itself, and the small letters and the great ones by each row. -/
def partsL (qs : List S35) (l : List S33) : List (List S33) := l :: qs.flatMap fun q => [thr (smallR q) l, thr (greatR q) l]
def foldL (l : List S33) : List S33 := ofL (partsL tab_fold_rows (ofL l)).flatten
theorem flat_inn (ls : List (List S33)) (x : Int) : inn ls.flatten x ↔ ∃ l ∈ ls, inn l x := by
  constructor
  · rintro ⟨r, hr, h⟩
    obtain ⟨l, hl, hr⟩ := List.mem_flatten.mp hr
    exact ⟨l, hl, r, hr, h⟩
  · rintro ⟨l, hl, r, hr, h⟩
    exact ⟨r, List.mem_flatten.mpr ⟨l, hl, hr⟩, h⟩
theorem foldL_inn (l : List S33) (x : Int) (h0 : 0 ≤ x) (h1 : x ≤ 1114111) : inn (foldL l) x ↔ inn l x ∨ ∃ c, otherL c = some x ∧ inn l c := by
  have hs := ofL_St l
  rw [foldL, ofL_inn _ x h0 h1, flat_inn]
  constructor
  · rintro ⟨m, hm, hx⟩
    rcases List.mem_cons.mp hm with rfl | hm
    · exact .inl ((ofL_inn l x h0 h1).mp hx)
    · obtain ⟨q, hq, hm⟩ := List.mem_flatMap.mp hm
      have hr := rows_ok q hq
      rcases List.mem_cons.mp hm with rfl | hm
      · obtain ⟨a, b, c⟩ := (small_inn q hr _ hs.2 x).mp hx
        have hc := hs.inn_le c
        refine .inr ⟨x - q.f2, ?_, (ofL_inn l _ hc.1 hc.2).mp c⟩
        have := (other_row q hq _ a b).1
        rw [this]; congr 1; omega
      · obtain rfl := List.mem_singleton.mp hm
        obtain ⟨a, b, c⟩ := (great_inn q hr _ hs.2 x).mp hx
        have hc := hs.inn_le c
        exact .inr ⟨x + q.f2, (other_row q hq _ a b).2, (ofL_inn l _ hc.1 hc.2).mp c⟩
  · rintro (h | ⟨c, hc, hi⟩)
    · exact ⟨ofL l, .head _, (ofL_inn l x h0 h1).mpr h⟩
    · obtain ⟨_, p1, p2, p3, p4⟩ := other_pair c x hc
      have hi' := (ofL_inn l c (by omega) (by omega)).mpr hi
      unfold otherL at hc
      rw [if_pos (by omega)] at hc
      obtain ⟨q, hq, h⟩ := oth_form _ _ _ hc
      have hr := rows_ok q hq
      rcases h with ⟨a, b, rfl⟩ | ⟨a, b, rfl⟩
      · exact ⟨thr (smallR q) (ofL l), .tail _ (List.mem_flatMap.mpr ⟨q, hq, .head _⟩), (small_inn q hr _ hs.2 _).mpr ⟨by omega, by omega, by rwa [show c + q.f2 - q.f2 = c by omega]⟩⟩
      · exact ⟨thr (greatR q) (ofL l), .tail _ (List.mem_flatMap.mpr ⟨q, hq, .tail _ (.head _)⟩), (great_inn q hr _ hs.2 _).mpr ⟨a, b, hi'⟩⟩
theorem foldL_St (l : List S33) : St (foldL l) := ofL_St _
/-- With a number a set that is folded has the other one. -/
theorem foldL_pair (l : List S33) (c x : Int) (h : otherL c = some x) : inn (foldL l) c ↔ inn (foldL l) x := by
  obtain ⟨h1, p1, p2, p3, p4⟩ := other_pair c x h
  rw [foldL_inn l c (by omega) (by omega), foldL_inn l x (by omega) (by omega)]
  have one : ∀ a b : Int, otherL a = some b → ((∃ d, otherL d = some a ∧ inn l d) ↔ inn l b) := by
    intro a b hab
    constructor
    · rintro ⟨d, hd, hi⟩
      obtain ⟨hd2, _⟩ := other_pair d a hd
      rw [hab] at hd2
      obtain rfl := Option.some.inj hd2
      exact hi
    · intro hi
      exact ⟨b, (other_pair a b hab).1, hi⟩
  rw [one c x h, one x c h1]
  exact or_comm
theorem foldL_again (l : List S33) : foldL (foldL l) = foldL l := by
  refine (foldL_St _).same (foldL_St l) (fun c c0 c1 => ?_)
  rw [foldL_inn (foldL l) c c0 c1]
  constructor
  · rintro (h | ⟨d, hd, hi⟩)
    · exact h
    · exact (foldL_pair l d c hd).mp hi
  · exact .inl
theorem foldL_of (l : List S33) (c : Int) (c0 : 0 ≤ c) (c1 : c ≤ 1114111) (h : inn l c) : inn (foldL l) c := (foldL_inn l c c0 c1).mpr (.inl h)
/-! ### the document's -/
def refStep (l o : List S33) (c : Nat) : List S33 :=
  match otherL (c : Int) with
  | some x => if hasL l (c : Int) = true then o ++ [⟨x, x⟩] else o
  | none => o
def refAll (l : List S33) (n : Nat) (o : List S33) : List S33 := (List.range n).foldl (refStep l) o
theorem refStep_inn (l o : List S33) (c : Nat) (x : Int) : inn (refStep l o c) x ↔ inn o x ∨ (otherL (c : Int) = some x ∧ hasL l (c : Int) = true) := by
  unfold refStep
  cases h : otherL (c : Int) with
  | none => simp
  | some y =>
    dsimp only
    split
    · rename_i h2
      rw [inn_append, inn_cons, inn_nil, or_false]
      constructor
      · rintro (h | ⟨a, b⟩)
        · exact .inl h
        · dsimp only at a b; exact .inr ⟨by congr 1; omega, h2⟩
      · rintro (h | ⟨a, _⟩)
        · exact .inl h
        · cases a
          exact .inr ⟨Int.le_refl _, Int.le_refl _⟩
    · rename_i h2
      constructor
      · exact .inl
      · rintro (h | ⟨_, h3⟩)
        · exact h
        · exact absurd h3 h2
theorem refAll_inn (l : List S33) (n : Nat) (o : List S33) (x : Int) : inn (refAll l n o) x ↔ inn o x ∨ ∃ c : Nat, c < n ∧ otherL (c : Int) = some x ∧ hasL l (c : Int) = true := by
  unfold refAll
  induction n with
  | zero => simp
  | succ n ih =>
    rw [List.range_succ, List.foldl_append, List.foldl_cons, List.foldl_nil, refStep_inn, ih]
    constructor
    · rintro ((h | ⟨c, h1, h2⟩) | h)
      · exact .inl h
      · exact .inr ⟨c, by omega, h2⟩
      · exact .inr ⟨n, by omega, h⟩
    · rintro (h | ⟨c, h1, h2⟩)
      · exact .inl (.inl h)
      · by_cases e : c = n
        · subst e; exact .inr h2
        · exact .inl (.inr ⟨c, by omega, h2⟩)
theorem fold_ref (l : List S33) : ofL (refAll l 1200 l) = foldL l := by
  refine (ofL_St _).same (foldL_St l) (fun x h0 h1 => ?_)
  rw [ofL_inn _ x h0 h1, refAll_inn, foldL_inn l x h0 h1]
  constructor
  · rintro (h | ⟨c, h1, h2, h3⟩)
    · exact .inl h
    · exact .inr ⟨c, h2, ((hasL_iff l _).mp h3).2.2⟩
  · rintro (h | ⟨c, h2, h3⟩)
    · exact .inl h
    · obtain ⟨_, p1, p2, p3, p4⟩ := other_pair c x h2
      obtain ⟨n, rfl⟩ := Int.eq_ofNat_of_zero_le (show 0 ≤ c by omega)
      exact .inr ⟨n, by omega, h2, (hasL_iff l _).mpr ⟨by omega, by omega, h3⟩⟩
theorem refStep_len (l o : List S33) (c : Nat) : (refStep l o c).length ≤ o.length + 1 := by
  unfold refStep
  split
  · split <;> simp
  · omega
theorem refAll_len (l : List S33) (n : Nat) (o : List S33) : (refAll l n o).length ≤ o.length + n := by
  unfold refAll
  induction n with
  | zero => simp
  | succ n ih =>
    rw [List.range_succ, List.foldl_append, List.foldl_cons, List.foldl_nil]
    have := refStep_len l ((List.range n).foldl (refStep l) o) n
    omega
theorem parts_len (qs : List S35) (l : List S33) : (partsL qs l).flatten.length ≤ l.length * (1 + 2 * qs.length) := by
  have e : ∀ qs : List S35, (qs.flatMap fun q => [thr (smallR q) l, thr (greatR q) l]).flatten.length ≤ l.length * (2 * qs.length) := by
    intro qs
    induction qs with
    | nil => simp
    | cons q qs ih =>
      have h1 := thr_len (smallR q) l
      have h2 := thr_len (greatR q) l
      rw [List.flatMap_cons, List.flatten_append, List.length_append, List.length_cons]
      have e1 : ([thr (smallR q) l, thr (greatR q) l].flatten).length = (thr (smallR q) l).length + (thr (greatR q) l).length := by simp
      rw [e1, Nat.mul_add, Nat.mul_add]
      omega
  have := e qs
  rw [partsL, List.flatten_cons, List.length_append, Nat.mul_add]
  omega
end Go.Proofs.YtfknoaokoncneabDoor.PlF

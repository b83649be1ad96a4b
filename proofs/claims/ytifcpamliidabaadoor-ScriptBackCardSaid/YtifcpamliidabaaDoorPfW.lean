/- What the functions on words tell, by the plain words of a line. -/
import Derived.Test.YtifcpamliidabaaDoorPlD
import Derived.Test.YtifcpamliidabaaDoorPSx4
import Derived.Test.YtifcpamliidabaaDoorPSx0
set_option linter.unusedSimpArgs false
set_option linter.unusedVariables false
namespace Go.Proofs.YtifcpamliidabaaDoor.PfW
open Go.RowKit Go.Proofs.YtifcpamliidabaaDoor.PS Go.Proofs.YtifcpamliidabaaDoorW.PrintWords Go.Proofs.YtifcpamliidabaaDoorW.PrintLast Go.Proofs.YtifcpamliidabaaDoor.Pl
theorem wrap_in {i : Int} (h0 : -9223372036854775808 ≤ i) (h1 : i ≤ 9223372036854775807) : wrap64 i = i := by
  unfold wrap64
  omega
theorem blank_f (c : Int) : words_Blank.f c = some (bl c) := by
  unfold words_Blank.f bl
  split <;> simp_all
theorem nb_f (c : Int) : words_Next_1.f c = some (nb c) := by
  unfold words_Next_1.f
  rw [blank_f]
  rfl
theorem span_bl (s : ByteArray) (hs : s.size ≤ 140737488351232) (d : Nat) : ∀ (k i : Nat), s.size - i ≤ d → i ≤ s.size → d < k → words_span_words_Blank.l0 k s (i : Int) = some (run bl s i : Int) := by
  induction d with
  | zero =>
    intro k i hd hi hk
    obtain ⟨k, rfl⟩ : ∃ m, k = m + 1 := ⟨k - 1, by omega⟩
    simp only [words_span_words_Blank.l0]
    rw [if_neg (by omega), run_end (by omega)]
  | succ d ih =>
    intro k i hd hi hk
    obtain ⟨k, rfl⟩ : ∃ m, k = m + 1 := ⟨k - 1, by omega⟩
    simp only [words_span_words_Blank.l0]
    by_cases hlt : i < s.size
    · rw [if_pos (by omega), if_pos (by omega), blank_f]
      simp only [Option.bind_some]
      cases hp : bl (bt s (i : Int)) with
      | true => rw [if_pos rfl, wrap_in (by omega) (by omega), run_next hlt hp]; exact ih k (i + 1) (by omega) (by omega) (by omega)
      | false => rw [if_neg (by simp), run_here hlt hp]
    · rw [if_neg (by omega), run_end (by omega)]
theorem span_nb (s : ByteArray) (hs : s.size ≤ 140737488351232) (d : Nat) : ∀ (k i : Nat), s.size - i ≤ d → i ≤ s.size → d < k → words_span_words_Next_1.l0 k s (i : Int) = some (run nb s i : Int) := by
  induction d with
  | zero =>
    intro k i hd hi hk
    obtain ⟨k, rfl⟩ : ∃ m, k = m + 1 := ⟨k - 1, by omega⟩
    simp only [words_span_words_Next_1.l0]
    rw [if_neg (by omega), run_end (by omega)]
  | succ d ih =>
    intro k i hd hi hk
    obtain ⟨k, rfl⟩ : ∃ m, k = m + 1 := ⟨k - 1, by omega⟩
    simp only [words_span_words_Next_1.l0]
    by_cases hlt : i < s.size
    · rw [if_pos (by omega), if_pos (by omega), nb_f]
      simp only [Option.bind_some]
      cases hp : nb (bt s (i : Int)) with
      | true => rw [if_pos rfl, wrap_in (by omega) (by omega), run_next hlt hp]; exact ih k (i + 1) (by omega) (by omega) (by omega)
      | false => rw [if_neg (by simp), run_here hlt hp]
    · rw [if_neg (by omega), run_end (by omega)]

theorem span_bl_f (s : ByteArray) (hs : s.size ≤ 140737488351232) (k : Nat) (hk : s.size < k) : words_span_words_Blank.f k s = some (run bl s 0 : Int) :=
  span_bl s hs s.size k 0 (by omega) (by omega) hk
theorem span_nb_f (s : ByteArray) (hs : s.size ≤ 140737488351232) (k : Nat) (hk : s.size < k) : words_span_words_Next_1.f k s = some (run nb s 0 : Int) :=
  span_nb s hs s.size k 0 (by omega) (by omega) hk
/-- The next word from a byte on, in a text that isn't too long. -/
theorem next_f (s : ByteArray) (hs : s.size ≤ 140737488351232) (i : Nat) (hi : i ≤ s.size) (k : Nat) (hk : s.size < k) (j : Int) (hj : mn (mx j 0) (s.size : Int) = (i : Int)) : words_Next.f k s j = some ((fromW s i : Int), (toW s i : Int)) := by
  have h1 := fromW_le s i hi
  have h2 := fromW_ge s i
  have h3 := toW_ge s i
  have h4 := toW_le s i hi
  unfold words_Next.f
  rw [hj, if_pos (by omega), if_pos (by omega), Int.toNat_natCast]
  have r1 := run_from bl s i hi _ 0 rfl (by omega)
  have r1' : i + run bl (s.extract i s.size) 0 = fromW s i := r1
  rw [span_bl_f _ (by rw [size_from]; omega) k (by rw [size_from]; omega), Option.bind_some]
  rw [show wrap64 ((i : Int) + (run bl (s.extract i s.size) 0 : Int)) = (fromW s i : Int) by rw [wrap_in (by omega) (by omega)]; omega, if_pos (by omega), if_pos (by omega), Int.toNat_natCast]
  have r2 := run_from nb s (fromW s i) h1 _ 0 rfl (by omega)
  have r2' : fromW s i + run nb (s.extract (fromW s i) s.size) 0 = toW s i := r2
  rw [span_nb_f _ (by rw [size_from]; omega) k (by rw [size_from]; omega), Option.bind_some]
  rw [show wrap64 ((fromW s i : Int) + (run nb (s.extract (fromW s i) s.size) 0 : Int)) = (toW s i : Int) by rw [wrap_in (by omega) (by omega)]; omega]

end Go.Proofs.YtifcpamliidabaaDoor.PfW

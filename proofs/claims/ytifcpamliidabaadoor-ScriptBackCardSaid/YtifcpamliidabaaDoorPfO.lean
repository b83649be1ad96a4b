/- What reading a number, an operation and a line tells: the program and the reference at one. -/
import Derived.Test.YtifcpamliidabaaDoorPfU
import Derived.Test.YtifcpamliidabaaDoorPfW
import Derived.Test.YtifcpamliidabaaDoorPSx0
import Derived.Test.YtifcpamliidabaaDoorHandParse
set_option linter.unusedSimpArgs false
set_option linter.unusedVariables false
namespace Go.Proofs.YtifcpamliidabaaDoor.PfO
open Go.RowKit Go.Proofs.YtifcpamliidabaaDoor.PS Go.Proofs.YtifcpamliidabaaDoorW.PrintWords Go.Proofs.YtifcpamliidabaaDoorW.PrintLast Go.Proofs.YtifcpamliidabaaDoor.PlD Go.Proofs.YtifcpamliidabaaDoor.PfD Go.Proofs.YtifcpamliidabaaDoor.PfU Go.Proofs.YtifcpamliidabaaDoor.Pl Go.Proofs.YtifcpamliidabaaDoor.PfW Go.Proofs.YtifcpamliidabaaDoor.HandKind Go.Proofs.YtifcpamliidabaaDoor.HandRd Go.Proofs.YtifcpamliidabaaDoor.HandOpM Go.Proofs.YtifcpamliidabaaDoor.HandItem Go.Proofs.YtifcpamliidabaaDoor.HandParse
theorem str_eq {s t : ByteArray} : s.toList = t.toList ↔ s = t := by
  rw [ByteArray.toList_eq, ByteArray.toList_eq]
  constructor
  · intro h
    have h2 : s.data = t.data := Array.toList_inj.1 h
    cases s; cases t; simp_all
  · intro h; rw [h]
/-! ### words -/
theorem word_f (s : ByteArray) (hs : s.size ≤ 140737488351232) (i : Nat) (hi : i ≤ s.size) (K : Nat) (hK : 2 * s.size + 3 ≤ K) : wordF K s (i : Int) = some (s.extract (fromW s i) (toW s i), (fromW s i : Int), (toW s i : Int)) := by
  unfold wordF
  rw [next_f s hs i hi K (by omega) (i : Int) (by unfold mn mx; repeat' split <;> omega), Option.bind_some]
  have := toW_le s i hi
  have := toW_ge s i
  simp only
  rw [if_pos (by omega), Int.toNat_natCast, Int.toNat_natCast]
theorem word_nil (s : ByteArray) (a b : Nat) (h : a ≤ b) (hb : b ≤ s.size) : (s.extract a b).toList = ([] : List UInt8) ↔ a = b := by
  rw [L_nil]
  constructor
  · intro e
    have := L_len (s.extract a b)
    rw [e] at this
    simp at this
    omega
  · intro e
    refine List.eq_nil_of_length_eq_zero ?_
    rw [L_len]
    simp
    omega
theorem unqN_to (s : ByteArray) (d : Nat) : ∀ (acc : List Int) (i : Nat), ((unqN s d acc i).2.2 < 0 → ∃ t : Nat, (unqN s d acc i).2.1 = (t : Int) ∧ t ≤ s.size) ∧ (unqN s d acc i).2.2 ≤ (s.size : Int) := by
  induction d with
  | zero => intro acc i; exact ⟨fun h => by simp [unqN] at h; omega, by simp [unqN]⟩
  | succ d ih =>
    intro acc i
    unfold unqN
    split
    · split
      · exact ⟨fun _ => ⟨i + 1, by simp, by omega⟩, by simp⟩
      · split
        · split
          · exact ⟨fun h => by simp at h; omega, by simp; omega⟩
          · exact ih _ _
        · split
          · exact ⟨fun h => by simp at h; omega, by simp; omega⟩
          · exact ih _ _
    · exact ⟨fun h => by simp at h; omega, by simp⟩
theorem unqF_to (s : ByteArray) (i : Nat) (hi : i ≤ s.size) : ((unqF s i).2.2 < 0 → ∃ t : Nat, (unqF s i).2.1 = (t : Int) ∧ t ≤ s.size) ∧ (unqF s i).2.2 ≤ (s.size : Int) := by
  unfold unqF
  split
  · exact ⟨fun h => by simp at h; omega, by simp; omega⟩
  · exact unqN_to s _ _ _
end Go.Proofs.YtifcpamliidabaaDoor.PfO

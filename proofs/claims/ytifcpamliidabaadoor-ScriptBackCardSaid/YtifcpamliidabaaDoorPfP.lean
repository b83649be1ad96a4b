/- What reading a text's lines tells: the program and the reference at one. -/
import Derived.Test.YtifcpamliidabaaDoorPfO
import Derived.Test.YtifcpamliidabaaDoorPSx17
import Derived.Test.YtifcpamliidabaaDoorHandOp
import Derived.Test.YtifcpamliidabaaDoorHandParse
import Derived.Test.YtifcpamliidabaaDoorHandQuote
import Derived.Test.YtifcpamliidabaaDoorPSx0
import Derived.Test.YtifcpamliidabaaDoorPSx1
import Derived.Test.YtifcpamliidabaaDoorPSx11
import Derived.Test.YtifcpamliidabaaDoorPfA
set_option linter.unusedSimpArgs false
set_option linter.unusedVariables false
namespace Go.Proofs.YtifcpamliidabaaDoor.PfP
open Go.RowKit Go.Proofs.YtifcpamliidabaaDoor.PS Go.Proofs.YtifcpamliidabaaDoorW.PrintWords Go.Proofs.YtifcpamliidabaaDoorW.PrintLast Go.Proofs.YtifcpamliidabaaDoor.PlD Go.Proofs.YtifcpamliidabaaDoor.PfD Go.Proofs.YtifcpamliidabaaDoor.PfU Go.Proofs.YtifcpamliidabaaDoor.Pl Go.Proofs.YtifcpamliidabaaDoor.PfW Go.Proofs.YtifcpamliidabaaDoor.HandRd Go.Proofs.YtifcpamliidabaaDoor.HandItem Go.Proofs.YtifcpamliidabaaDoor.HandParse Go.Proofs.YtifcpamliidabaaDoor.HandLine Go.Proofs.YtifcpamliidabaaDoor.PfO
def nn (c : Int) : Bool := c != 10
theorem byte_at (t : ByteArray) (k : Nat) (hk : k < t.size) : t.data.toList[k]? = some (10 : UInt8) ↔ bt t (k : Int) = 10 := by
  have h1 : k < t.data.toList.length := by simpa using hk
  rw [List.getElem?_eq_getElem h1, ← L_get]
  unfold L
  rw [List.getD_eq_getElem?_getD, List.getElem?_map, List.getElem?_eq_getElem h1]
  simp only [Option.map_some, Option.getD_some, Option.some.injEq]
  constructor
  · intro h; rw [h]; rfl
  · intro h
    have : (t.data.toList[k]).toNat = 10 := by omega
    exact UInt8.toNat_inj.1 this
/-- Where the line ends. -/
theorem nl_run (s : ByteArray) (i : Nat) (hi : i ≤ s.size) : (nlF (s.extract i s.size) < 0 ∧ run nn s i = s.size) ∨ (0 ≤ nlF (s.extract i s.size) ∧ run nn s i = i + (nlF (s.extract i s.size)).toNat ∧ run nn s i < s.size) := by
  have hz : (s.extract i s.size).size = s.size - i := by simp
  have hb : ∀ k, i + k < s.size → ((s.extract i s.size).data.toList[k]? = some (10 : UInt8) ↔ bt s ((i + k : Nat) : Int) = 10) := fun k h => by
    rw [byte_at _ _ (by rw [hz]; omega), bt_sub s i s.size k h (Nat.le_refl _)]
  rcases nlF_two (s.extract i s.size) with h | ⟨h0, h1⟩
  · left
    refine ⟨by omega, run_eq nn s i s.size hi (Nat.le_refl _) (fun k hk hk2 => ?_) (fun h => by omega)⟩
    have := Lib.indexByte_none h (k - i)
    rw [Ne, hb (k - i) (by omega), show i + (k - i) = k by omega] at this
    exact bne_iff_ne.mpr this
  · right
    obtain ⟨o, ho⟩ : ∃ o : Nat, nlF (s.extract i s.size) = (o : Int) := ⟨(nlF (s.extract i s.size)).toNat, by omega⟩
    obtain ⟨g1, g2⟩ := Lib.indexByte_some (l := (s.extract i s.size).data.toList) (c := 10) (o := o) ho
    rw [ho] at h1 ⊢
    rw [Int.toNat_natCast]
    have hlt : i + o < s.size := by omega
    have := run_eq nn s i (i + o) (by omega) (by omega) (fun k hk hk2 => by
      have := g2 (k - i) (by omega)
      rw [Ne, hb (k - i) (by omega), show i + (k - i) = k by omega] at this
      exact bne_iff_ne.mpr this) (fun h => by
      have := (hb o hlt).1 g1
      unfold nn
      rw [this]
      rfl)
    exact ⟨by omega, this, by omega⟩
theorem Same_l0 (a : List S51) (ha : a.length ≤ 1000000000) (d : Nat) : ∀ (K j : Nat), a.length - j ≤ d → j ≤ a.length → d < K → spoolref48_Same.l0 K a a (j : Int) = some true := by
  induction d with
  | zero =>
    intro K j hd hj hK
    obtain ⟨k, rfl⟩ : ∃ m, K = m + 1 := ⟨K - 1, by omega⟩
    simp only [spoolref48_Same.l0]
    rw [if_neg (by omega)]
  | succ d ih =>
    intro K j hd hj hK
    obtain ⟨k, rfl⟩ : ∃ m, K = m + 1 := ⟨K - 1, by omega⟩
    simp only [spoolref48_Same.l0]
    by_cases hlt : j < a.length
    · rw [if_pos (by omega), if_pos (by omega), if_pos (by omega), if_neg (by simp), PlD.wrap_in (by omega) (by omega)]
      exact ih k (j + 1) (by omega) (by omega) (by omega)
    · rw [if_neg (by omega)]
theorem Same_f (a : List S51) (ha : a.length ≤ 1000000000) (K : Nat) (hK : a.length + 1 ≤ K) : spoolref48_Same.f K a a = some true := by
  unfold spoolref48_Same.f
  rw [if_pos rfl]
  exact Same_l0 a ha a.length K 0 (by omega) (by omega) (by omega)
end Go.Proofs.YtifcpamliidabaaDoor.PfP

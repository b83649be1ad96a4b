/- What the functions of the digits' packages tell, over plain lists of numbers. -/
import Derived.Test.YtifcpamliidabaaDoorPSx4
import Derived.Test.YtifcpamliidabaaDoorPSx5
import Derived.Test.YtifcpamliidabaaDoorPSx6
import Derived.Test.YtifcpamliidabaaDoorPSx8
import Derived.Test.YtifcpamliidabaaDoorPSx14
import Derived.Test.YtifcpamliidabaaDoorPlD
namespace Go.Proofs.YtifcpamliidabaaDoor.PfD
open Go.RowKit Go.Proofs.YtifcpamliidabaaDoor.PS Go.Proofs.YtifcpamliidabaaDoorW.PrintWords Go.Proofs.YtifcpamliidabaaDoorW.PrintLast Go.Proofs.YtifcpamliidabaaDoor.PlD

theorem up {α : Type} {g : Nat → Option α} (hm : ∀ k, LeO (g k) (g (k + 1))) {a : Nat} {r : α} (h : g a = some r) (k : Nat) (hk : a ≤ k) : g k = some r := by
  obtain ⟨d, rfl⟩ : ∃ d, k = a + d := ⟨k - a, by omega⟩
  induction d with
  | zero => exact h
  | succ d ih => exact hm _ _ (ih (by omega))
theorem bt_r (s : ByteArray) (i : Int) : 0 ≤ bt s i ∧ bt s i < 256 := by have := bt_range s i; omega
/-! ### numbers' texts -/
def ten : ByteArray := ⟨#[48, 49, 50, 51, 52, 53, 54, 55, 56, 57]⟩
theorem ten_at : ∀ n : Fin 10, L (ten.extract n.val (n.val + 1)) = [48 + ((n.val : Nat) : Int)] := by decide +kernel
theorem rText_f (m : Nat) : ∀ (n K : Nat), n < 10 ^ (m + 1) → m < 100 → m + 2 ≤ K → (n : Int) ≤ 9223372036854775807 → ∃ r, spoolref01_Text.f K (n : Int) = some r ∧ L r = textN n := by
  induction m with
  | zero =>
    intro n K hn _ hK hb
    obtain ⟨k, rfl⟩ : ∃ k, K = k + 1 := ⟨K - 1, by omega⟩
    have hn : n < 10 := by simpa using hn
    simp only [spoolref01_Text.f]
    rw [if_pos (by omega), if_pos (by omega), wrap_in (n := (n : Int) + 1) (by omega) (by omega), if_pos (by omega), if_pos (by omega), textN_lt hn]
    refine ⟨_, rfl, ?_⟩
    have := ten_at ⟨n, hn⟩
    rw [← this]
    rfl
  | succ m ih =>
    intro n K hn hm hK hb
    obtain ⟨k, rfl⟩ : ∃ k, K = k + 1 := ⟨K - 1, by omega⟩
    by_cases h10 : n < 10
    · simp only [spoolref01_Text.f]
      rw [if_pos (by omega), if_pos (by omega), wrap_in (n := (n : Int) + 1) (by omega) (by omega), if_pos (by omega), if_pos (by omega), textN_lt h10]
      refine ⟨_, rfl, ?_⟩
      have := ten_at ⟨n, h10⟩
      rw [← this]
      rfl
    · have hdiv : n / 10 < 10 ^ (m + 1) := by rw [Nat.div_lt_iff_lt_mul (by omega)]; rw [Nat.pow_succ] at hn; exact hn
      obtain ⟨r1, e1, l1⟩ := ih (n / 10) k hdiv (by omega) (by omega) (by omega)
      have hp : n % 10 < 10 ^ (m + 1) := Nat.lt_of_lt_of_le (Nat.mod_lt n (by omega)) (by rw [Nat.pow_succ]; have := Nat.one_le_pow m 10 (by omega); omega)
      obtain ⟨r2, e2, l2⟩ := ih (n % 10) k hp (by omega) (by omega) (by omega)
      simp only [spoolref01_Text.f]
      rw [if_neg (by omega), show Int.tdiv (n : Int) 10 = ((n / 10 : Nat) : Int) from rfl, show Int.tmod (n : Int) 10 = ((n % 10 : Nat) : Int) from rfl, wrap_in (n := ((n / 10 : Nat) : Int)) (by omega) (by omega), e1, e2]
      simp only [Option.bind_some]
      have s1 : r1.size ≤ m + 1 := by rw [← L_len, l1]; exact textN_len m _ hdiv
      have s2 : r2.size ≤ m + 1 := by rw [← L_len, l2]; exact textN_len m _ hp
      rw [if_pos (by omega)]
      refine ⟨_, rfl, ?_⟩
      rw [L_append, l1, l2, textN_ge (n := n) (by omega), textN_lt (n := n % 10) (by omega)]
end Go.Proofs.YtifcpamliidabaaDoor.PfD

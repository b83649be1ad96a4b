/- Plain facts about texts as lists of numbers, and about digits. No program in sight. -/
import Derived.Test.YtkfijbmplllmlaaDoorWWords
import Derived.Test.YtkfijbmplllmlaaDoorWMore
namespace Go.Proofs.YtkfijbmplllmlaaDoor.PlD
open Go.RowKit Go.Proofs.YtkfijbmplllmlaaDoorW.PrintWords

theorem wrap_in {n : Int} (h1 : -9223372036854775808 ≤ n) (h2 : n ≤ 9223372036854775807) : wrap64 n = n := by unfold wrap64; omega

/-! ### decimals -/
def dig (c : Int) : Prop := 48 ≤ c ∧ c ≤ 57
instance (c : Int) : Decidable (dig c) := by unfold dig; infer_instance
/-! ### digits of 16 -/
def hx (k : Nat) : Int := if k < 10 then 48 + k else 87 + k
def value (c : Int) : Int := if 48 ≤ c ∧ c ≤ 57 then c - 48 else if 97 ≤ c ∧ c ≤ 102 then c - 87 else if 65 ≤ c ∧ c ≤ 70 then c - 55 else -1
end Go.Proofs.YtkfijbmplllmlaaDoor.PlD

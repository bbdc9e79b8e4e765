/- Texts that belong together, joined. -/
import Derived.Test.YtppihkneeolomaaGreatDoorCCm1
import Derived.Test.YtppihkneeolomaaGreatDoorCCCodeFine
set_option linter.unusedVariables false
set_option linter.unusedSimpArgs false
set_option linter.unusedSectionVars false
/- Labels by numbers: an 'o' and the number's digits. -/
section
namespace Qu
open Qs Qg Qh
def dig8 (n : Nat) : UInt8 := UInt8.ofNat (48 + n)
def labO (k : Nat) : List UInt8 := if k < 10 then [111, dig8 k] else if k < 100 then [111, dig8 (k / 10), dig8 (k % 10)] else 111 :: List.replicate k 97
end Qu
end
/- Labels by numbers up to 127. -/
section
namespace Qu
open Qs Qg Qh
def labN (k : Nat) : List UInt8 := if k < 100 then labO k else if k < 128 then [111, dig8 (k / 100), dig8 (k / 10 % 10), dig8 (k % 10)] else 111 :: List.replicate k 97
theorem labN_small {k : Nat} (h : k < 100) : labN k = labO k := by unfold labN; rw [if_pos h]
theorem labN_facts : ∀ i, i < 128 → ¬ 46 ∈ labN i ∧ (labN i).length ≤ 4 ∧ nameB (labN i) = true ∧ ∀ c, c < 26 → nameB (labN i ++ [46, UInt8.ofNat (97 + c)]) = true := by decide +kernel
end Qu
end

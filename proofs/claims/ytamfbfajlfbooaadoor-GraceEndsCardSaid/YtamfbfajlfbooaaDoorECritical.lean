/- critical: the code of a lock's customer. -/
import Derived.Test.YtamfbfajlfbooaaDoorEm4
import Derived.Test.YtamfbfajlfbooaaDoorEm3
import Derived.Test.YtamfbfajlfbooaaDoorEm1
import Derived.LoopTactic
set_option linter.unusedVariables false
set_option linter.unusedSimpArgs false
set_option linter.unusedSectionVars false
namespace Go.Proofs.YtamfbfajlfbooaaDoor
open Go.RowKit Qs Qh
theorem spCode_len : ∀ k, (spCode k).length = 20 * k
  | 0 => rfl
  | k + 1 => by simp [spCode, spRound, spCode_len k]; omega
def mid1 : List Instr := [⟨6, 2, 7, 1, []⟩, ⟨0, 3, 1, 0, []⟩, ⟨5, 4, 2, 3, []⟩, ⟨19, 4, 0, 0, []⟩]
def takeK (k : Nat) : List Instr := takeCode [107, digB k, 97] 7 0 0
theorem takeK_len (k : Nat) : (takeK k).length = 7 := rfl
theorem len_ok {n m : Nat} (h : n ≤ 1000) (hm : m ≤ 1000) : n + m ≤ maxLen := by unfold maxLen; omega
theorem len_ok2 {n m : Nat} (h : n ≤ 1000) (hm : m ≤ 1000) : (n + m) * 56 ≤ 140737488355328 := by omega
theorem len1 {k : Nat} (h : k < 10) : (spCode k ++ takeK k).length ≤ 1000 := by rw [List.length_append, spCode_len, takeK_len]; omega
theorem len2 {k : Nat} (h : k < 10) : ((spCode k ++ takeK k) ++ mid1).length ≤ 1000 := by rw [List.length_append, List.length_append, spCode_len, takeK_len, show mid1.length = 4 from rfl]; omega
end Go.Proofs.YtamfbfajlfbooaaDoor

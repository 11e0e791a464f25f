/- A call that the statement's run makes: one run. -/
import Derived.Test.YtankbhnmpmhldaaGreatDoorSiteC1
set_option linter.unusedVariables false
set_option linter.unusedSimpArgs false
namespace Go.Proofs.YtankbhnmpmhldaaGreatDoor
open Go.AM
def m11x0 : Memo := ⟨[],
  [],
  [],
  .bool true,
  [],
  []⟩
theorem run11x0 : memoRun (Mo.recM (pWith fast2) 3000) 11 m11x0 = true := by kernel_rfl
theorem ok11x0 : MemoOk 11 m11x0 := memoOk fast2_ok run11x0
end Go.Proofs.YtankbhnmpmhldaaGreatDoor

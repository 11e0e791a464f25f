/- What the function 'fresh' of the statement gives: one run. -/
import Derived.Test.YtmkbdhjikpamiaaGreatModelA
namespace Go.Proofs.YtmkbdhjikpamiaaGreat
open Go.AM
def mFresh : Memo := ⟨[],
  [],
  [],
  .tuple ⟨[.agg ⟨[.slice none 0 0, .slice none 0 0, .slice (some ⟨0, 0, some 1⟩) 1 2, .slice (some ⟨1, 0, some 1⟩) 1 2]⟩, .bool true]⟩,
  [⟨[.slice (some ⟨2, 0, some 2⟩) 2 3], 0⟩, ⟨[.slice (some ⟨3, 0, some 2⟩) 2 3], 0⟩, ⟨[.slice (some ⟨4, 0, some 28⟩) 28 28, .slice (some ⟨5, 0, some 28⟩) 28 28], 0⟩, ⟨[.slice (some ⟨6, 0, some 28⟩) 28 28, .slice (some ⟨7, 0, some 28⟩) 28 28], 0⟩, ⟨[B 0, B 0, B 0, B 0, B 0, B 0, B 0, B 0, B 0, B 0, B 0, B 0, B 0, B 0, B 0, B 0, B 0, B 0, B 0, B 0, B 0, B 0, B 0, B 0, B 0, B 0, B 0, B 0], 0⟩, ⟨[B 0, B 0, B 0, B 0, B 0, B 0, B 0, B 0, B 0, B 0, B 0, B 0, B 0, B 0, B 0, B 0, B 0, B 0, B 0, B 0, B 0, B 0, B 0, B 0, B 0, B 0, B 0, B 0], 0⟩, ⟨[B 0, B 0, B 0, B 0, B 0, B 0, B 0, B 0, B 0, B 0, B 0, B 0, B 0, B 0, B 0, B 0, B 0, B 0, B 0, B 0, B 0, B 0, B 0, B 0, B 0, B 0, B 0, B 0], 0⟩, ⟨[B 0, B 0, B 0, B 0, B 0, B 0, B 0, B 0, B 0, B 0, B 0, B 0, B 0, B 0, B 0, B 0, B 0, B 0, B 0, B 0, B 0, B 0, B 0, B 0, B 0, B 0, B 0, B 0], 0⟩],
  [(0, 2), (0, 3), (1, 0), (2, 0), (3, 0), (3, 1), (4, 0), (4, 1)]⟩
theorem runFresh : memoRun (Mo.recM (pWith fast0) 3000) 5 mFresh = true := by kernel_rfl
noncomputable def fast1 : Fast := withMemo 5 mFresh fast0
theorem fast1_ok : FastOk fast1 := withMemo_ok fast0_ok fast0_ok runFresh
end Go.Proofs.YtmkbdhjikpamiaaGreat

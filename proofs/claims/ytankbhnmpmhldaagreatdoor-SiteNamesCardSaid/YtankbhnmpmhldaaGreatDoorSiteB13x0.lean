/- A call that the statement's run makes: one run. -/
import Derived.Test.YtankbhnmpmhldaaGreatDoorSiteA
set_option linter.unusedVariables false
set_option linter.unusedSimpArgs false
namespace Go.Proofs.YtankbhnmpmhldaaGreatDoor
open Go.AM
def m13x0 : Memo := ⟨[],
  [],
  [],
  .tuple ⟨[.agg ⟨[I 0, .slice (some ⟨0, 0, some 172⟩) 86 88, .slice none 0 0, .int .u32 (.ofNat 1), I 0, .int .u64 (.ofNat 0), I 0, I 0, .slice none 0 0, .slice (some ⟨1, 0, some 28⟩) 2 16, .int .u32 (.ofNat 4096), .int .u32 (.ofNat 0), .bool false, .bool false, .int .u32 (.ofNat 0), .int .u32 (.ofNat 0), .slice (some ⟨2, 0, some 64⟩) 64 64, I 0, I 0, .int .u32 (.ofNat 0), I 0, .slice (some ⟨3, 0, some 87⟩) 3 32, .slice none 0 0, .slice none 0 0, .slice none 0 0, .slice none 0 0, .int .u32 (.ofNat 0), .bool false]⟩, .bool true]⟩,
  [row0, row1, row2, row3, z32, z32, z32, z32, z32, z32, z32, z32, z32, z32, z32, z32, z32, z32, z32, z32, z32, z32, z32, z32, z32, z32, z32, z32, z32, z32, z32, z32, z32, z32, z32, z32, z32, z32, z32, z32, z32, z32, z32, z32, z32, z32, z32, z32, z32, z32, z32, z32, z32, z32, z32, z32, z32, z32, z32, z32, z32, z32, z32, z32, z32, z32, z32, z32, z32, z32, z32, z32, z32, z32, z32, z32, z32, z32, z32, z32, z32, z32, z32, z32, z32, z32, z32, z32, z32, z32, ⟨[B 0, B 0], 0⟩, ⟨[B 0, B 0], 0⟩, ⟨[B 0, B 0], 2⟩, ⟨[B 0, B 0], 0⟩, ⟨[B 0, B 0], 0⟩, ⟨[B 0, B 0], 2⟩, row4],
  [(0, 1), (0, 9), (0, 16), (0, 21), (1, 0), (1, 2), (1, 4), (1, 6), (1, 8), (1, 10), (1, 12), (1, 14), (1, 16), (1, 18), (1, 20), (1, 22), (1, 24), (1, 26), (1, 28), (1, 30), (1, 32), (1, 34), (1, 36), (1, 38), (1, 40), (1, 42), (1, 44), (1, 46), (1, 48), (1, 50), (1, 52), (1, 54), (1, 56), (1, 58), (1, 60), (1, 62), (1, 64), (1, 66), (1, 68), (1, 70), (1, 72), (1, 74), (1, 76), (1, 78), (1, 80), (1, 82), (1, 84), (1, 86), (1, 88), (1, 90), (1, 92), (1, 94), (1, 96), (1, 98), (1, 100), (1, 102), (1, 104), (1, 106), (1, 108), (1, 110), (1, 112), (1, 114), (1, 116), (1, 118), (1, 120), (1, 122), (1, 124), (1, 126), (1, 128), (1, 130), (1, 132), (1, 134), (1, 136), (1, 138), (1, 140), (1, 142), (1, 144), (1, 146), (1, 148), (1, 150), (1, 152), (1, 154), (1, 156), (1, 158), (1, 160), (1, 162), (1, 164), (1, 166), (1, 168), (1, 170), (2, 0), (2, 1), (2, 5), (2, 14), (2, 15), (2, 19), (4, 2)]⟩
theorem run13x0 : memoRun (Mo.recM (pWith fast0) 3000) 13 m13x0 = true := by kernel_rfl
theorem ok13x0 : MemoOk 13 m13x0 := memoOk fast0_ok run13x0
end Go.Proofs.YtankbhnmpmhldaaGreatDoor

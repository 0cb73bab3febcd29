/-
  Summaries of calls of this seat's program, each by one run: part 0. Printed by wip/gen/EngMemo.lean and mems.py.
-/
import Derived.Test.YtnicdlmcbkkkfaaGreatDoorMemD1
namespace Go.Proofs.YtnicdlmcbkkkfaaGreatDoor
namespace Eng

theorem mem0_run : memoRun tabs mt0 1000000 mem0 = true := by kernel_rfl
theorem mem12_run : memoRun tabs mt12 1000000 mem12 = true := by kernel_rfl
theorem mem24_run : memoRun tabs mt24 1000000 mem24 = true := by kernel_rfl
theorem mem36_run : memoRun tabs mt36 1000000 mem36 = true := by kernel_rfl
theorem mem48_run : memoRun tabs mt48 1000000 mem48 = true := by kernel_rfl
theorem mem60_run : memoRun tabs mt60 1000000 mem60 = true := by kernel_rfl
theorem mem72_run : memoRun tabs mt72 1000000 mem72 = true := by kernel_rfl
theorem mem84_run : memoRun tabs mt84 1000000 mem84 = true := by kernel_rfl
theorem mem96_run : memoRun tabs mt96 1000000 mem96 = true := by kernel_rfl
theorem mem108_run : memoRun tabs mt108 1000000 mem108 = true := by kernel_rfl
theorem mem120_run : memoRun tabs mt120 1000000 mem120 = true := by kernel_rfl
theorem mem132_run : memoRun tabs mt132 1000000 mem132 = true := by kernel_rfl
theorem mem144_run : memoRun tabs mt144 1000000 mem144 = true := by kernel_rfl
theorem mem156_run : memoRun tabs mt156 1000000 mem156 = true := by kernel_rfl
theorem mem168_run : memoRun tabs mt168 1000000 mem168 = true := by kernel_rfl
theorem mem180_run : memoRun tabs mt180 1000000 mem180 = true := by kernel_rfl
theorem mem192_run : memoRun tabs mt192 1000000 mem192 = true := by kernel_rfl
theorem mem204_run : memoRun tabs mt204 1000000 mem204 = true := by kernel_rfl
theorem mem216_run : memoRun tabs mt216 1000000 mem216 = true := by kernel_rfl
theorem mem228_run : memoRun tabs mt228 1000000 mem228 = true := by kernel_rfl
theorem mem240_run : memoRun tabs mt240 1000000 mem240 = true := by kernel_rfl
theorem mem252_run : memoRun tabs mt252 1000000 mem252 = true := by kernel_rfl
theorem mem264_run : memoRun tabs mt264 1000000 mem264 = true := by kernel_rfl
theorem mem276_run : memoRun tabs mt276 1000000 mem276 = true := by kernel_rfl
theorem mem288_run : memoRun tabs mt288 1000000 mem288 = true := by kernel_rfl
theorem mem300_run : memoRun tabs mt300 1000000 mem300 = true := by kernel_rfl
theorem mem312_run : memoRun tabs mt312 1000000 mem312 = true := by kernel_rfl
theorem mem324_run : memoRun tabs mt324 1000000 mem324 = true := by kernel_rfl
theorem mem336_run : memoRun tabs mt336 1000000 mem336 = true := by kernel_rfl
theorem mem348_run : memoRun tabs mt348 1000000 mem348 = true := by kernel_rfl
theorem mem360_run : memoRun tabs mt360 1000000 mem360 = true := by kernel_rfl

end Eng
end Go.Proofs.YtnicdlmcbkkkfaaGreatDoor

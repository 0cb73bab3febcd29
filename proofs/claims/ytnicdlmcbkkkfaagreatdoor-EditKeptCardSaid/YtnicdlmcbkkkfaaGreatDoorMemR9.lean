/-
  Summaries of calls of this seat's program, each by one run: part 9. Printed by wip/gen/EngMemo.lean and mems.py.
-/
import Derived.Test.YtnicdlmcbkkkfaaGreatDoorMemD1
namespace Go.Proofs.YtnicdlmcbkkkfaaGreatDoor
namespace Eng

theorem mem9_run : memoRun tabs mt9 1000000 mem9 = true := by kernel_rfl
theorem mem21_run : memoRun tabs mt21 1000000 mem21 = true := by kernel_rfl
theorem mem33_run : memoRun tabs mt33 1000000 mem33 = true := by kernel_rfl
theorem mem45_run : memoRun tabs mt45 1000000 mem45 = true := by kernel_rfl
theorem mem57_run : memoRun tabs mt57 1000000 mem57 = true := by kernel_rfl
theorem mem69_run : memoRun tabs mt69 1000000 mem69 = true := by kernel_rfl
theorem mem81_run : memoRun tabs mt81 1000000 mem81 = true := by kernel_rfl
theorem mem93_run : memoRun tabs mt93 1000000 mem93 = true := by kernel_rfl
theorem mem105_run : memoRun tabs mt105 1000000 mem105 = true := by kernel_rfl
theorem mem117_run : memoRun tabs mt117 1000000 mem117 = true := by kernel_rfl
theorem mem129_run : memoRun tabs mt129 1000000 mem129 = true := by kernel_rfl
theorem mem141_run : memoRun tabs mt141 1000000 mem141 = true := by kernel_rfl
theorem mem153_run : memoRun tabs mt153 1000000 mem153 = true := by kernel_rfl
theorem mem165_run : memoRun tabs mt165 1000000 mem165 = true := by kernel_rfl
theorem mem177_run : memoRun tabs mt177 1000000 mem177 = true := by kernel_rfl
theorem mem189_run : memoRun tabs mt189 1000000 mem189 = true := by kernel_rfl
theorem mem201_run : memoRun tabs mt201 1000000 mem201 = true := by kernel_rfl
theorem mem213_run : memoRun tabs mt213 1000000 mem213 = true := by kernel_rfl
theorem mem225_run : memoRun tabs mt225 1000000 mem225 = true := by kernel_rfl
theorem mem237_run : memoRun tabs mt237 1000000 mem237 = true := by kernel_rfl
theorem mem249_run : memoRun tabs mt249 1000000 mem249 = true := by kernel_rfl
theorem mem261_run : memoRun tabs mt261 1000000 mem261 = true := by kernel_rfl
theorem mem273_run : memoRun tabs mt273 1000000 mem273 = true := by kernel_rfl
theorem mem285_run : memoRun tabs mt285 1000000 mem285 = true := by kernel_rfl
theorem mem297_run : memoRun tabs mt297 1000000 mem297 = true := by kernel_rfl
theorem mem309_run : memoRun tabs mt309 1000000 mem309 = true := by kernel_rfl
theorem mem321_run : memoRun tabs mt321 1000000 mem321 = true := by kernel_rfl
theorem mem333_run : memoRun tabs mt333 1000000 mem333 = true := by kernel_rfl
theorem mem345_run : memoRun tabs mt345 1000000 mem345 = true := by kernel_rfl
theorem mem357_run : memoRun tabs mt357 1000000 mem357 = true := by kernel_rfl

end Eng
end Go.Proofs.YtnicdlmcbkkkfaaGreatDoor

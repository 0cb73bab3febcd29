/-
  Summaries of calls of this seat's program, each by one run: part 1. Printed by wip/gen/EngMemo.lean and mems.py.
-/
import Derived.Test.YtaehfpigjdndkaaGreatDoorMemD
namespace Go.Proofs.YtaehfpigjdndkaaGreatDoor
namespace Eng

theorem mem1_run : memoRun tabs mt1 1000000 mem1 = true := by kernel_rfl
theorem mem9_run : memoRun tabs mt9 1000000 mem9 = true := by kernel_rfl
theorem mem17_run : memoRun tabs mt17 1000000 mem17 = true := by kernel_rfl
theorem mem25_run : memoRun tabs mt25 1000000 mem25 = true := by kernel_rfl
theorem mem33_run : memoRun tabs mt33 1000000 mem33 = true := by kernel_rfl
theorem mem41_run : memoRun tabs mt41 1000000 mem41 = true := by kernel_rfl
theorem mem49_run : memoRun tabs mt49 1000000 mem49 = true := by kernel_rfl
theorem mem57_run : memoRun tabs mt57 1000000 mem57 = true := by kernel_rfl
theorem mem65_run : memoRun tabs mt65 1000000 mem65 = true := by kernel_rfl
theorem mem73_run : memoRun tabs mt73 1000000 mem73 = true := by kernel_rfl
theorem mem81_run : memoRun tabs mt81 1000000 mem81 = true := by kernel_rfl
theorem mem89_run : memoRun tabs mt89 1000000 mem89 = true := by kernel_rfl
theorem mem97_run : memoRun tabs mt97 1000000 mem97 = true := by kernel_rfl
theorem mem105_run : memoRun tabs mt105 1000000 mem105 = true := by kernel_rfl
theorem mem113_run : memoRun tabs mt113 1000000 mem113 = true := by kernel_rfl
theorem mem121_run : memoRun tabs mt121 1000000 mem121 = true := by kernel_rfl
theorem mem129_run : memoRun tabs mt129 1000000 mem129 = true := by kernel_rfl
theorem mem137_run : memoRun tabs mt137 1000000 mem137 = true := by kernel_rfl

end Eng
end Go.Proofs.YtaehfpigjdndkaaGreatDoor

/-
  Summaries of calls of this seat's program, each by one run: part 5. Printed by wip/gen/EngMemo.lean and mems.py.
-/
import Derived.Test.YtaehfpigjdndkaaGreatDoorMemD
namespace Go.Proofs.YtaehfpigjdndkaaGreatDoor
namespace Eng

theorem mem5_run : memoRun tabs mt5 1000000 mem5 = true := by kernel_rfl
theorem mem13_run : memoRun tabs mt13 1000000 mem13 = true := by kernel_rfl
theorem mem21_run : memoRun tabs mt21 1000000 mem21 = true := by kernel_rfl
theorem mem29_run : memoRun tabs mt29 1000000 mem29 = true := by kernel_rfl
theorem mem37_run : memoRun tabs mt37 1000000 mem37 = true := by kernel_rfl
theorem mem45_run : memoRun tabs mt45 1000000 mem45 = true := by kernel_rfl
theorem mem53_run : memoRun tabs mt53 1000000 mem53 = true := by kernel_rfl
theorem mem61_run : memoRun tabs mt61 1000000 mem61 = true := by kernel_rfl
theorem mem69_run : memoRun tabs mt69 1000000 mem69 = true := by kernel_rfl
theorem mem77_run : memoRun tabs mt77 1000000 mem77 = true := by kernel_rfl
theorem mem85_run : memoRun tabs mt85 1000000 mem85 = true := by kernel_rfl
theorem mem93_run : memoRun tabs mt93 1000000 mem93 = true := by kernel_rfl
theorem mem101_run : memoRun tabs mt101 1000000 mem101 = true := by kernel_rfl
theorem mem109_run : memoRun tabs mt109 1000000 mem109 = true := by kernel_rfl
theorem mem117_run : memoRun tabs mt117 1000000 mem117 = true := by kernel_rfl
theorem mem125_run : memoRun tabs mt125 1000000 mem125 = true := by kernel_rfl
theorem mem133_run : memoRun tabs mt133 1000000 mem133 = true := by kernel_rfl

end Eng
end Go.Proofs.YtaehfpigjdndkaaGreatDoor

/-
  Summaries of calls of this seat's program, each by one run: part 2. Printed by wip/gen/EngMemo.lean and mems.py.
-/
import Derived.Test.YtaehfpigjdndkaaGreatDoorMemD
namespace Go.Proofs.YtaehfpigjdndkaaGreatDoor
namespace Eng

theorem mem2_run : memoRun tabs mt2 1000000 mem2 = true := by kernel_rfl
theorem mem10_run : memoRun tabs mt10 1000000 mem10 = true := by kernel_rfl
theorem mem18_run : memoRun tabs mt18 1000000 mem18 = true := by kernel_rfl
theorem mem26_run : memoRun tabs mt26 1000000 mem26 = true := by kernel_rfl
theorem mem34_run : memoRun tabs mt34 1000000 mem34 = true := by kernel_rfl
theorem mem42_run : memoRun tabs mt42 1000000 mem42 = true := by kernel_rfl
theorem mem50_run : memoRun tabs mt50 1000000 mem50 = true := by kernel_rfl
theorem mem58_run : memoRun tabs mt58 1000000 mem58 = true := by kernel_rfl
theorem mem66_run : memoRun tabs mt66 1000000 mem66 = true := by kernel_rfl
theorem mem74_run : memoRun tabs mt74 1000000 mem74 = true := by kernel_rfl
theorem mem82_run : memoRun tabs mt82 1000000 mem82 = true := by kernel_rfl
theorem mem90_run : memoRun tabs mt90 1000000 mem90 = true := by kernel_rfl
theorem mem98_run : memoRun tabs mt98 1000000 mem98 = true := by kernel_rfl
theorem mem106_run : memoRun tabs mt106 1000000 mem106 = true := by kernel_rfl
theorem mem114_run : memoRun tabs mt114 1000000 mem114 = true := by kernel_rfl
theorem mem122_run : memoRun tabs mt122 1000000 mem122 = true := by kernel_rfl
theorem mem130_run : memoRun tabs mt130 1000000 mem130 = true := by kernel_rfl

end Eng
end Go.Proofs.YtaehfpigjdndkaaGreatDoor

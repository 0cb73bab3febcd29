/-
  Summaries of calls of this seat's program, each by one run: part 7. Printed by wip/gen/EngMemo.lean and mems.py.
-/
import Derived.Test.YtaehfpigjdndkaaGreatDoorMemD
namespace Go.Proofs.YtaehfpigjdndkaaGreatDoor
namespace Eng

theorem mem7_run : memoRun tabs mt7 1000000 mem7 = true := by kernel_rfl
theorem mem15_run : memoRun tabs mt15 1000000 mem15 = true := by kernel_rfl
theorem mem23_run : memoRun tabs mt23 1000000 mem23 = true := by kernel_rfl
theorem mem31_run : memoRun tabs mt31 1000000 mem31 = true := by kernel_rfl
theorem mem39_run : memoRun tabs mt39 1000000 mem39 = true := by kernel_rfl
theorem mem47_run : memoRun tabs mt47 1000000 mem47 = true := by kernel_rfl
theorem mem55_run : memoRun tabs mt55 1000000 mem55 = true := by kernel_rfl
theorem mem63_run : memoRun tabs mt63 1000000 mem63 = true := by kernel_rfl
theorem mem71_run : memoRun tabs mt71 1000000 mem71 = true := by kernel_rfl
theorem mem79_run : memoRun tabs mt79 1000000 mem79 = true := by kernel_rfl
theorem mem87_run : memoRun tabs mt87 1000000 mem87 = true := by kernel_rfl
theorem mem95_run : memoRun tabs mt95 1000000 mem95 = true := by kernel_rfl
theorem mem103_run : memoRun tabs mt103 1000000 mem103 = true := by kernel_rfl
theorem mem111_run : memoRun tabs mt111 1000000 mem111 = true := by kernel_rfl
theorem mem119_run : memoRun tabs mt119 1000000 mem119 = true := by kernel_rfl
theorem mem127_run : memoRun tabs mt127 1000000 mem127 = true := by kernel_rfl
theorem mem135_run : memoRun tabs mt135 1000000 mem135 = true := by kernel_rfl

end Eng
end Go.Proofs.YtaehfpigjdndkaaGreatDoor

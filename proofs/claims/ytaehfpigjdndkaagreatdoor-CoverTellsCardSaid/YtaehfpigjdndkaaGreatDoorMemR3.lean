/-
  Summaries of calls of this seat's program, each by one run: part 3. Printed by wip/gen/EngMemo.lean and mems.py.
-/
import Derived.Test.YtaehfpigjdndkaaGreatDoorMemD
namespace Go.Proofs.YtaehfpigjdndkaaGreatDoor
namespace Eng

theorem mem3_run : memoRun tabs mt3 1000000 mem3 = true := by kernel_rfl
theorem mem11_run : memoRun tabs mt11 1000000 mem11 = true := by kernel_rfl
theorem mem19_run : memoRun tabs mt19 1000000 mem19 = true := by kernel_rfl
theorem mem27_run : memoRun tabs mt27 1000000 mem27 = true := by kernel_rfl
theorem mem35_run : memoRun tabs mt35 1000000 mem35 = true := by kernel_rfl
theorem mem43_run : memoRun tabs mt43 1000000 mem43 = true := by kernel_rfl
theorem mem51_run : memoRun tabs mt51 1000000 mem51 = true := by kernel_rfl
theorem mem59_run : memoRun tabs mt59 1000000 mem59 = true := by kernel_rfl
theorem mem67_run : memoRun tabs mt67 1000000 mem67 = true := by kernel_rfl
theorem mem75_run : memoRun tabs mt75 1000000 mem75 = true := by kernel_rfl
theorem mem83_run : memoRun tabs mt83 1000000 mem83 = true := by kernel_rfl
theorem mem91_run : memoRun tabs mt91 1000000 mem91 = true := by kernel_rfl
theorem mem99_run : memoRun tabs mt99 1000000 mem99 = true := by kernel_rfl
theorem mem107_run : memoRun tabs mt107 1000000 mem107 = true := by kernel_rfl
theorem mem115_run : memoRun tabs mt115 1000000 mem115 = true := by kernel_rfl
theorem mem123_run : memoRun tabs mt123 1000000 mem123 = true := by kernel_rfl
theorem mem131_run : memoRun tabs mt131 1000000 mem131 = true := by kernel_rfl

end Eng
end Go.Proofs.YtaehfpigjdndkaaGreatDoor

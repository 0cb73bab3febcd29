/-
  Summaries of calls of this seat's program, each by one run: part 4. Printed by wip/gen/EngMemo.lean and mems.py.
-/
import Derived.Test.YtaehfpigjdndkaaGreatDoorMemD
namespace Go.Proofs.YtaehfpigjdndkaaGreatDoor
namespace Eng

theorem mem4_run : memoRun tabs mt4 1000000 mem4 = true := by kernel_rfl
theorem mem12_run : memoRun tabs mt12 1000000 mem12 = true := by kernel_rfl
theorem mem20_run : memoRun tabs mt20 1000000 mem20 = true := by kernel_rfl
theorem mem28_run : memoRun tabs mt28 1000000 mem28 = true := by kernel_rfl
theorem mem36_run : memoRun tabs mt36 1000000 mem36 = true := by kernel_rfl
theorem mem44_run : memoRun tabs mt44 1000000 mem44 = true := by kernel_rfl
theorem mem52_run : memoRun tabs mt52 1000000 mem52 = true := by kernel_rfl
theorem mem60_run : memoRun tabs mt60 1000000 mem60 = true := by kernel_rfl
theorem mem68_run : memoRun tabs mt68 1000000 mem68 = true := by kernel_rfl
theorem mem76_run : memoRun tabs mt76 1000000 mem76 = true := by kernel_rfl
theorem mem84_run : memoRun tabs mt84 1000000 mem84 = true := by kernel_rfl
theorem mem92_run : memoRun tabs mt92 1000000 mem92 = true := by kernel_rfl
theorem mem100_run : memoRun tabs mt100 1000000 mem100 = true := by kernel_rfl
theorem mem108_run : memoRun tabs mt108 1000000 mem108 = true := by kernel_rfl
theorem mem116_run : memoRun tabs mt116 1000000 mem116 = true := by kernel_rfl
theorem mem124_run : memoRun tabs mt124 1000000 mem124 = true := by kernel_rfl
theorem mem132_run : memoRun tabs mt132 1000000 mem132 = true := by kernel_rfl

end Eng
end Go.Proofs.YtaehfpigjdndkaaGreatDoor

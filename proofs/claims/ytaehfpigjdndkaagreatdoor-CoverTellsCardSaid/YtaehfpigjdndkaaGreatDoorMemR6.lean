/-
  Summaries of calls of this seat's program, each by one run: part 6. Printed by wip/gen/EngMemo.lean and mems.py.
-/
import Derived.Test.YtaehfpigjdndkaaGreatDoorMemD
namespace Go.Proofs.YtaehfpigjdndkaaGreatDoor
namespace Eng

theorem mem6_run : memoRun tabs mt6 1000000 mem6 = true := by kernel_rfl
theorem mem14_run : memoRun tabs mt14 1000000 mem14 = true := by kernel_rfl
theorem mem22_run : memoRun tabs mt22 1000000 mem22 = true := by kernel_rfl
theorem mem30_run : memoRun tabs mt30 1000000 mem30 = true := by kernel_rfl
theorem mem38_run : memoRun tabs mt38 1000000 mem38 = true := by kernel_rfl
theorem mem46_run : memoRun tabs mt46 1000000 mem46 = true := by kernel_rfl
theorem mem54_run : memoRun tabs mt54 1000000 mem54 = true := by kernel_rfl
theorem mem62_run : memoRun tabs mt62 1000000 mem62 = true := by kernel_rfl
theorem mem70_run : memoRun tabs mt70 1000000 mem70 = true := by kernel_rfl
theorem mem78_run : memoRun tabs mt78 1000000 mem78 = true := by kernel_rfl
theorem mem86_run : memoRun tabs mt86 1000000 mem86 = true := by kernel_rfl
theorem mem94_run : memoRun tabs mt94 1000000 mem94 = true := by kernel_rfl
theorem mem102_run : memoRun tabs mt102 1000000 mem102 = true := by kernel_rfl
theorem mem110_run : memoRun tabs mt110 1000000 mem110 = true := by kernel_rfl
theorem mem118_run : memoRun tabs mt118 1000000 mem118 = true := by kernel_rfl
theorem mem126_run : memoRun tabs mt126 1000000 mem126 = true := by kernel_rfl
theorem mem134_run : memoRun tabs mt134 1000000 mem134 = true := by kernel_rfl

end Eng
end Go.Proofs.YtaehfpigjdndkaaGreatDoor

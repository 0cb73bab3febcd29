/-
  Summaries of calls of this seat's program, each by one run: part 0. Printed by wip/gen/EngMemo.lean and mems.py.
-/
import Derived.Test.YtaehfpigjdndkaaGreatDoorMemD
namespace Go.Proofs.YtaehfpigjdndkaaGreatDoor
namespace Eng

theorem mem0_run : memoRun tabs mt0 1000000 mem0 = true := by kernel_rfl
theorem mem8_run : memoRun tabs mt8 1000000 mem8 = true := by kernel_rfl
theorem mem16_run : memoRun tabs mt16 1000000 mem16 = true := by kernel_rfl
theorem mem24_run : memoRun tabs mt24 1000000 mem24 = true := by kernel_rfl
theorem mem32_run : memoRun tabs mt32 1000000 mem32 = true := by kernel_rfl
theorem mem40_run : memoRun tabs mt40 1000000 mem40 = true := by kernel_rfl
theorem mem48_run : memoRun tabs mt48 1000000 mem48 = true := by kernel_rfl
theorem mem56_run : memoRun tabs mt56 1000000 mem56 = true := by kernel_rfl
theorem mem64_run : memoRun tabs mt64 1000000 mem64 = true := by kernel_rfl
theorem mem72_run : memoRun tabs mt72 1000000 mem72 = true := by kernel_rfl
theorem mem80_run : memoRun tabs mt80 1000000 mem80 = true := by kernel_rfl
theorem mem88_run : memoRun tabs mt88 1000000 mem88 = true := by kernel_rfl
theorem mem96_run : memoRun tabs mt96 1000000 mem96 = true := by kernel_rfl
theorem mem104_run : memoRun tabs mt104 1000000 mem104 = true := by kernel_rfl
theorem mem112_run : memoRun tabs mt112 1000000 mem112 = true := by kernel_rfl
theorem mem120_run : memoRun tabs mt120 1000000 mem120 = true := by kernel_rfl
theorem mem128_run : memoRun tabs mt128 1000000 mem128 = true := by kernel_rfl
theorem mem136_run : memoRun tabs mt136 1000000 mem136 = true := by kernel_rfl

end Eng
end Go.Proofs.YtaehfpigjdndkaaGreatDoor

/-
  Summaries of calls of this seat's program, each by one run: part 4. Printed by wip/gen/EngMemo.lean and mems.py.
-/
import Derived.Test.YtnicdlmcbkkkfaaGreatDoorMemD1
namespace Go.Proofs.YtnicdlmcbkkkfaaGreatDoor
namespace Eng

theorem mem4_run : memoRun tabs mt4 1000000 mem4 = true := by kernel_rfl
theorem mem16_run : memoRun tabs mt16 1000000 mem16 = true := by kernel_rfl
theorem mem28_run : memoRun tabs mt28 1000000 mem28 = true := by kernel_rfl
theorem mem40_run : memoRun tabs mt40 1000000 mem40 = true := by kernel_rfl
theorem mem52_run : memoRun tabs mt52 1000000 mem52 = true := by kernel_rfl
theorem mem64_run : memoRun tabs mt64 1000000 mem64 = true := by kernel_rfl
theorem mem76_run : memoRun tabs mt76 1000000 mem76 = true := by kernel_rfl
theorem mem88_run : memoRun tabs mt88 1000000 mem88 = true := by kernel_rfl
theorem mem100_run : memoRun tabs mt100 1000000 mem100 = true := by kernel_rfl
theorem mem112_run : memoRun tabs mt112 1000000 mem112 = true := by kernel_rfl
theorem mem124_run : memoRun tabs mt124 1000000 mem124 = true := by kernel_rfl
theorem mem136_run : memoRun tabs mt136 1000000 mem136 = true := by kernel_rfl
theorem mem148_run : memoRun tabs mt148 1000000 mem148 = true := by kernel_rfl
theorem mem160_run : memoRun tabs mt160 1000000 mem160 = true := by kernel_rfl
theorem mem172_run : memoRun tabs mt172 1000000 mem172 = true := by kernel_rfl
theorem mem184_run : memoRun tabs mt184 1000000 mem184 = true := by kernel_rfl
theorem mem196_run : memoRun tabs mt196 1000000 mem196 = true := by kernel_rfl
theorem mem208_run : memoRun tabs mt208 1000000 mem208 = true := by kernel_rfl
theorem mem220_run : memoRun tabs mt220 1000000 mem220 = true := by kernel_rfl
theorem mem232_run : memoRun tabs mt232 1000000 mem232 = true := by kernel_rfl
theorem mem244_run : memoRun tabs mt244 1000000 mem244 = true := by kernel_rfl
theorem mem256_run : memoRun tabs mt256 1000000 mem256 = true := by kernel_rfl
theorem mem268_run : memoRun tabs mt268 1000000 mem268 = true := by kernel_rfl
theorem mem280_run : memoRun tabs mt280 1000000 mem280 = true := by kernel_rfl
theorem mem292_run : memoRun tabs mt292 1000000 mem292 = true := by kernel_rfl
theorem mem304_run : memoRun tabs mt304 1000000 mem304 = true := by kernel_rfl
theorem mem316_run : memoRun tabs mt316 1000000 mem316 = true := by kernel_rfl
theorem mem328_run : memoRun tabs mt328 1000000 mem328 = true := by kernel_rfl
theorem mem340_run : memoRun tabs mt340 1000000 mem340 = true := by kernel_rfl
theorem mem352_run : memoRun tabs mt352 1000000 mem352 = true := by kernel_rfl
theorem mem364_run : memoRun tabs mt364 1000000 mem364 = true := by kernel_rfl

end Eng
end Go.Proofs.YtnicdlmcbkkkfaaGreatDoor

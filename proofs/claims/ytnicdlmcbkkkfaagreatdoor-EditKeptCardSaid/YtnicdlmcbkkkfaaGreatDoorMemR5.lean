/-
  Summaries of calls of this seat's program, each by one run: part 5. Printed by wip/gen/EngMemo.lean and mems.py.
-/
import Derived.Test.YtnicdlmcbkkkfaaGreatDoorMemD1
namespace Go.Proofs.YtnicdlmcbkkkfaaGreatDoor
namespace Eng

theorem mem5_run : memoRun tabs mt5 1000000 mem5 = true := by kernel_rfl
theorem mem17_run : memoRun tabs mt17 1000000 mem17 = true := by kernel_rfl
theorem mem29_run : memoRun tabs mt29 1000000 mem29 = true := by kernel_rfl
theorem mem41_run : memoRun tabs mt41 1000000 mem41 = true := by kernel_rfl
theorem mem53_run : memoRun tabs mt53 1000000 mem53 = true := by kernel_rfl
theorem mem65_run : memoRun tabs mt65 1000000 mem65 = true := by kernel_rfl
theorem mem77_run : memoRun tabs mt77 1000000 mem77 = true := by kernel_rfl
theorem mem89_run : memoRun tabs mt89 1000000 mem89 = true := by kernel_rfl
theorem mem101_run : memoRun tabs mt101 1000000 mem101 = true := by kernel_rfl
theorem mem113_run : memoRun tabs mt113 1000000 mem113 = true := by kernel_rfl
theorem mem125_run : memoRun tabs mt125 1000000 mem125 = true := by kernel_rfl
theorem mem137_run : memoRun tabs mt137 1000000 mem137 = true := by kernel_rfl
theorem mem149_run : memoRun tabs mt149 1000000 mem149 = true := by kernel_rfl
theorem mem161_run : memoRun tabs mt161 1000000 mem161 = true := by kernel_rfl
theorem mem173_run : memoRun tabs mt173 1000000 mem173 = true := by kernel_rfl
theorem mem185_run : memoRun tabs mt185 1000000 mem185 = true := by kernel_rfl
theorem mem197_run : memoRun tabs mt197 1000000 mem197 = true := by kernel_rfl
theorem mem209_run : memoRun tabs mt209 1000000 mem209 = true := by kernel_rfl
theorem mem221_run : memoRun tabs mt221 1000000 mem221 = true := by kernel_rfl
theorem mem233_run : memoRun tabs mt233 1000000 mem233 = true := by kernel_rfl
theorem mem245_run : memoRun tabs mt245 1000000 mem245 = true := by kernel_rfl
theorem mem257_run : memoRun tabs mt257 1000000 mem257 = true := by kernel_rfl
theorem mem269_run : memoRun tabs mt269 1000000 mem269 = true := by kernel_rfl
theorem mem281_run : memoRun tabs mt281 1000000 mem281 = true := by kernel_rfl
theorem mem293_run : memoRun tabs mt293 1000000 mem293 = true := by kernel_rfl
theorem mem305_run : memoRun tabs mt305 1000000 mem305 = true := by kernel_rfl
theorem mem317_run : memoRun tabs mt317 1000000 mem317 = true := by kernel_rfl
theorem mem329_run : memoRun tabs mt329 1000000 mem329 = true := by kernel_rfl
theorem mem341_run : memoRun tabs mt341 1000000 mem341 = true := by kernel_rfl
theorem mem353_run : memoRun tabs mt353 1000000 mem353 = true := by kernel_rfl
theorem mem365_run : memoRun tabs mt365 1000000 mem365 = true := by kernel_rfl

end Eng
end Go.Proofs.YtnicdlmcbkkkfaaGreatDoor

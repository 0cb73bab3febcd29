/-
  Summaries of calls of this seat's program, each by one run: part 8. Printed by wip/gen/EngMemo.lean and mems.py.
-/
import Derived.Test.YtnicdlmcbkkkfaaGreatDoorMemD1
namespace Go.Proofs.YtnicdlmcbkkkfaaGreatDoor
namespace Eng

theorem mem8_run : memoRun tabs mt8 1000000 mem8 = true := by kernel_rfl
theorem mem20_run : memoRun tabs mt20 1000000 mem20 = true := by kernel_rfl
theorem mem32_run : memoRun tabs mt32 1000000 mem32 = true := by kernel_rfl
theorem mem44_run : memoRun tabs mt44 1000000 mem44 = true := by kernel_rfl
theorem mem56_run : memoRun tabs mt56 1000000 mem56 = true := by kernel_rfl
theorem mem68_run : memoRun tabs mt68 1000000 mem68 = true := by kernel_rfl
theorem mem80_run : memoRun tabs mt80 1000000 mem80 = true := by kernel_rfl
theorem mem92_run : memoRun tabs mt92 1000000 mem92 = true := by kernel_rfl
theorem mem104_run : memoRun tabs mt104 1000000 mem104 = true := by kernel_rfl
theorem mem116_run : memoRun tabs mt116 1000000 mem116 = true := by kernel_rfl
theorem mem128_run : memoRun tabs mt128 1000000 mem128 = true := by kernel_rfl
theorem mem140_run : memoRun tabs mt140 1000000 mem140 = true := by kernel_rfl
theorem mem152_run : memoRun tabs mt152 1000000 mem152 = true := by kernel_rfl
theorem mem164_run : memoRun tabs mt164 1000000 mem164 = true := by kernel_rfl
theorem mem176_run : memoRun tabs mt176 1000000 mem176 = true := by kernel_rfl
theorem mem188_run : memoRun tabs mt188 1000000 mem188 = true := by kernel_rfl
theorem mem200_run : memoRun tabs mt200 1000000 mem200 = true := by kernel_rfl
theorem mem212_run : memoRun tabs mt212 1000000 mem212 = true := by kernel_rfl
theorem mem224_run : memoRun tabs mt224 1000000 mem224 = true := by kernel_rfl
theorem mem236_run : memoRun tabs mt236 1000000 mem236 = true := by kernel_rfl
theorem mem248_run : memoRun tabs mt248 1000000 mem248 = true := by kernel_rfl
theorem mem260_run : memoRun tabs mt260 1000000 mem260 = true := by kernel_rfl
theorem mem272_run : memoRun tabs mt272 1000000 mem272 = true := by kernel_rfl
theorem mem284_run : memoRun tabs mt284 1000000 mem284 = true := by kernel_rfl
theorem mem296_run : memoRun tabs mt296 1000000 mem296 = true := by kernel_rfl
theorem mem308_run : memoRun tabs mt308 1000000 mem308 = true := by kernel_rfl
theorem mem320_run : memoRun tabs mt320 1000000 mem320 = true := by kernel_rfl
theorem mem332_run : memoRun tabs mt332 1000000 mem332 = true := by kernel_rfl
theorem mem344_run : memoRun tabs mt344 1000000 mem344 = true := by kernel_rfl
theorem mem356_run : memoRun tabs mt356 1000000 mem356 = true := by kernel_rfl

end Eng
end Go.Proofs.YtnicdlmcbkkkfaaGreatDoor

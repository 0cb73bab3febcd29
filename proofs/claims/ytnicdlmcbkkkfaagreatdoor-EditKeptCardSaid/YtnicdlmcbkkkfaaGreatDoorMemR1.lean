/-
  Summaries of calls of this seat's program, each by one run: part 1. Printed by wip/gen/EngMemo.lean and mems.py.
-/
import Derived.Test.YtnicdlmcbkkkfaaGreatDoorMemD1
namespace Go.Proofs.YtnicdlmcbkkkfaaGreatDoor
namespace Eng

theorem mem1_run : memoRun tabs mt1 1000000 mem1 = true := by kernel_rfl
theorem mem13_run : memoRun tabs mt13 1000000 mem13 = true := by kernel_rfl
theorem mem25_run : memoRun tabs mt25 1000000 mem25 = true := by kernel_rfl
theorem mem37_run : memoRun tabs mt37 1000000 mem37 = true := by kernel_rfl
theorem mem49_run : memoRun tabs mt49 1000000 mem49 = true := by kernel_rfl
theorem mem61_run : memoRun tabs mt61 1000000 mem61 = true := by kernel_rfl
theorem mem73_run : memoRun tabs mt73 1000000 mem73 = true := by kernel_rfl
theorem mem85_run : memoRun tabs mt85 1000000 mem85 = true := by kernel_rfl
theorem mem97_run : memoRun tabs mt97 1000000 mem97 = true := by kernel_rfl
theorem mem109_run : memoRun tabs mt109 1000000 mem109 = true := by kernel_rfl
theorem mem121_run : memoRun tabs mt121 1000000 mem121 = true := by kernel_rfl
theorem mem133_run : memoRun tabs mt133 1000000 mem133 = true := by kernel_rfl
theorem mem145_run : memoRun tabs mt145 1000000 mem145 = true := by kernel_rfl
theorem mem157_run : memoRun tabs mt157 1000000 mem157 = true := by kernel_rfl
theorem mem169_run : memoRun tabs mt169 1000000 mem169 = true := by kernel_rfl
theorem mem181_run : memoRun tabs mt181 1000000 mem181 = true := by kernel_rfl
theorem mem193_run : memoRun tabs mt193 1000000 mem193 = true := by kernel_rfl
theorem mem205_run : memoRun tabs mt205 1000000 mem205 = true := by kernel_rfl
theorem mem217_run : memoRun tabs mt217 1000000 mem217 = true := by kernel_rfl
theorem mem229_run : memoRun tabs mt229 1000000 mem229 = true := by kernel_rfl
theorem mem241_run : memoRun tabs mt241 1000000 mem241 = true := by kernel_rfl
theorem mem253_run : memoRun tabs mt253 1000000 mem253 = true := by kernel_rfl
theorem mem265_run : memoRun tabs mt265 1000000 mem265 = true := by kernel_rfl
theorem mem277_run : memoRun tabs mt277 1000000 mem277 = true := by kernel_rfl
theorem mem289_run : memoRun tabs mt289 1000000 mem289 = true := by kernel_rfl
theorem mem301_run : memoRun tabs mt301 1000000 mem301 = true := by kernel_rfl
theorem mem313_run : memoRun tabs mt313 1000000 mem313 = true := by kernel_rfl
theorem mem325_run : memoRun tabs mt325 1000000 mem325 = true := by kernel_rfl
theorem mem337_run : memoRun tabs mt337 1000000 mem337 = true := by kernel_rfl
theorem mem349_run : memoRun tabs mt349 1000000 mem349 = true := by kernel_rfl
theorem mem361_run : memoRun tabs mt361 1000000 mem361 = true := by kernel_rfl

end Eng
end Go.Proofs.YtnicdlmcbkkkfaaGreatDoor

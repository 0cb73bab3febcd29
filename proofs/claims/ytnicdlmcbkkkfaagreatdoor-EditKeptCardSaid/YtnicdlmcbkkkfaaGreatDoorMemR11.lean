/-
  Summaries of calls of this seat's program, each by one run: part 11. Printed by wip/gen/EngMemo.lean and mems.py.
-/
import Derived.Test.YtnicdlmcbkkkfaaGreatDoorMemD1
namespace Go.Proofs.YtnicdlmcbkkkfaaGreatDoor
namespace Eng

theorem mem11_run : memoRun tabs mt11 1000000 mem11 = true := by kernel_rfl
theorem mem23_run : memoRun tabs mt23 1000000 mem23 = true := by kernel_rfl
theorem mem35_run : memoRun tabs mt35 1000000 mem35 = true := by kernel_rfl
theorem mem47_run : memoRun tabs mt47 1000000 mem47 = true := by kernel_rfl
theorem mem59_run : memoRun tabs mt59 1000000 mem59 = true := by kernel_rfl
theorem mem71_run : memoRun tabs mt71 1000000 mem71 = true := by kernel_rfl
theorem mem83_run : memoRun tabs mt83 1000000 mem83 = true := by kernel_rfl
theorem mem95_run : memoRun tabs mt95 1000000 mem95 = true := by kernel_rfl
theorem mem107_run : memoRun tabs mt107 1000000 mem107 = true := by kernel_rfl
theorem mem119_run : memoRun tabs mt119 1000000 mem119 = true := by kernel_rfl
theorem mem131_run : memoRun tabs mt131 1000000 mem131 = true := by kernel_rfl
theorem mem143_run : memoRun tabs mt143 1000000 mem143 = true := by kernel_rfl
theorem mem155_run : memoRun tabs mt155 1000000 mem155 = true := by kernel_rfl
theorem mem167_run : memoRun tabs mt167 1000000 mem167 = true := by kernel_rfl
theorem mem179_run : memoRun tabs mt179 1000000 mem179 = true := by kernel_rfl
theorem mem191_run : memoRun tabs mt191 1000000 mem191 = true := by kernel_rfl
theorem mem203_run : memoRun tabs mt203 1000000 mem203 = true := by kernel_rfl
theorem mem215_run : memoRun tabs mt215 1000000 mem215 = true := by kernel_rfl
theorem mem227_run : memoRun tabs mt227 1000000 mem227 = true := by kernel_rfl
theorem mem239_run : memoRun tabs mt239 1000000 mem239 = true := by kernel_rfl
theorem mem251_run : memoRun tabs mt251 1000000 mem251 = true := by kernel_rfl
theorem mem263_run : memoRun tabs mt263 1000000 mem263 = true := by kernel_rfl
theorem mem275_run : memoRun tabs mt275 1000000 mem275 = true := by kernel_rfl
theorem mem287_run : memoRun tabs mt287 1000000 mem287 = true := by kernel_rfl
theorem mem299_run : memoRun tabs mt299 1000000 mem299 = true := by kernel_rfl
theorem mem311_run : memoRun tabs mt311 1000000 mem311 = true := by kernel_rfl
theorem mem323_run : memoRun tabs mt323 1000000 mem323 = true := by kernel_rfl
theorem mem335_run : memoRun tabs mt335 1000000 mem335 = true := by kernel_rfl
theorem mem347_run : memoRun tabs mt347 1000000 mem347 = true := by kernel_rfl
theorem mem359_run : memoRun tabs mt359 1000000 mem359 = true := by kernel_rfl

end Eng
end Go.Proofs.YtnicdlmcbkkkfaaGreatDoor

/-
  Summaries of calls of this seat's program, each by one run: part 3. Printed by wip/gen/EngMemo.lean and mems.py.
-/
import Derived.Test.YtnicdlmcbkkkfaaGreatDoorMemD1
namespace Go.Proofs.YtnicdlmcbkkkfaaGreatDoor
namespace Eng

theorem mem3_run : memoRun tabs mt3 1000000 mem3 = true := by kernel_rfl
theorem mem15_run : memoRun tabs mt15 1000000 mem15 = true := by kernel_rfl
theorem mem27_run : memoRun tabs mt27 1000000 mem27 = true := by kernel_rfl
theorem mem39_run : memoRun tabs mt39 1000000 mem39 = true := by kernel_rfl
theorem mem51_run : memoRun tabs mt51 1000000 mem51 = true := by kernel_rfl
theorem mem63_run : memoRun tabs mt63 1000000 mem63 = true := by kernel_rfl
theorem mem75_run : memoRun tabs mt75 1000000 mem75 = true := by kernel_rfl
theorem mem87_run : memoRun tabs mt87 1000000 mem87 = true := by kernel_rfl
theorem mem99_run : memoRun tabs mt99 1000000 mem99 = true := by kernel_rfl
theorem mem111_run : memoRun tabs mt111 1000000 mem111 = true := by kernel_rfl
theorem mem123_run : memoRun tabs mt123 1000000 mem123 = true := by kernel_rfl
theorem mem135_run : memoRun tabs mt135 1000000 mem135 = true := by kernel_rfl
theorem mem147_run : memoRun tabs mt147 1000000 mem147 = true := by kernel_rfl
theorem mem159_run : memoRun tabs mt159 1000000 mem159 = true := by kernel_rfl
theorem mem171_run : memoRun tabs mt171 1000000 mem171 = true := by kernel_rfl
theorem mem183_run : memoRun tabs mt183 1000000 mem183 = true := by kernel_rfl
theorem mem195_run : memoRun tabs mt195 1000000 mem195 = true := by kernel_rfl
theorem mem207_run : memoRun tabs mt207 1000000 mem207 = true := by kernel_rfl
theorem mem219_run : memoRun tabs mt219 1000000 mem219 = true := by kernel_rfl
theorem mem231_run : memoRun tabs mt231 1000000 mem231 = true := by kernel_rfl
theorem mem243_run : memoRun tabs mt243 1000000 mem243 = true := by kernel_rfl
theorem mem255_run : memoRun tabs mt255 1000000 mem255 = true := by kernel_rfl
theorem mem267_run : memoRun tabs mt267 1000000 mem267 = true := by kernel_rfl
theorem mem279_run : memoRun tabs mt279 1000000 mem279 = true := by kernel_rfl
theorem mem291_run : memoRun tabs mt291 1000000 mem291 = true := by kernel_rfl
theorem mem303_run : memoRun tabs mt303 1000000 mem303 = true := by kernel_rfl
theorem mem315_run : memoRun tabs mt315 1000000 mem315 = true := by kernel_rfl
theorem mem327_run : memoRun tabs mt327 1000000 mem327 = true := by kernel_rfl
theorem mem339_run : memoRun tabs mt339 1000000 mem339 = true := by kernel_rfl
theorem mem351_run : memoRun tabs mt351 1000000 mem351 = true := by kernel_rfl
theorem mem363_run : memoRun tabs mt363 1000000 mem363 = true := by kernel_rfl

end Eng
end Go.Proofs.YtnicdlmcbkkkfaaGreatDoor

/-
  Summaries of calls of this seat's program, each by one run: part 7. Printed by wip/gen/EngMemo.lean and mems.py.
-/
import Derived.Test.YtnicdlmcbkkkfaaGreatDoorMemD1
namespace Go.Proofs.YtnicdlmcbkkkfaaGreatDoor
namespace Eng

theorem mem7_run : memoRun tabs mt7 1000000 mem7 = true := by kernel_rfl
theorem mem19_run : memoRun tabs mt19 1000000 mem19 = true := by kernel_rfl
theorem mem31_run : memoRun tabs mt31 1000000 mem31 = true := by kernel_rfl
theorem mem43_run : memoRun tabs mt43 1000000 mem43 = true := by kernel_rfl
theorem mem55_run : memoRun tabs mt55 1000000 mem55 = true := by kernel_rfl
theorem mem67_run : memoRun tabs mt67 1000000 mem67 = true := by kernel_rfl
theorem mem79_run : memoRun tabs mt79 1000000 mem79 = true := by kernel_rfl
theorem mem91_run : memoRun tabs mt91 1000000 mem91 = true := by kernel_rfl
theorem mem103_run : memoRun tabs mt103 1000000 mem103 = true := by kernel_rfl
theorem mem115_run : memoRun tabs mt115 1000000 mem115 = true := by kernel_rfl
theorem mem127_run : memoRun tabs mt127 1000000 mem127 = true := by kernel_rfl
theorem mem139_run : memoRun tabs mt139 1000000 mem139 = true := by kernel_rfl
theorem mem151_run : memoRun tabs mt151 1000000 mem151 = true := by kernel_rfl
theorem mem163_run : memoRun tabs mt163 1000000 mem163 = true := by kernel_rfl
theorem mem175_run : memoRun tabs mt175 1000000 mem175 = true := by kernel_rfl
theorem mem187_run : memoRun tabs mt187 1000000 mem187 = true := by kernel_rfl
theorem mem199_run : memoRun tabs mt199 1000000 mem199 = true := by kernel_rfl
theorem mem211_run : memoRun tabs mt211 1000000 mem211 = true := by kernel_rfl
theorem mem223_run : memoRun tabs mt223 1000000 mem223 = true := by kernel_rfl
theorem mem235_run : memoRun tabs mt235 1000000 mem235 = true := by kernel_rfl
theorem mem247_run : memoRun tabs mt247 1000000 mem247 = true := by kernel_rfl
theorem mem259_run : memoRun tabs mt259 1000000 mem259 = true := by kernel_rfl
theorem mem271_run : memoRun tabs mt271 1000000 mem271 = true := by kernel_rfl
theorem mem283_run : memoRun tabs mt283 1000000 mem283 = true := by kernel_rfl
theorem mem295_run : memoRun tabs mt295 1000000 mem295 = true := by kernel_rfl
theorem mem307_run : memoRun tabs mt307 1000000 mem307 = true := by kernel_rfl
theorem mem319_run : memoRun tabs mt319 1000000 mem319 = true := by kernel_rfl
theorem mem331_run : memoRun tabs mt331 1000000 mem331 = true := by kernel_rfl
theorem mem343_run : memoRun tabs mt343 1000000 mem343 = true := by kernel_rfl
theorem mem355_run : memoRun tabs mt355 1000000 mem355 = true := by kernel_rfl
theorem mem375_run : memoRun tabs mt375 1000000 mem375 = true := by kernel_rfl

end Eng
end Go.Proofs.YtnicdlmcbkkkfaaGreatDoor

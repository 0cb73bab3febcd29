/-
  Summaries of calls of this seat's program, each by one run: part 6. Printed by wip/gen/EngMemo.lean and mems.py.
-/
import Derived.Test.YtnicdlmcbkkkfaaGreatDoorMemD1
namespace Go.Proofs.YtnicdlmcbkkkfaaGreatDoor
namespace Eng

theorem mem6_run : memoRun tabs mt6 1000000 mem6 = true := by kernel_rfl
theorem mem18_run : memoRun tabs mt18 1000000 mem18 = true := by kernel_rfl
theorem mem30_run : memoRun tabs mt30 1000000 mem30 = true := by kernel_rfl
theorem mem42_run : memoRun tabs mt42 1000000 mem42 = true := by kernel_rfl
theorem mem54_run : memoRun tabs mt54 1000000 mem54 = true := by kernel_rfl
theorem mem66_run : memoRun tabs mt66 1000000 mem66 = true := by kernel_rfl
theorem mem78_run : memoRun tabs mt78 1000000 mem78 = true := by kernel_rfl
theorem mem90_run : memoRun tabs mt90 1000000 mem90 = true := by kernel_rfl
theorem mem102_run : memoRun tabs mt102 1000000 mem102 = true := by kernel_rfl
theorem mem114_run : memoRun tabs mt114 1000000 mem114 = true := by kernel_rfl
theorem mem126_run : memoRun tabs mt126 1000000 mem126 = true := by kernel_rfl
theorem mem138_run : memoRun tabs mt138 1000000 mem138 = true := by kernel_rfl
theorem mem150_run : memoRun tabs mt150 1000000 mem150 = true := by kernel_rfl
theorem mem162_run : memoRun tabs mt162 1000000 mem162 = true := by kernel_rfl
theorem mem174_run : memoRun tabs mt174 1000000 mem174 = true := by kernel_rfl
theorem mem186_run : memoRun tabs mt186 1000000 mem186 = true := by kernel_rfl
theorem mem198_run : memoRun tabs mt198 1000000 mem198 = true := by kernel_rfl
theorem mem210_run : memoRun tabs mt210 1000000 mem210 = true := by kernel_rfl
theorem mem222_run : memoRun tabs mt222 1000000 mem222 = true := by kernel_rfl
theorem mem234_run : memoRun tabs mt234 1000000 mem234 = true := by kernel_rfl
theorem mem246_run : memoRun tabs mt246 1000000 mem246 = true := by kernel_rfl
theorem mem258_run : memoRun tabs mt258 1000000 mem258 = true := by kernel_rfl
theorem mem270_run : memoRun tabs mt270 1000000 mem270 = true := by kernel_rfl
theorem mem282_run : memoRun tabs mt282 1000000 mem282 = true := by kernel_rfl
theorem mem294_run : memoRun tabs mt294 1000000 mem294 = true := by kernel_rfl
theorem mem306_run : memoRun tabs mt306 1000000 mem306 = true := by kernel_rfl
theorem mem318_run : memoRun tabs mt318 1000000 mem318 = true := by kernel_rfl
theorem mem330_run : memoRun tabs mt330 1000000 mem330 = true := by kernel_rfl
theorem mem342_run : memoRun tabs mt342 1000000 mem342 = true := by kernel_rfl
theorem mem354_run : memoRun tabs mt354 1000000 mem354 = true := by kernel_rfl
theorem mem366_run : memoRun tabs mt366 1000000 mem366 = true := by kernel_rfl

end Eng
end Go.Proofs.YtnicdlmcbkkkfaaGreatDoor

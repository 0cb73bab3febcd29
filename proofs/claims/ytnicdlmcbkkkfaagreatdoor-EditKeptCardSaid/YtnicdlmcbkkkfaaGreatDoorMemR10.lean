/-
  Summaries of calls of this seat's program, each by one run: part 10. Printed by wip/gen/EngMemo.lean and mems.py.
-/
import Derived.Test.YtnicdlmcbkkkfaaGreatDoorMemD1
namespace Go.Proofs.YtnicdlmcbkkkfaaGreatDoor
namespace Eng

theorem mem10_run : memoRun tabs mt10 1000000 mem10 = true := by kernel_rfl
theorem mem22_run : memoRun tabs mt22 1000000 mem22 = true := by kernel_rfl
theorem mem34_run : memoRun tabs mt34 1000000 mem34 = true := by kernel_rfl
theorem mem46_run : memoRun tabs mt46 1000000 mem46 = true := by kernel_rfl
theorem mem58_run : memoRun tabs mt58 1000000 mem58 = true := by kernel_rfl
theorem mem70_run : memoRun tabs mt70 1000000 mem70 = true := by kernel_rfl
theorem mem82_run : memoRun tabs mt82 1000000 mem82 = true := by kernel_rfl
theorem mem94_run : memoRun tabs mt94 1000000 mem94 = true := by kernel_rfl
theorem mem106_run : memoRun tabs mt106 1000000 mem106 = true := by kernel_rfl
theorem mem118_run : memoRun tabs mt118 1000000 mem118 = true := by kernel_rfl
theorem mem130_run : memoRun tabs mt130 1000000 mem130 = true := by kernel_rfl
theorem mem142_run : memoRun tabs mt142 1000000 mem142 = true := by kernel_rfl
theorem mem154_run : memoRun tabs mt154 1000000 mem154 = true := by kernel_rfl
theorem mem166_run : memoRun tabs mt166 1000000 mem166 = true := by kernel_rfl
theorem mem178_run : memoRun tabs mt178 1000000 mem178 = true := by kernel_rfl
theorem mem190_run : memoRun tabs mt190 1000000 mem190 = true := by kernel_rfl
theorem mem202_run : memoRun tabs mt202 1000000 mem202 = true := by kernel_rfl
theorem mem214_run : memoRun tabs mt214 1000000 mem214 = true := by kernel_rfl
theorem mem226_run : memoRun tabs mt226 1000000 mem226 = true := by kernel_rfl
theorem mem238_run : memoRun tabs mt238 1000000 mem238 = true := by kernel_rfl
theorem mem250_run : memoRun tabs mt250 1000000 mem250 = true := by kernel_rfl
theorem mem262_run : memoRun tabs mt262 1000000 mem262 = true := by kernel_rfl
theorem mem274_run : memoRun tabs mt274 1000000 mem274 = true := by kernel_rfl
theorem mem286_run : memoRun tabs mt286 1000000 mem286 = true := by kernel_rfl
theorem mem298_run : memoRun tabs mt298 1000000 mem298 = true := by kernel_rfl
theorem mem310_run : memoRun tabs mt310 1000000 mem310 = true := by kernel_rfl
theorem mem322_run : memoRun tabs mt322 1000000 mem322 = true := by kernel_rfl
theorem mem334_run : memoRun tabs mt334 1000000 mem334 = true := by kernel_rfl
theorem mem346_run : memoRun tabs mt346 1000000 mem346 = true := by kernel_rfl
theorem mem358_run : memoRun tabs mt358 1000000 mem358 = true := by kernel_rfl

end Eng
end Go.Proofs.YtnicdlmcbkkkfaaGreatDoor

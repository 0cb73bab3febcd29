/-
  Summaries of calls of this seat's program, each by one run: part 2. Printed by wip/gen/EngMemo.lean and mems.py.
-/
import Derived.Test.YtnicdlmcbkkkfaaGreatDoorMemD1
namespace Go.Proofs.YtnicdlmcbkkkfaaGreatDoor
namespace Eng

theorem mem2_run : memoRun tabs mt2 1000000 mem2 = true := by kernel_rfl
theorem mem14_run : memoRun tabs mt14 1000000 mem14 = true := by kernel_rfl
theorem mem26_run : memoRun tabs mt26 1000000 mem26 = true := by kernel_rfl
theorem mem38_run : memoRun tabs mt38 1000000 mem38 = true := by kernel_rfl
theorem mem50_run : memoRun tabs mt50 1000000 mem50 = true := by kernel_rfl
theorem mem62_run : memoRun tabs mt62 1000000 mem62 = true := by kernel_rfl
theorem mem74_run : memoRun tabs mt74 1000000 mem74 = true := by kernel_rfl
theorem mem86_run : memoRun tabs mt86 1000000 mem86 = true := by kernel_rfl
theorem mem98_run : memoRun tabs mt98 1000000 mem98 = true := by kernel_rfl
theorem mem110_run : memoRun tabs mt110 1000000 mem110 = true := by kernel_rfl
theorem mem122_run : memoRun tabs mt122 1000000 mem122 = true := by kernel_rfl
theorem mem134_run : memoRun tabs mt134 1000000 mem134 = true := by kernel_rfl
theorem mem146_run : memoRun tabs mt146 1000000 mem146 = true := by kernel_rfl
theorem mem158_run : memoRun tabs mt158 1000000 mem158 = true := by kernel_rfl
theorem mem170_run : memoRun tabs mt170 1000000 mem170 = true := by kernel_rfl
theorem mem182_run : memoRun tabs mt182 1000000 mem182 = true := by kernel_rfl
theorem mem194_run : memoRun tabs mt194 1000000 mem194 = true := by kernel_rfl
theorem mem206_run : memoRun tabs mt206 1000000 mem206 = true := by kernel_rfl
theorem mem218_run : memoRun tabs mt218 1000000 mem218 = true := by kernel_rfl
theorem mem230_run : memoRun tabs mt230 1000000 mem230 = true := by kernel_rfl
theorem mem242_run : memoRun tabs mt242 1000000 mem242 = true := by kernel_rfl
theorem mem254_run : memoRun tabs mt254 1000000 mem254 = true := by kernel_rfl
theorem mem266_run : memoRun tabs mt266 1000000 mem266 = true := by kernel_rfl
theorem mem278_run : memoRun tabs mt278 1000000 mem278 = true := by kernel_rfl
theorem mem290_run : memoRun tabs mt290 1000000 mem290 = true := by kernel_rfl
theorem mem302_run : memoRun tabs mt302 1000000 mem302 = true := by kernel_rfl
theorem mem314_run : memoRun tabs mt314 1000000 mem314 = true := by kernel_rfl
theorem mem326_run : memoRun tabs mt326 1000000 mem326 = true := by kernel_rfl
theorem mem338_run : memoRun tabs mt338 1000000 mem338 = true := by kernel_rfl
theorem mem350_run : memoRun tabs mt350 1000000 mem350 = true := by kernel_rfl
theorem mem362_run : memoRun tabs mt362 1000000 mem362 = true := by kernel_rfl

end Eng
end Go.Proofs.YtnicdlmcbkkkfaaGreatDoor

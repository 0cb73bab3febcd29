/-
  The calls of tintypelaw37.kept in awake: their summaries hold. Printed by wip/gen/given37.py.
-/
import Derived.Test.YtnicdlmcbkkkfaaGreatDoorEkE
import Derived.Test.YtnicdlmcbkkkfaaGreatDoorMemD1
namespace Go.Proofs.YtnicdlmcbkkkfaaGreatDoor
namespace Eng

theorem mem367_ok : mem367.Ok Tryz.prog := ⟨kept_ret 1 1 0 205632 [(-1), (-1), 2] (by decide) (by decide) _, Nat.le_refl _, by kernel_rfl, by kernel_rfl⟩
theorem mem368_ok : mem368.Ok Tryz.prog := ⟨kept_ret 5 0 0 205633 [(-1), 1, 2] (by decide) (by decide) _, Nat.le_refl _, by kernel_rfl, by kernel_rfl⟩
theorem mem369_ok : mem369.Ok Tryz.prog := ⟨kept_ret 6 2 0 205634 [(-1), 1, 2] (by decide) (by decide) _, Nat.le_refl _, by kernel_rfl, by kernel_rfl⟩
theorem mem370_ok : mem370.Ok Tryz.prog := ⟨kept_ret 8 0 0 205635 [(-1), 2] (by decide) (by decide) _, Nat.le_refl _, by kernel_rfl, by kernel_rfl⟩
theorem mem371_ok : mem371.Ok Tryz.prog := ⟨kept_ret 9 2 1 205636 [(-1), 2, 1] (by decide) (by decide) _, Nat.le_refl _, by kernel_rfl, by kernel_rfl⟩
theorem mem372_ok : mem372.Ok Tryz.prog := ⟨kept_ret 9 0 2 205637 [(-1), 2, (-1)] (by decide) (by decide) _, Nat.le_refl _, by kernel_rfl, by kernel_rfl⟩
theorem mem373_ok : mem373.Ok Tryz.prog := ⟨kept_ret 7 1 0 205638 [(-1), (-1), 1, 2] (by decide) (by decide) _, Nat.le_refl _, by kernel_rfl, by kernel_rfl⟩
theorem mem374_ok : mem374.Ok Tryz.prog := ⟨kept_ret0 8 3 0 (by decide) _, Nat.le_refl _, by kernel_rfl, by kernel_rfl⟩

end Eng
end Go.Proofs.YtnicdlmcbkkkfaaGreatDoor

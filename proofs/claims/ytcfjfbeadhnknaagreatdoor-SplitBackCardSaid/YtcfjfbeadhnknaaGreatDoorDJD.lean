import Derived.Test.YtcfjfbeadhnknaaGreatDoorRows
import Derived.KernelRfl
namespace Go.Proofs.YtcfjfbeadhnknaaGreatDoor
namespace jj
open Go.Proofs.YtcfjfbeadhnknaaGreatDoor
theorem ab5:(Rows.splitBackRow.named==Tryz.prog.varsNamed 13)=true:=by kernel_rfl
end jj
end Go.Proofs.YtcfjfbeadhnknaaGreatDoor

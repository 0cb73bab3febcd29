import Derived.Test.YtcfjfbeadhnknaaGreatDoorRows
import Derived.KernelRfl
namespace Go.Proofs.YtcfjfbeadhnknaaGreatDoor
namespace je
open Go.Proofs.YtcfjfbeadhnknaaGreatDoor
theorem ab1:(Rows.splitTurnedRow.named==Tryz.prog.varsNamed 14)=true:=by kernel_rfl
end je
end Go.Proofs.YtcfjfbeadhnknaaGreatDoor

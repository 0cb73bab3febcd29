import Derived.Test.YtcfjfbeadhnknaaGreatDoorRows
import Derived.KernelRfl
namespace Go.Proofs.YtcfjfbeadhnknaaGreatDoor
namespace je
open Go.Proofs.YtcfjfbeadhnknaaGreatDoor
theorem ab0:(Rows.splitTurnedRow.recurses==Tryz.prog.recurses 14)=true:=by kernel_rfl
end je
end Go.Proofs.YtcfjfbeadhnknaaGreatDoor

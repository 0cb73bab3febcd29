import Derived.Test.YtcfjfbeadhnknaaGreatDoorRows
import Derived.KernelRfl
namespace Go.Proofs.YtcfjfbeadhnknaaGreatDoor
namespace je
open Go.Proofs.YtcfjfbeadhnknaaGreatDoor
theorem abZ:(Rows.splitTurnedRow.unfollowed==Tryz.prog.unfollowed 14)=true:=by kernel_rfl
end je
end Go.Proofs.YtcfjfbeadhnknaaGreatDoor

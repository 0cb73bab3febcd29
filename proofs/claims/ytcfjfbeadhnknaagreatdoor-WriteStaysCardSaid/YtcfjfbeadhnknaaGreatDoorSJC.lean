import Derived.Test.YtcfjfbeadhnknaaGreatDoorRows
import Derived.KernelRfl
namespace Go.Proofs.YtcfjfbeadhnknaaGreatDoor
namespace lawStays
open Go.Proofs.YtcfjfbeadhnknaaGreatDoor
theorem U7:(Rows.writeStaysRow.recurses==Tryz.prog.recurses 3)=true:=by kernel_rfl
end lawStays
end Go.Proofs.YtcfjfbeadhnknaaGreatDoor

import Derived.Test.YtcfjfbeadhnknaaGreatDoorRows
import Derived.KernelRfl
namespace Go.Proofs.YtcfjfbeadhnknaaGreatDoor
namespace lawStays
open Go.Proofs.YtcfjfbeadhnknaaGreatDoor
theorem U5:(Rows.writeStaysRow.inPlace==Tryz.prog.inPlace 3)=true:=by kernel_rfl
end lawStays
end Go.Proofs.YtcfjfbeadhnknaaGreatDoor

import Derived.Test.YtcfjfbeadhnknaaGreatDoorRows
import Derived.KernelRfl
namespace Go.Proofs.YtcfjfbeadhnknaaGreatDoor
namespace lawStays
open Go.Proofs.YtcfjfbeadhnknaaGreatDoor
theorem U8:(Rows.writeStaysRow.named==Tryz.prog.varsNamed 3)=true:=by kernel_rfl
end lawStays
end Go.Proofs.YtcfjfbeadhnknaaGreatDoor

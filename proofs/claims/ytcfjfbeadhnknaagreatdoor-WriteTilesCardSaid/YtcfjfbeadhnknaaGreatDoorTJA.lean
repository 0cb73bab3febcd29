import Derived.Test.YtcfjfbeadhnknaaGreatDoorRows
import Derived.KernelRfl
namespace Go.Proofs.YtcfjfbeadhnknaaGreatDoor
namespace lawTiles
open Go.Proofs.YtcfjfbeadhnknaaGreatDoor
theorem Y2:(Rows.writeTilesRow.inPlace==Tryz.prog.inPlace 4)=true:=by kernel_rfl
end lawTiles
end Go.Proofs.YtcfjfbeadhnknaaGreatDoor

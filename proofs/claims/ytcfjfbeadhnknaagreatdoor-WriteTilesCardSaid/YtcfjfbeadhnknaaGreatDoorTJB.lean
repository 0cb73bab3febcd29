import Derived.Test.YtcfjfbeadhnknaaGreatDoorRows
import Derived.KernelRfl
namespace Go.Proofs.YtcfjfbeadhnknaaGreatDoor
namespace lawTiles
open Go.Proofs.YtcfjfbeadhnknaaGreatDoor
theorem Y3:(Rows.writeTilesRow.unfollowed==Tryz.prog.unfollowed 4)=true:=by kernel_rfl
end lawTiles
end Go.Proofs.YtcfjfbeadhnknaaGreatDoor

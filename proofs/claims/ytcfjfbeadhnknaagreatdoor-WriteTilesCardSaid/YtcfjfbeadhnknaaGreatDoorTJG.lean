import Derived.Test.YtcfjfbeadhnknaaGreatDoorRows
import Derived.Test.YtcfjfbeadhnknaaGreatDoorCards
import Derived.KernelRfl
namespace Go.Proofs.YtcfjfbeadhnknaaGreatDoor
namespace lawTiles
open Go.Proofs.YtcfjfbeadhnknaaGreatDoor
theorem Y9:true=Tryz.pinned.checked.prog.looks []:=by kernel_rfl
theorem Ze:Rows.writeTilesRow.wfByText (OpenSpec.ofChange Rows.writeTilesSpec)=true:=by kernel_rfl
end lawTiles
end Go.Proofs.YtcfjfbeadhnknaaGreatDoor

import Derived.Test.YtcfjfbeadhnknaaGreatDoorRows
import Derived.Test.YtcfjfbeadhnknaaGreatDoorCards
import Derived.KernelRfl
namespace Go.Proofs.YtcfjfbeadhnknaaGreatDoor
namespace je
open Go.Proofs.YtcfjfbeadhnknaaGreatDoor
theorem ab5:true=Tryz.pinned.checked.prog.looks []:=by kernel_rfl
theorem aca:Rows.splitTurnedRow.wfByText (OpenSpec.ofChange Rows.splitTurnedSpec)=true:=by kernel_rfl
end je
end Go.Proofs.YtcfjfbeadhnknaaGreatDoor

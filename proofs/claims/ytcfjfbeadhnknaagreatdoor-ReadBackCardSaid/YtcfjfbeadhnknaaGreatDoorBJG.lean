import Derived.Test.YtcfjfbeadhnknaaGreatDoorRows
import Derived.Test.YtcfjfbeadhnknaaGreatDoorCards
import Derived.KernelRfl
namespace Go.Proofs.YtcfjfbeadhnknaaGreatDoor
namespace lawBack
open Go.Proofs.YtcfjfbeadhnknaaGreatDoor
theorem abH:true=Tryz.pinned.checked.prog.looks []:=by kernel_rfl
theorem abM:Rows.readBackRow.wfByText (OpenSpec.ofChange Rows.readBackSpec)=true:=by kernel_rfl
end lawBack
end Go.Proofs.YtcfjfbeadhnknaaGreatDoor

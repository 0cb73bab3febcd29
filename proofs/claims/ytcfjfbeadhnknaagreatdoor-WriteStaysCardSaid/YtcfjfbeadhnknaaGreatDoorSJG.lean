import Derived.Test.YtcfjfbeadhnknaaGreatDoorRows
import Derived.Test.YtcfjfbeadhnknaaGreatDoorCards
import Derived.KernelRfl
namespace Go.Proofs.YtcfjfbeadhnknaaGreatDoor
namespace lawStays
open Go.Proofs.YtcfjfbeadhnknaaGreatDoor
theorem Vb:true=Tryz.pinned.checked.prog.looks []:=by kernel_rfl
theorem Ve:Rows.writeStaysRow.wfByText (OpenSpec.ofChange Rows.writeStaysSpec)=true:=by kernel_rfl
end lawStays
end Go.Proofs.YtcfjfbeadhnknaaGreatDoor

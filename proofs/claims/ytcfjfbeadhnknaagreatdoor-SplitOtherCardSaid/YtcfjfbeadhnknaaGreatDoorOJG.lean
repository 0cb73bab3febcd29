import Derived.Test.YtcfjfbeadhnknaaGreatDoorRows
import Derived.Test.YtcfjfbeadhnknaaGreatDoorCards
import Derived.KernelRfl
namespace Go.Proofs.YtcfjfbeadhnknaaGreatDoor
namespace lawOther
open Go.Proofs.YtcfjfbeadhnknaaGreatDoor
theorem acG:true=Tryz.pinned.checked.prog.looks []:=by kernel_rfl
theorem acL:Rows.splitOtherRow.wfByText (OpenSpec.ofChange Rows.splitOtherSpec)=true:=by kernel_rfl
end lawOther
end Go.Proofs.YtcfjfbeadhnknaaGreatDoor

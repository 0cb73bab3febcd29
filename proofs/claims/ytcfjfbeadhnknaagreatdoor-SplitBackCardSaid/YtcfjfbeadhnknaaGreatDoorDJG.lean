import Derived.Test.YtcfjfbeadhnknaaGreatDoorRows
import Derived.Test.YtcfjfbeadhnknaaGreatDoorCards
import Derived.KernelRfl
namespace Go.Proofs.YtcfjfbeadhnknaaGreatDoor
namespace jj
open Go.Proofs.YtcfjfbeadhnknaaGreatDoor
theorem ab9:true=Tryz.pinned.checked.prog.looks []:=by kernel_rfl
theorem acf:Rows.splitBackRow.wfByText (OpenSpec.ofChange Rows.splitBackSpec)=true:=by kernel_rfl
end jj
end Go.Proofs.YtcfjfbeadhnknaaGreatDoor

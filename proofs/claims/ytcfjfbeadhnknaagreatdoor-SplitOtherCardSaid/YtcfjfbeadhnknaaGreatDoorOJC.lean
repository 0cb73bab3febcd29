import Derived.Test.YtcfjfbeadhnknaaGreatDoorRows
import Derived.KernelRfl
namespace Go.Proofs.YtcfjfbeadhnknaaGreatDoor
namespace lawOther
open Go.Proofs.YtcfjfbeadhnknaaGreatDoor
theorem acB:(Rows.splitOtherRow.recurses==Tryz.prog.recurses 10)=true:=by kernel_rfl
end lawOther
end Go.Proofs.YtcfjfbeadhnknaaGreatDoor

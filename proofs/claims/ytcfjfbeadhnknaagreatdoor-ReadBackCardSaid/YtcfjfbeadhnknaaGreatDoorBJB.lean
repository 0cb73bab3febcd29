import Derived.Test.YtcfjfbeadhnknaaGreatDoorRows
import Derived.KernelRfl
namespace Go.Proofs.YtcfjfbeadhnknaaGreatDoor
namespace lawBack
open Go.Proofs.YtcfjfbeadhnknaaGreatDoor
theorem abB:(Rows.readBackRow.unfollowed==Tryz.prog.unfollowed 5)=true:=by kernel_rfl
end lawBack
end Go.Proofs.YtcfjfbeadhnknaaGreatDoor

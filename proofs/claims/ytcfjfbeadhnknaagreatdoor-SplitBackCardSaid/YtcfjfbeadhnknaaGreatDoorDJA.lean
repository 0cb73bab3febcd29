import Derived.Test.YtcfjfbeadhnknaaGreatDoorRows
import Derived.KernelRfl
namespace Go.Proofs.YtcfjfbeadhnknaaGreatDoor
namespace jj
open Go.Proofs.YtcfjfbeadhnknaaGreatDoor
theorem ab2:(Rows.splitBackRow.inPlace==Tryz.prog.inPlace 13)=true:=by kernel_rfl
end jj
end Go.Proofs.YtcfjfbeadhnknaaGreatDoor

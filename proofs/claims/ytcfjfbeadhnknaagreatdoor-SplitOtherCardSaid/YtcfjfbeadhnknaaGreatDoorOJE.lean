import Derived.Test.YtcfjfbeadhnknaaGreatDoorRows
import Derived.Test.YtcfjfbeadhnknaaGreatDoorCards
import Derived.KernelRfl
namespace Go.Proofs.YtcfjfbeadhnknaaGreatDoor
namespace lawOther
open Go.Proofs.YtcfjfbeadhnknaaGreatDoor
theorem acH:Tryz.pinned.checked.prog.mainIs=some (Rows.splitOtherCard.stood.harness.1,Rows.splitOtherCard.stood.harness.2.toList):=by kernel_rfl
end lawOther
end Go.Proofs.YtcfjfbeadhnknaaGreatDoor

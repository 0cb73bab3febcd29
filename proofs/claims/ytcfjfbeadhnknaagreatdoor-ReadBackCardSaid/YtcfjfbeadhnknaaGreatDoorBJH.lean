import Derived.Test.YtcfjfbeadhnknaaGreatDoorRows
import Derived.JoinedCond
import Derived.LaidMore
import Derived.KernelRfl
namespace Go.Proofs.YtcfjfbeadhnknaaGreatDoor
namespace lawBack
open Go.Proofs.YtcfjfbeadhnknaaGreatDoor
theorem abE:(Rows.readBackRow.wf (OpenSpec.ofChange Rows.readBackSpec)&&laidOutB Tryz.prog&&mapsRowed Tryz.prog&&Tryz.f5.params.all (Tryz.prog.readableRec ·)&&namedTie Tryz.prog Rows.readBackRow.named Rows.readBackSpec.vars&&(Rows.readBackRow.stops==[])&&(Tryz.prog.stops==[])&&(Rows.readBackRow.knobs==[])&&(Tryz.prog.stopKnobs==[]))=true:=by kernel_rfl
end lawBack
end Go.Proofs.YtcfjfbeadhnknaaGreatDoor

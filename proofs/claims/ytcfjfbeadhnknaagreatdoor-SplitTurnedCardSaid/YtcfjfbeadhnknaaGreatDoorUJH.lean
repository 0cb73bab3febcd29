import Derived.Test.YtcfjfbeadhnknaaGreatDoorRows
import Derived.JoinedCond
import Derived.LaidMore
import Derived.KernelRfl
namespace Go.Proofs.YtcfjfbeadhnknaaGreatDoor
namespace je
open Go.Proofs.YtcfjfbeadhnknaaGreatDoor
theorem ab2:(Rows.splitTurnedRow.wf (OpenSpec.ofChange Rows.splitTurnedSpec)&&laidOutB Tryz.prog&&mapsRowed Tryz.prog&&Tryz.f14.params.all (Tryz.prog.readableRec ·)&&namedTie Tryz.prog Rows.splitTurnedRow.named Rows.splitTurnedSpec.vars&&(Rows.splitTurnedRow.stops==[])&&(Tryz.prog.stops==[])&&(Rows.splitTurnedRow.knobs==[])&&(Tryz.prog.stopKnobs==[]))=true:=by kernel_rfl
end je
end Go.Proofs.YtcfjfbeadhnknaaGreatDoor

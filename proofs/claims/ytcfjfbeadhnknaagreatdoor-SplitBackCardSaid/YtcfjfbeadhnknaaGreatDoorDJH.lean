import Derived.Test.YtcfjfbeadhnknaaGreatDoorRows
import Derived.JoinedCond
import Derived.LaidMore
import Derived.KernelRfl
namespace Go.Proofs.YtcfjfbeadhnknaaGreatDoor
namespace jj
open Go.Proofs.YtcfjfbeadhnknaaGreatDoor
theorem ab6:(Rows.splitBackRow.wf (OpenSpec.ofChange Rows.splitBackSpec)&&laidOutB Tryz.prog&&mapsRowed Tryz.prog&&Tryz.f13.params.all (Tryz.prog.readableRec ·)&&namedTie Tryz.prog Rows.splitBackRow.named Rows.splitBackSpec.vars&&(Rows.splitBackRow.stops==[])&&(Tryz.prog.stops==[])&&(Rows.splitBackRow.knobs==[])&&(Tryz.prog.stopKnobs==[]))=true:=by kernel_rfl
end jj
end Go.Proofs.YtcfjfbeadhnknaaGreatDoor

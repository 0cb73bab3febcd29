import Derived.Test.YtcfjfbeadhnknaaGreatDoorRows
import Derived.JoinedCond
import Derived.LaidMore
import Derived.KernelRfl
namespace Go.Proofs.YtcfjfbeadhnknaaGreatDoor
namespace lawTiles
open Go.Proofs.YtcfjfbeadhnknaaGreatDoor
theorem Y6:(Rows.writeTilesRow.wf (OpenSpec.ofChange Rows.writeTilesSpec)&&laidOutB Tryz.prog&&mapsRowed Tryz.prog&&Tryz.f4.params.all (Tryz.prog.readableRec ·)&&namedTie Tryz.prog Rows.writeTilesRow.named Rows.writeTilesSpec.vars&&(Rows.writeTilesRow.stops==[])&&(Tryz.prog.stops==[])&&(Rows.writeTilesRow.knobs==[])&&(Tryz.prog.stopKnobs==[]))=true:=by kernel_rfl
end lawTiles
end Go.Proofs.YtcfjfbeadhnknaaGreatDoor

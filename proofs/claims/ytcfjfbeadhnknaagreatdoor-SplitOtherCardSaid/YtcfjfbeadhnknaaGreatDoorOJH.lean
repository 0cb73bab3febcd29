import Derived.Test.YtcfjfbeadhnknaaGreatDoorRows
import Derived.JoinedCond
import Derived.LaidMore
import Derived.KernelRfl
namespace Go.Proofs.YtcfjfbeadhnknaaGreatDoor
namespace lawOther
open Go.Proofs.YtcfjfbeadhnknaaGreatDoor
theorem acD:(Rows.splitOtherRow.wf (OpenSpec.ofChange Rows.splitOtherSpec)&&laidOutB Tryz.prog&&mapsRowed Tryz.prog&&Tryz.f10.params.all (Tryz.prog.readableRec ·)&&namedTie Tryz.prog Rows.splitOtherRow.named Rows.splitOtherSpec.vars&&(Rows.splitOtherRow.stops==[])&&(Tryz.prog.stops==[])&&(Rows.splitOtherRow.knobs==[])&&(Tryz.prog.stopKnobs==[]))=true:=by kernel_rfl
end lawOther
end Go.Proofs.YtcfjfbeadhnknaaGreatDoor

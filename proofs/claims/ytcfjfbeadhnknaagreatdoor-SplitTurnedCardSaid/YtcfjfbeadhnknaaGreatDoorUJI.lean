import Derived.Test.YtcfjfbeadhnknaaGreatDoorRows
import Derived.JoinedCond
import Derived.LaidMore
import Derived.KernelRfl
namespace Go.Proofs.YtcfjfbeadhnknaaGreatDoor
namespace je
open Go.Proofs.YtcfjfbeadhnknaaGreatDoor
theorem ab8:∀b:Bool,b=true->(b&&(Rows.splitTurnedRow.maps==(Tryz.f14.params.toList++Rows.splitTurnedSpec.plain.varTypes Tryz.prog).any (Tryz.prog.mapsRec ·))&&(Rows.splitTurnedRow.ifaces==(Tryz.f14.params.toList++Rows.splitTurnedSpec.plain.varTypes Tryz.prog).any (Tryz.prog.ifacesRec ·))&&(Rows.splitTurnedRow.mapsOut==Tryz.prog.mapsAmong Tryz.f14.resultTypes.toList)&&
 (Rows.splitTurnedRow.loops==(Tryz.f14.params.toList++Rows.splitTurnedSpec.plain.varTypes Tryz.prog).any (Tryz.prog.loopsFrom ·))&&(Rows.splitTurnedRow.wideKeys==(Tryz.f14.params.toList++Rows.splitTurnedSpec.plain.varTypes Tryz.prog++Tryz.f14.resultTypes.toList).any (Tryz.prog.wideKeysFrom ·))&&
 Rows.splitTurnedSpec.vars.all (Tryz.prog.varReadable ·)&&Tryz.f14.resultTypes.all (λt=>Tryz.prog.readableRec t&&decide (t<Tryz.prog.types.size))&&(Rows.splitTurnedRow.ifacesOut==Tryz.f14.resultTypes.toList.any (Tryz.prog.ifacesRec ·))&&(Rows.splitTurnedRow.loopsOut==Tryz.f14.resultTypes.toList.any (Tryz.prog.loopsFrom ·))&&(Rows.splitTurnedRow.plainKeys==Tryz.prog.plainKeys)&&Rows.splitTurnedRow.shortTexts.isNone&&Tryz.prog.stopsHeard&&Tryz.prog.mayEnter&&(Rows.splitTurnedRow.lifted==Tryz.prog.liftsFinal)&&(Tryz.prog.make==some Rows.splitTurnedRow.make)&&(Rows.splitTurnedRow.kinds==(if Rows.splitTurnedRow.domain.isEmpty then[] else Tryz.f14.params.toList.map λt=>match Tryz.prog.underlying t with|some (.int k)=>some k|_=>none))&&(Rows.splitTurnedRow.pinned==Rows.splitTurnedRow.pinnedBy)&&
 (Rows.splitTurnedRow.veiled==(Tryz.f14.params.toList++Rows.splitTurnedSpec.plain.varTypes Tryz.prog++Tryz.f14.resultTypes.toList).any (Tryz.prog.veiledRec ·))&&Rows.splitTurnedRow.veiledFits Tryz.prog Tryz.f14.params.toList (Tryz.f14.params.toList++Rows.splitTurnedSpec.plain.varTypes Tryz.prog++Tryz.f14.resultTypes.toList))=true:=λb hb=>by subst hb;kernel_rfl
end je
end Go.Proofs.YtcfjfbeadhnknaaGreatDoor

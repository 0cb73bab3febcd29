import Derived.Test.YtcfjfbeadhnknaaGreatDoorRows
import Derived.JoinedCond
import Derived.LaidMore
import Derived.KernelRfl
namespace Go.Proofs.YtcfjfbeadhnknaaGreatDoor
namespace lawTiles
open Go.Proofs.YtcfjfbeadhnknaaGreatDoor
theorem Zc:∀b:Bool,b=true->(b&&(Rows.writeTilesRow.maps==(Tryz.f4.params.toList++Rows.writeTilesSpec.plain.varTypes Tryz.prog).any (Tryz.prog.mapsRec ·))&&(Rows.writeTilesRow.ifaces==(Tryz.f4.params.toList++Rows.writeTilesSpec.plain.varTypes Tryz.prog).any (Tryz.prog.ifacesRec ·))&&(Rows.writeTilesRow.mapsOut==Tryz.prog.mapsAmong Tryz.f4.resultTypes.toList)&&
 (Rows.writeTilesRow.loops==(Tryz.f4.params.toList++Rows.writeTilesSpec.plain.varTypes Tryz.prog).any (Tryz.prog.loopsFrom ·))&&(Rows.writeTilesRow.wideKeys==(Tryz.f4.params.toList++Rows.writeTilesSpec.plain.varTypes Tryz.prog++Tryz.f4.resultTypes.toList).any (Tryz.prog.wideKeysFrom ·))&&
 Rows.writeTilesSpec.vars.all (Tryz.prog.varReadable ·)&&Tryz.f4.resultTypes.all (λt=>Tryz.prog.readableRec t&&decide (t<Tryz.prog.types.size))&&(Rows.writeTilesRow.ifacesOut==Tryz.f4.resultTypes.toList.any (Tryz.prog.ifacesRec ·))&&(Rows.writeTilesRow.loopsOut==Tryz.f4.resultTypes.toList.any (Tryz.prog.loopsFrom ·))&&(Rows.writeTilesRow.plainKeys==Tryz.prog.plainKeys)&&Rows.writeTilesRow.shortTexts.isNone&&Tryz.prog.stopsHeard&&Tryz.prog.mayEnter&&(Rows.writeTilesRow.lifted==Tryz.prog.liftsFinal)&&(Tryz.prog.make==some Rows.writeTilesRow.make)&&(Rows.writeTilesRow.kinds==(if Rows.writeTilesRow.domain.isEmpty then[] else Tryz.f4.params.toList.map λt=>match Tryz.prog.underlying t with|some (.int k)=>some k|_=>none))&&(Rows.writeTilesRow.pinned==Rows.writeTilesRow.pinnedBy)&&
 (Rows.writeTilesRow.veiled==(Tryz.f4.params.toList++Rows.writeTilesSpec.plain.varTypes Tryz.prog++Tryz.f4.resultTypes.toList).any (Tryz.prog.veiledRec ·))&&Rows.writeTilesRow.veiledFits Tryz.prog Tryz.f4.params.toList (Tryz.f4.params.toList++Rows.writeTilesSpec.plain.varTypes Tryz.prog++Tryz.f4.resultTypes.toList))=true:=λb hb=>by subst hb;kernel_rfl
end lawTiles
end Go.Proofs.YtcfjfbeadhnknaaGreatDoor

import Derived.Test.YtcfjfbeadhnknaaGreatDoorRows
import Derived.JoinedCond
import Derived.LaidMore
import Derived.KernelRfl
namespace Go.Proofs.YtcfjfbeadhnknaaGreatDoor
namespace jj
open Go.Proofs.YtcfjfbeadhnknaaGreatDoor
theorem acd:∀b:Bool,b=true->(b&&(Rows.splitBackRow.maps==(Tryz.f13.params.toList++Rows.splitBackSpec.plain.varTypes Tryz.prog).any (Tryz.prog.mapsRec ·))&&(Rows.splitBackRow.ifaces==(Tryz.f13.params.toList++Rows.splitBackSpec.plain.varTypes Tryz.prog).any (Tryz.prog.ifacesRec ·))&&(Rows.splitBackRow.mapsOut==Tryz.prog.mapsAmong Tryz.f13.resultTypes.toList)&&
 (Rows.splitBackRow.loops==(Tryz.f13.params.toList++Rows.splitBackSpec.plain.varTypes Tryz.prog).any (Tryz.prog.loopsFrom ·))&&(Rows.splitBackRow.wideKeys==(Tryz.f13.params.toList++Rows.splitBackSpec.plain.varTypes Tryz.prog++Tryz.f13.resultTypes.toList).any (Tryz.prog.wideKeysFrom ·))&&
 Rows.splitBackSpec.vars.all (Tryz.prog.varReadable ·)&&Tryz.f13.resultTypes.all (λt=>Tryz.prog.readableRec t&&decide (t<Tryz.prog.types.size))&&(Rows.splitBackRow.ifacesOut==Tryz.f13.resultTypes.toList.any (Tryz.prog.ifacesRec ·))&&(Rows.splitBackRow.loopsOut==Tryz.f13.resultTypes.toList.any (Tryz.prog.loopsFrom ·))&&(Rows.splitBackRow.plainKeys==Tryz.prog.plainKeys)&&Rows.splitBackRow.shortTexts.isNone&&Tryz.prog.stopsHeard&&Tryz.prog.mayEnter&&(Rows.splitBackRow.lifted==Tryz.prog.liftsFinal)&&(Tryz.prog.make==some Rows.splitBackRow.make)&&(Rows.splitBackRow.kinds==(if Rows.splitBackRow.domain.isEmpty then[] else Tryz.f13.params.toList.map λt=>match Tryz.prog.underlying t with|some (.int k)=>some k|_=>none))&&(Rows.splitBackRow.pinned==Rows.splitBackRow.pinnedBy)&&
 (Rows.splitBackRow.veiled==(Tryz.f13.params.toList++Rows.splitBackSpec.plain.varTypes Tryz.prog++Tryz.f13.resultTypes.toList).any (Tryz.prog.veiledRec ·))&&Rows.splitBackRow.veiledFits Tryz.prog Tryz.f13.params.toList (Tryz.f13.params.toList++Rows.splitBackSpec.plain.varTypes Tryz.prog++Tryz.f13.resultTypes.toList))=true:=λb hb=>by subst hb;kernel_rfl
end jj
end Go.Proofs.YtcfjfbeadhnknaaGreatDoor

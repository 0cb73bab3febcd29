import Derived.Test.YtcfjfbeadhnknaaGreatDoorRows
import Derived.JoinedCond
import Derived.LaidMore
import Derived.KernelRfl
namespace Go.Proofs.YtcfjfbeadhnknaaGreatDoor
namespace lawBack
open Go.Proofs.YtcfjfbeadhnknaaGreatDoor
theorem abK:∀b:Bool,b=true->(b&&(Rows.readBackRow.maps==(Tryz.f5.params.toList++Rows.readBackSpec.plain.varTypes Tryz.prog).any (Tryz.prog.mapsRec ·))&&(Rows.readBackRow.ifaces==(Tryz.f5.params.toList++Rows.readBackSpec.plain.varTypes Tryz.prog).any (Tryz.prog.ifacesRec ·))&&(Rows.readBackRow.mapsOut==Tryz.prog.mapsAmong Tryz.f5.resultTypes.toList)&&
 (Rows.readBackRow.loops==(Tryz.f5.params.toList++Rows.readBackSpec.plain.varTypes Tryz.prog).any (Tryz.prog.loopsFrom ·))&&(Rows.readBackRow.wideKeys==(Tryz.f5.params.toList++Rows.readBackSpec.plain.varTypes Tryz.prog++Tryz.f5.resultTypes.toList).any (Tryz.prog.wideKeysFrom ·))&&
 Rows.readBackSpec.vars.all (Tryz.prog.varReadable ·)&&Tryz.f5.resultTypes.all (λt=>Tryz.prog.readableRec t&&decide (t<Tryz.prog.types.size))&&(Rows.readBackRow.ifacesOut==Tryz.f5.resultTypes.toList.any (Tryz.prog.ifacesRec ·))&&(Rows.readBackRow.loopsOut==Tryz.f5.resultTypes.toList.any (Tryz.prog.loopsFrom ·))&&(Rows.readBackRow.plainKeys==Tryz.prog.plainKeys)&&Rows.readBackRow.shortTexts.isNone&&Tryz.prog.stopsHeard&&Tryz.prog.mayEnter&&(Rows.readBackRow.lifted==Tryz.prog.liftsFinal)&&(Tryz.prog.make==some Rows.readBackRow.make)&&(Rows.readBackRow.kinds==(if Rows.readBackRow.domain.isEmpty then[] else Tryz.f5.params.toList.map λt=>match Tryz.prog.underlying t with|some (.int k)=>some k|_=>none))&&(Rows.readBackRow.pinned==Rows.readBackRow.pinnedBy)&&
 (Rows.readBackRow.veiled==(Tryz.f5.params.toList++Rows.readBackSpec.plain.varTypes Tryz.prog++Tryz.f5.resultTypes.toList).any (Tryz.prog.veiledRec ·))&&Rows.readBackRow.veiledFits Tryz.prog Tryz.f5.params.toList (Tryz.f5.params.toList++Rows.readBackSpec.plain.varTypes Tryz.prog++Tryz.f5.resultTypes.toList))=true:=λb hb=>by subst hb;kernel_rfl
end lawBack
end Go.Proofs.YtcfjfbeadhnknaaGreatDoor

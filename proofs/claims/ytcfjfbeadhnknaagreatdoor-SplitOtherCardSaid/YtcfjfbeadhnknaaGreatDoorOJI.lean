import Derived.Test.YtcfjfbeadhnknaaGreatDoorRows
import Derived.JoinedCond
import Derived.LaidMore
import Derived.KernelRfl
namespace Go.Proofs.YtcfjfbeadhnknaaGreatDoor
namespace lawOther
open Go.Proofs.YtcfjfbeadhnknaaGreatDoor
theorem acJ:∀b:Bool,b=true->(b&&(Rows.splitOtherRow.maps==(Tryz.f10.params.toList++Rows.splitOtherSpec.plain.varTypes Tryz.prog).any (Tryz.prog.mapsRec ·))&&(Rows.splitOtherRow.ifaces==(Tryz.f10.params.toList++Rows.splitOtherSpec.plain.varTypes Tryz.prog).any (Tryz.prog.ifacesRec ·))&&(Rows.splitOtherRow.mapsOut==Tryz.prog.mapsAmong Tryz.f10.resultTypes.toList)&&
 (Rows.splitOtherRow.loops==(Tryz.f10.params.toList++Rows.splitOtherSpec.plain.varTypes Tryz.prog).any (Tryz.prog.loopsFrom ·))&&(Rows.splitOtherRow.wideKeys==(Tryz.f10.params.toList++Rows.splitOtherSpec.plain.varTypes Tryz.prog++Tryz.f10.resultTypes.toList).any (Tryz.prog.wideKeysFrom ·))&&
 Rows.splitOtherSpec.vars.all (Tryz.prog.varReadable ·)&&Tryz.f10.resultTypes.all (λt=>Tryz.prog.readableRec t&&decide (t<Tryz.prog.types.size))&&(Rows.splitOtherRow.ifacesOut==Tryz.f10.resultTypes.toList.any (Tryz.prog.ifacesRec ·))&&(Rows.splitOtherRow.loopsOut==Tryz.f10.resultTypes.toList.any (Tryz.prog.loopsFrom ·))&&(Rows.splitOtherRow.plainKeys==Tryz.prog.plainKeys)&&Rows.splitOtherRow.shortTexts.isNone&&Tryz.prog.stopsHeard&&Tryz.prog.mayEnter&&(Rows.splitOtherRow.lifted==Tryz.prog.liftsFinal)&&(Tryz.prog.make==some Rows.splitOtherRow.make)&&(Rows.splitOtherRow.kinds==(if Rows.splitOtherRow.domain.isEmpty then[] else Tryz.f10.params.toList.map λt=>match Tryz.prog.underlying t with|some (.int k)=>some k|_=>none))&&(Rows.splitOtherRow.pinned==Rows.splitOtherRow.pinnedBy)&&
 (Rows.splitOtherRow.veiled==(Tryz.f10.params.toList++Rows.splitOtherSpec.plain.varTypes Tryz.prog++Tryz.f10.resultTypes.toList).any (Tryz.prog.veiledRec ·))&&Rows.splitOtherRow.veiledFits Tryz.prog Tryz.f10.params.toList (Tryz.f10.params.toList++Rows.splitOtherSpec.plain.varTypes Tryz.prog++Tryz.f10.resultTypes.toList))=true:=λb hb=>by subst hb;kernel_rfl
end lawOther
end Go.Proofs.YtcfjfbeadhnknaaGreatDoor

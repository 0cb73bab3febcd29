/- Proved: SplitBack holds for every bundle. Conditions: the library variables that the row lists start as laid. -/
import Derived.Test.YtcfjfbeadhnknaaGreatDoorDI
import Derived.Test.YtcfjfbeadhnknaaGreatDoorDJA
import Derived.Test.YtcfjfbeadhnknaaGreatDoorDJB
import Derived.Test.YtcfjfbeadhnknaaGreatDoorDJC
import Derived.Test.YtcfjfbeadhnknaaGreatDoorDJD
import Derived.Test.YtcfjfbeadhnknaaGreatDoorDJE
import Derived.Test.YtcfjfbeadhnknaaGreatDoorDJF
import Derived.Test.YtcfjfbeadhnknaaGreatDoorDJG
import Derived.Test.YtcfjfbeadhnknaaGreatDoorDJH
import Derived.Test.YtcfjfbeadhnknaaGreatDoorDJI
import Derived.Test.YtcfjfbeadhnknaaGreatDoorDJJ
namespace Go.Proofs.YtcfjfbeadhnknaaGreatDoor
set_option linter.unusedVariables false
set_option linter.unusedSimpArgs false
set_option linter.unusedSectionVars false
set_option linter.constructorNameAsVariable false
set_option maxRecDepth 100000
section
open Go.Proofs.YtcfjfbeadhnknaaGreatDoor
section
namespace jj
open Go.ChangeShapes Go.WideShapes Go.ChangeAt Go.RowKit Go.Joins Go.Deep
theorem ach{P:Program}{f:FuncId}{fn:Func}{s:ChangeSpec}{c:OpenClaim}
 (h1:(c.wf (OpenSpec.ofChange s)&&laidOutB P&&mapsRowed P&&fn.params.all (P.readableRec ·)&&namedTie P c.named s.vars&&(c.stops==[])&&(P.stops==[])&&(c.knobs==[])&&(P.stopKnobs==[]))=true)
 (h2:(c.inPlace==P.inPlace f)=true) (h3:(c.unfollowed==P.unfollowed f)=true) (h4:(c.recurses==P.recurses f)=true) (h5:(c.named==P.varsNamed f)=true)
 (h:∀b:Bool,b=true->(b&&(c.maps==(fn.params.toList++s.plain.varTypes P).any (P.mapsRec ·))&&(c.ifaces==(fn.params.toList++s.plain.varTypes P).any (P.ifacesRec ·))&&(c.mapsOut==P.mapsAmong fn.resultTypes.toList)&&
 (c.loops==(fn.params.toList++s.plain.varTypes P).any (P.loopsFrom ·))&&(c.wideKeys==(fn.params.toList++s.plain.varTypes P++fn.resultTypes.toList).any (P.wideKeysFrom ·))&&
 s.vars.all (P.varReadable ·)&&fn.resultTypes.all (λt=>P.readableRec t&&decide (t<P.types.size))&&(c.ifacesOut==fn.resultTypes.toList.any (P.ifacesRec ·))&&(c.loopsOut==fn.resultTypes.toList.any (P.loopsFrom ·))&&(c.plainKeys==P.plainKeys)&&c.shortTexts.isNone&&P.stopsHeard&&P.mayEnter&&(c.lifted==P.liftsFinal)&&(P.make==some c.make)&&(c.kinds==(if c.domain.isEmpty then[] else fn.params.toList.map λt=>match P.underlying t with|some (.int k)=>some k|_=>none))&&(c.pinned==c.pinnedBy)&&
 (c.veiled==(fn.params.toList++s.plain.varTypes P++fn.resultTypes.toList).any (P.veiledRec ·))&&c.veiledFits P fn.params.toList (fn.params.toList++s.plain.varTypes P++fn.resultTypes.toList))=true):joinedFacts P f fn s c=true:=by
 unfold joinedFacts;rw[h1,h2,h3,h4,h5];exact h _ rfl
set_option maxHeartbeats 4000000 in
theorem said:Rows.SplitBackSaid:=
 OpenClaim.holds_of_cond 13 Tryz.f13 rfl rfl rfl rfl rfl rfl rfl ⟨rfl,rfl,rfl,rfl,rfl⟩ rfl rfl rfl rfl rfl S9 Tryz.func13 (ach ab6 ab2 ab3 ab4 ab5 acd)
  ab8 ace
  (λos started H enc _ F=>by rw[OpenClaim.pre_eq_preRow];exact Lt.acF os started H enc F)
end jj
end
section
namespace jj
open Go.ChangeShapes Go.WideShapes Go.ChangeAt Go.RowKit Go.Joins Go.Deep
theorem plain(f:FuncId)(fn:Func)(hf:Tryz.pinned.checked.prog.funcNamed "tintype/tintypelaw35.SplitBack"=some f)(hfn:Tryz.pinned.checked.prog.funcs[f]? =some fn):
 true=Tryz.pinned.checked.prog.looks []/\∀(j:Nat) t,fn.params[j]? =some t->Tryz.pinned.checked.prog.wantsStandIn t=false:=by
 obtain rfl:f=13:=jH ((show Tryz.prog.funcNamed "tintype/tintypelaw35.SplitBack"=some 13 from S9).symm.trans hf)|>.symm;obtain rfl:fn=Tryz.f13:=(jH (Tryz.func13.symm.trans hfn)).symm;refine⟨ab9,λj t ht=>?_⟩;rw[Tryz.params13] at ht;have h3:t=24:=by have:=Array.mem_of_getElem? ht;simpa using this
 subst h3;exact(show Tryz.prog.wantsStandIn 24=false by kernel_rfl)
theorem card:Rows.SplitBackCardSaid:=
 Claim7.holds_tied_plain_at .later [] _ _ _ _ said (λ_ h=>by cases h) acf (λ_ h=>by cases h) splitBack_row_tie rfl ⟨rfl,rfl⟩ aca rfl plain ab7
#print axioms card
end jj
end
end
end Go.Proofs.YtcfjfbeadhnknaaGreatDoor

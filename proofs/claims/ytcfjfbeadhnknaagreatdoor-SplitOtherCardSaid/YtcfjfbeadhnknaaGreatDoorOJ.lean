/- Proved: SplitOther holds for every two bundles and every two numbers. Conditions: the library variables that the row lists start as laid. -/
import Derived.Test.YtcfjfbeadhnknaaGreatDoorOI
import Derived.Test.YtcfjfbeadhnknaaGreatDoorOJA
import Derived.Test.YtcfjfbeadhnknaaGreatDoorOJB
import Derived.Test.YtcfjfbeadhnknaaGreatDoorOJC
import Derived.Test.YtcfjfbeadhnknaaGreatDoorOJD
import Derived.Test.YtcfjfbeadhnknaaGreatDoorOJE
import Derived.Test.YtcfjfbeadhnknaaGreatDoorOJF
import Derived.Test.YtcfjfbeadhnknaaGreatDoorOJG
import Derived.Test.YtcfjfbeadhnknaaGreatDoorOJH
import Derived.Test.YtcfjfbeadhnknaaGreatDoorOJI
import Derived.Test.YtcfjfbeadhnknaaGreatDoorOJJ
namespace Go.Proofs.YtcfjfbeadhnknaaGreatDoor
set_option linter.unusedVariables false
set_option linter.unusedSimpArgs false
set_option linter.unusedSectionVars false
set_option linter.constructorNameAsVariable false
set_option maxRecDepth 100000
section
open Go.Proofs.YtcfjfbeadhnknaaGreatDoor
section
namespace lawOther
open Go.ChangeShapes Go.WideShapes Go.ChangeAt Go.RowKit Go.Joins Go.Deep
theorem acN{P:Program}{f:FuncId}{fn:Func}{s:ChangeSpec}{c:OpenClaim}
 (h1:(c.wf (OpenSpec.ofChange s)&&laidOutB P&&mapsRowed P&&fn.params.all (P.readableRec ·)&&namedTie P c.named s.vars&&(c.stops==[])&&(P.stops==[])&&(c.knobs==[])&&(P.stopKnobs==[]))=true)
 (h2:(c.inPlace==P.inPlace f)=true) (h3:(c.unfollowed==P.unfollowed f)=true) (h4:(c.recurses==P.recurses f)=true) (h5:(c.named==P.varsNamed f)=true)
 (h:∀b:Bool,b=true->(b&&(c.maps==(fn.params.toList++s.plain.varTypes P).any (P.mapsRec ·))&&(c.ifaces==(fn.params.toList++s.plain.varTypes P).any (P.ifacesRec ·))&&(c.mapsOut==P.mapsAmong fn.resultTypes.toList)&&
 (c.loops==(fn.params.toList++s.plain.varTypes P).any (P.loopsFrom ·))&&(c.wideKeys==(fn.params.toList++s.plain.varTypes P++fn.resultTypes.toList).any (P.wideKeysFrom ·))&&
 s.vars.all (P.varReadable ·)&&fn.resultTypes.all (λt=>P.readableRec t&&decide (t<P.types.size))&&(c.ifacesOut==fn.resultTypes.toList.any (P.ifacesRec ·))&&(c.loopsOut==fn.resultTypes.toList.any (P.loopsFrom ·))&&(c.plainKeys==P.plainKeys)&&c.shortTexts.isNone&&P.stopsHeard&&P.mayEnter&&(c.lifted==P.liftsFinal)&&(P.make==some c.make)&&(c.kinds==(if c.domain.isEmpty then[] else fn.params.toList.map λt=>match P.underlying t with|some (.int k)=>some k|_=>none))&&(c.pinned==c.pinnedBy)&&
 (c.veiled==(fn.params.toList++s.plain.varTypes P++fn.resultTypes.toList).any (P.veiledRec ·))&&c.veiledFits P fn.params.toList (fn.params.toList++s.plain.varTypes P++fn.resultTypes.toList))=true):joinedFacts P f fn s c=true:=by
 unfold joinedFacts;rw[h1,h2,h3,h4,h5];exact h _ rfl
set_option maxHeartbeats 4000000 in
theorem said:Rows.SplitOtherSaid:=
 OpenClaim.holds_of_cond 10 Tryz.f10 rfl rfl rfl rfl rfl rfl rfl ⟨rfl,rfl,rfl,rfl,rfl⟩ rfl rfl rfl rfl rfl Tj Tryz.func10 (acN acD acz acA acB acC acJ)
  acF acK
  (λos started H enc _ F=>by rw[OpenClaim.pre_eq_preRow];exact Lt.ada os started H enc F)
end lawOther
end
section
namespace lawOther
open Go.ChangeShapes Go.WideShapes Go.ChangeAt Go.RowKit Go.Joins Go.Deep
theorem plain(f:FuncId)(fn:Func)(hf:Tryz.pinned.checked.prog.funcNamed "tintype/tintypelaw35.SplitOther"=some f)(hfn:Tryz.pinned.checked.prog.funcs[f]? =some fn):
 true=Tryz.pinned.checked.prog.looks []/\∀(j:Nat) t,fn.params[j]? =some t->Tryz.pinned.checked.prog.wantsStandIn t=false:=by
 obtain rfl:f=10:=jC ((show Tryz.prog.funcNamed "tintype/tintypelaw35.SplitOther"=some 10 from Tj).symm.trans hf)|>.symm;obtain rfl:fn=Tryz.f10:=(jC (Tryz.func10.symm.trans hfn)).symm;refine⟨acG,λj t ht=>?_⟩;rw[Tryz.params10] at ht;have h3:t=24\/t=24\/t=3\/t=3:=by have:=Array.mem_of_getElem? ht;simpa using this
 rcases h3 with rfl|rfl|rfl|rfl
 ·exact(show Tryz.prog.wantsStandIn 24=false by kernel_rfl)
 ·exact(show Tryz.prog.wantsStandIn 24=false by kernel_rfl)
 ·exact(show Tryz.prog.wantsStandIn 3=false by kernel_rfl)
 ·exact(show Tryz.prog.wantsStandIn 3=false by kernel_rfl)
theorem card:Rows.SplitOtherCardSaid:=
 Claim7.holds_tied_plain_at .later [] _ _ _ _ said (λ_ h=>by cases h) acL (λ_ h=>by cases h) splitOther_row_tie rfl ⟨rfl,rfl⟩ acH rfl plain acE
#print axioms card
end lawOther
end
end
end Go.Proofs.YtcfjfbeadhnknaaGreatDoor

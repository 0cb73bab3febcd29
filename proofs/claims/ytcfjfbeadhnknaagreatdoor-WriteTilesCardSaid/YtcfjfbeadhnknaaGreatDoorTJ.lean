/- Proved: for every bundle the statement tintypelaw31.WriteTiles returns true and leaves its argument as it was. Conditions: the library variables that the row lists start as laid. -/
import Derived.Test.YtcfjfbeadhnknaaGreatDoorTI
import Derived.Test.YtcfjfbeadhnknaaGreatDoorTJA
import Derived.Test.YtcfjfbeadhnknaaGreatDoorTJB
import Derived.Test.YtcfjfbeadhnknaaGreatDoorTJC
import Derived.Test.YtcfjfbeadhnknaaGreatDoorTJD
import Derived.Test.YtcfjfbeadhnknaaGreatDoorTJE
import Derived.Test.YtcfjfbeadhnknaaGreatDoorTJF
import Derived.Test.YtcfjfbeadhnknaaGreatDoorTJG
import Derived.Test.YtcfjfbeadhnknaaGreatDoorTJH
import Derived.Test.YtcfjfbeadhnknaaGreatDoorTJI
import Derived.Test.YtcfjfbeadhnknaaGreatDoorTJJ
namespace Go.Proofs.YtcfjfbeadhnknaaGreatDoor
set_option linter.unusedVariables false
set_option linter.unusedSimpArgs false
set_option linter.unusedSectionVars false
set_option linter.constructorNameAsVariable false
set_option maxRecDepth 100000
section
set_option linter.unusedVariables false
set_option linter.unusedSimpArgs false
set_option linter.unusedSectionVars false
set_option linter.constructorNameAsVariable false
open Go.Proofs.YtcfjfbeadhnknaaGreatDoor
section
namespace lawTiles
open Go.ChangeShapes Go.WideShapes Go.ChangeAt Go.RowKit Go.Joins Go.Deep
theorem Zg{P:Program}{f:FuncId}{fn:Func}{s:ChangeSpec}{c:OpenClaim}
 (h1:(c.wf (OpenSpec.ofChange s)&&laidOutB P&&mapsRowed P&&fn.params.all (P.readableRec ·)&&namedTie P c.named s.vars&&(c.stops==[])&&(P.stops==[])&&(c.knobs==[])&&(P.stopKnobs==[]))=true)
 (h2:(c.inPlace==P.inPlace f)=true) (h3:(c.unfollowed==P.unfollowed f)=true) (h4:(c.recurses==P.recurses f)=true) (h5:(c.named==P.varsNamed f)=true)
 (h:∀b:Bool,b=true->(b&&(c.maps==(fn.params.toList++s.plain.varTypes P).any (P.mapsRec ·))&&(c.ifaces==(fn.params.toList++s.plain.varTypes P).any (P.ifacesRec ·))&&(c.mapsOut==P.mapsAmong fn.resultTypes.toList)&&
 (c.loops==(fn.params.toList++s.plain.varTypes P).any (P.loopsFrom ·))&&(c.wideKeys==(fn.params.toList++s.plain.varTypes P++fn.resultTypes.toList).any (P.wideKeysFrom ·))&&
 s.vars.all (P.varReadable ·)&&fn.resultTypes.all (λt=>P.readableRec t&&decide (t<P.types.size))&&(c.ifacesOut==fn.resultTypes.toList.any (P.ifacesRec ·))&&(c.loopsOut==fn.resultTypes.toList.any (P.loopsFrom ·))&&(c.plainKeys==P.plainKeys)&&c.shortTexts.isNone&&P.stopsHeard&&P.mayEnter&&(c.lifted==P.liftsFinal)&&(P.make==some c.make)&&(c.kinds==(if c.domain.isEmpty then[] else fn.params.toList.map λt=>match P.underlying t with|some (.int k)=>some k|_=>none))&&(c.pinned==c.pinnedBy)&&
 (c.veiled==(fn.params.toList++s.plain.varTypes P++fn.resultTypes.toList).any (P.veiledRec ·))&&c.veiledFits P fn.params.toList (fn.params.toList++s.plain.varTypes P++fn.resultTypes.toList))=true):joinedFacts P f fn s c=true:=by
 unfold joinedFacts
 rw[h1,h2,h3,h4,h5]
 exact h _ rfl
set_option maxHeartbeats 4000000 in
theorem said:Rows.WriteTilesSaid:=
 OpenClaim.holds_of_cond 4 Tryz.f4 rfl rfl rfl rfl rfl rfl rfl ⟨rfl,rfl,rfl,rfl,rfl⟩ rfl rfl rfl rfl rfl QI Tryz.func4 (Zg Y6 Y2 Y3 Y4 Y5 Zc)
  Y8 Zd
  (λos started H enc _ F=>by rw[OpenClaim.pre_eq_preRow];exact Lt.Zz os started H enc F)
end lawTiles
end
section
namespace lawTiles
open Go.ChangeShapes Go.WideShapes Go.ChangeAt Go.RowKit Go.Joins Go.Deep
theorem plain(f:FuncId)(fn:Func)(hf:Tryz.pinned.checked.prog.funcNamed "tintype/tintypelaw31.WriteTiles"=some f)(hfn:Tryz.pinned.checked.prog.funcs[f]? =some fn):
 true=Tryz.pinned.checked.prog.looks []/\∀(j:Nat) t,fn.params[j]? =some t->Tryz.pinned.checked.prog.wantsStandIn t=false:=by
 obtain rfl:f=4:=kG ((show Tryz.prog.funcNamed "tintype/tintypelaw31.WriteTiles"=some 4 from QI).symm.trans hf)|>.symm
 obtain rfl:fn=Tryz.f4:=(kG (Tryz.func4.symm.trans hfn)).symm
 refine⟨Y9,λj t ht=>?_⟩
 rw[Tryz.params4] at ht
 have h3:t=24:=by
  have:=Array.mem_of_getElem? ht
  simpa using this
 subst h3
 exact(show Tryz.prog.wantsStandIn 24=false by kernel_rfl)
theorem card:Rows.WriteTilesCardSaid:=
 Claim7.holds_tied_plain_at .later [] _ _ _ _ said (λ_ h=>by cases h) Ze (λ_ h=>by cases h) writeTiles_row_tie rfl ⟨rfl,rfl⟩ Za rfl plain Y7
#print axioms card
end lawTiles
end
end
end Go.Proofs.YtcfjfbeadhnknaaGreatDoor

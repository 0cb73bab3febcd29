import Derived.RangeFuncNested
import Derived.RangeFuncBound
import Derived.RangeFuncCalls
import Derived.RangeFuncLeaves
import Derived.Shelf.Abstract
import Derived.Shelf.RegionOpen
import Derived.WalkKit
import Derived.OwnWalkIn
import Derived.TacticsInMore
import Derived.LoopNIn
import Derived.LoopIn
import Derived.Test.YtcfjfbeadhnknaaGreatDoorBC
namespace Go.Proofs.YtcfjfbeadhnknaaGreatDoor
set_option linter.unusedVariables false
set_option linter.unusedSimpArgs false
set_option linter.unusedSectionVars false
set_option linter.constructorNameAsVariable false
section
open Go.RowKit Go.Shelf
variable{n:Nat} {P:Program}
def kM(fn:FuncId)(tmps:Array Value)(ps:Array Tmp)(assign body:Code)(D:Nat)(st:LoopState):Loop:={state:=st,pending:=none,fn,tmps,params:=ps,assign,body,defers:=D}
theorem Vj{l D:Nat}{fn:FuncId}{tmps:Array Value}{ps:Array Tmp}{assign body:Code}{args:Array Value}{W:World}{R:World->Prop}(hl:W.heap[l]? =some (.loop (kM fn tmps ps assign body D .ready)))(hps:args.size=ps.size)
 (h:assign.wpIn (Fence.wide.inRound l) n P (Exit.then (λa' Wa=>Wa.heap[l]? =some (.loop (kM fn tmps ps assign body D .ready))/\
  body.wpIn (Fence.wide.inRound l) n P (Exit.then (λ_ W3=>W3.heap[l]? =some (.loop (kM fn tmps ps assign body D .busy))/\R (W3.putObj l (.loop (kM fn tmps ps assign body D .ready)))) (λ_ _ _=>False)) a' (Wa.putObj l (.loop (kM fn tmps ps assign body D .busy)))) (λ_ _ _=>False))
  {tmps:=(ps.zip args).foldl (λt (p,v)=>t.setIfInBounds p v) tmps,defers:=[]} W):
 YieldAt Fence.wide n P l args W λe W'=>e=.returned (.bool true)/\R W':=by
 refine⟨fn,_,assign,body,run_yield (P:=P) (args:=args) hl hps,roundIn_of_wpIn trivial (wpIn_mono h ?_)⟩
 rintro (_|_|_|_|_|_) a' Wa q
 case normal=>
  obtain⟨q1,q2⟩:=q;refine⟨_,run_beginRound q1 rfl,wpIn_mono q2 ?_⟩
  rintro (_|_|_|_|_|_) a3 W3 r
  case normal=>exact⟨_,_,run_endRound none r.1,rfl,r.2⟩
  all_goals exact r.elim
 all_goals exact q.elim
theorem Lk{g:Operand}{ps:Array Tmp}{assign body:Code}{Q:Exit->Act->World->Prop}{a:Act}{w:World}{gf:Nat}{lb:Array Value}(hg:a.eval g=.func (.func gf) #[] lb)(eg:∀args w,(callFunc gf args).run P w=.ok (.enter gf args) w)
 (h:∀fn W1,W1=(w.alloc (.deferred (some []))).alloc (.loop (kM fn a.tmps ps assign body w.heap.size .ready))->
  Calls P gf (#[.func (.yield (w.heap.size+1)) #[] #[]]++lb) W1 λe W2=>(∃v,e=.returned v)/\W2.heap[w.heap.size+1]? =some (.loop (kM fn a.tmps ps assign body w.heap.size .ready))/\
   Q .normal {a with defers:={target:=.collected w.heap.size,args:=#[]}::a.defers} (W2.putObj (w.heap.size+1) (.loop (kM fn a.tmps ps assign body w.heap.size .exhausted)))):
 (Code.rangeFunc g ps assign body).wpIn Fence.wide n P Q a w:=by
 refine wpIn_rangeFunc ?_;intro fn _;obtain⟨W1,hW⟩:∃W1,W1=(w.alloc (.deferred (some []))).alloc (.loop (kM fn a.tmps ps assign body w.heap.size .ready)):=⟨_,rfl⟩;refine⟨w.heap.size+1,_,W1,{target:=.fn (.func gf) lb,args:=#[.func (.yield (w.heap.size+1)) #[] #[]]},W1,gf,#[.func (.yield (w.heap.size+1)) #[] #[]]++lb,W1,hW▸run_enterLoop_outer _ _ _ _ _,?_,λ_ _=>trivial,?_,?_,?_⟩
 ·simp only[resolve,hg];simp[go_sem]
 ·simp[invoke,go_sem,eg]
 ·intro q;exact absurd q (by simp[Fence.wide])
 ·refine callsIn_wide.2 ((h fn W1 hW).mono ?_)
  rintro e W2 ⟨⟨v,rfl⟩,h1,h2⟩
  exact⟨none,_,run_endLoop h1 (by simp[kM]),h2⟩
end
end Go.Proofs.YtcfjfbeadhnknaaGreatDoor

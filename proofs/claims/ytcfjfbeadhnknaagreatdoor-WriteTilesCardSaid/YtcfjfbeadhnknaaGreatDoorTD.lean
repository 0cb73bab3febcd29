import Derived.RangeFuncNested
import Derived.RangeFuncBound
import Derived.RangeFuncCalls
import Derived.RangeFuncLeaves
import Derived.Shelf.Abstract
import Derived.Shelf.RegionOpen
import Derived.WalkKit
import Derived.OwnWalkIn
import Derived.TacticsInMore
import Derived.LoopNIn
import Derived.LoopIn
import Derived.Test.YtcfjfbeadhnknaaGreatDoorTC
namespace Go.Proofs.YtcfjfbeadhnknaaGreatDoor
set_option linter.unusedVariables false
set_option linter.unusedSimpArgs false
set_option linter.unusedSectionVars false
set_option linter.constructorNameAsVariable false
namespace Lt
section
set_option linter.unusedVariables false
set_option linter.unusedSimpArgs false
set_option linter.unusedSectionVars false
set_option linter.constructorNameAsVariable false
abbrev bG(m:Nat->Nat->Option Value):=PW (aJ m)
abbrev N0(P:Program)(g:FuncId)(us:List Value)(pv:Value):Prop:=wg P g us λm v=>aJ m pv v
theorem cg.mk{P:Program}{g:FuncId}{avt:List VT}{rvt:VT}{Sh:Fn (VT.fP avt) (Option (bL rvt.ks))}
 (H:∀ls r,iz (VT.fP avt) Sh ls=some r->fg ls->∀us,fL avt ls=some (us,[])->fg (gH rvt.ks r)/\∃pv,jN rvt (gH rvt.ks r)=some (pv,[])/\N0 P g us pv):cg P g avt rvt Sh:=λls r e lo us hu m args' w K A=>by
 obtain⟨h1,pv,h2,h3⟩:=H ls r e lo us hu
 exact(h3 m args' w K A).mono λx w' ⟨v,a,b,c⟩=>⟨v,a,b,pv,h2,h1,c⟩
def Jf:Value->Bool
 | .func (.via _ _ 7 _) _ _=>true
 |_=>false
theorem Dl{w:World}{b i:Nat}{v:Value}(ht:Jf v=false)(h:fH w b i=some v):w.cell? ⟨b,i,none⟩=some v:=by
 unfold fH at h
 split at h
 ·cases h;cases ht
 grind
abbrev gu(v:Value):Prop:=bc [v]=true
theorem bG.length{m:Nat->Nat->Option Value}{xs ys:List Value}(h:bG m xs ys):xs.length=ys.length:=h.1
theorem bG.get{m:Nat->Nat->Option Value}{xs ys:List Value}(h:bG m xs ys){i:Nat}{x:Value}(e:xs[i]? =some x):∃y,ys[i]? =some y/\aJ m x y:=PW.get h e
theorem aJ.Ru{m:Nat->Nat->Option Value}{v v':Value}(h:aJ m v v'):Jf v'=false:=by cases h<;>rfl
theorem aJ.X5{m:Nat->Nat->Option Value}{f:FuncId}:aJ m (.func (.func f) #[] #[]) (.func (.func f) #[] #[]):=.fn rfl (λi x y h=>by simp at h) rfl λi x y h=>by simp at h
theorem aJ.row{m:Nat->Nat->Option Value}{n c:Nat}{cs ys:List Value}{a:Addr}(r:bG m cs ys)(hm:∀(i:Nat) y,ys[i]? =some y->m a.block (a.off+i)=some y)(hs:a.spot=none)(hn:n<=c)(ho:bc cs=true):aJ m (ae n cs) (.slice (some a) n c):=.lC r.1 r.2 hm hs hn ho
theorem aJ.JD{m:Nat->Nat->Option Value}{xs ys:List Value}(h:bG m xs ys):aJ m (.agg ⟨xs⟩) (.agg ⟨ys⟩):=.agg h.1 h.2
end
section
set_option linter.unusedVariables false
set_option linter.unusedSimpArgs false
set_option linter.unusedSectionVars false
set_option linter.constructorNameAsVariable false
def qO:List Value->Option (List Int)
 |[]=>some []
 | .int .u8 b::l=>ob (qO l) λxs=>some (b::xs)
 |_=>none
theorem V4:∀{l:List Value}{xs:List Int},qO l=some xs->xs.length=l.length/\∀i,i<xs.length->l[i]? =some (.int .u8 (xs.getD i 0))
 |[],_,e=>by cases e;exact⟨rfl,λi h=>by simp at h⟩
 |v::l,xs,e=>by
  unfold qO at e
  split at e
  ·rename_i q;cases q
  ·rename_i b l' q
   cases q
   replace e:=ar e;obtain⟨ys,h1,e⟩:=e
   cases e
   obtain⟨k1,k2⟩:=V4 h1
   refine⟨by simp[k1],λi h=>?_⟩
   cases i with
   |zero=>simp
   |succ i=>simp at h;simpa using k2 i h
  ·cases e
def kI{β:Type}(x:Value)(K:List Int->Option β):Option β:=match x with
 | .func (.via n _ 0 true) cs _=>cond (Nat.ble n cs.toList.length) (ob (qO (cs.toList.take n)) K) none
 |_=>none
theorem yV{β:Type}{m:Nat->Nat->Option Value}{w:World}(hm:Kn m w){x v:Value}{K:List Int->Option β}{b:β}(e:kI x K=some b)(h:aJ m x v):
 ∃(xs:List Int),K xs=some b/\((∃a c,v=.slice (some a) xs.length c/\xs.length<=c/\∀i,i<xs.length->w.cell? (a.add i)=some (.int .u8 (xs.getD i 0)))\/(xs=[]/\∃c,v=.slice none 0 c)):=by
 unfold kI at e
 split at e
 case h_2=>cases e
 rename_i n p cs ys
 obtain⟨e1,e2⟩:=aY e
 clear e
 have e1:=dY e1
 replace e2:=ar e2;obtain⟨xs,h1,h2⟩:=e2
 obtain⟨k1,k2⟩:=V4 h1
 have hl:xs.length=n:=by rw[k1,dI];omega
 refine⟨xs,h2,?_⟩
 cases h with
 |lC r1 r2 q hs hn ho=>
  have r:bG m cs.toList _:=⟨r1,r2⟩
  rename_i c a zs
  subst hl
  refine .inl ⟨a,c,rfl,hn,λi hi=>?_⟩
  have h3:=k2 i hi
  have h4:cs.toList[i]? =some (.int .u8 (xs.getD i 0)):=by rw[<-h3,List.getElem?_take_of_lt hi]
  obtain⟨y,y1,y2⟩:=r.get h4
  cases y2
  have h5:=Dl rfl (hm _ _ _ (q i _ y1))
  rw[<-h5]
  obtain⟨blk,off,sp⟩:=a
  have hs:sp=none:=hs
  subst hs
  unfold Addr.add
  split
  ·rename_i h0;subst h0;rfl
  ·rfl
 |@gO c a=>
  have:xs=[]:=kR hl
  subst this
  rcases a with _|a
  ·exact .inr ⟨rfl,c,rfl⟩
  ·exact .inl ⟨a,c,rfl,iu _,λi hi=>by simp at hi⟩
end
end Lt
section
set_option linter.unusedVariables false
set_option linter.unusedSimpArgs false
set_option linter.unusedSectionVars false
set_option linter.constructorNameAsVariable false
open Go.RowKit Go.Shelf
variable{n:Nat} {P:Program}
def jz(fn:FuncId)(tmps:Array Value)(ps:Array Tmp)(assign body:Code)(D:Nat)(st:LoopState):Loop:={state:=st,pending:=none,fn,tmps,params:=ps,assign,body,defers:=D}
theorem KQ{l D:Nat}{fn:FuncId}{tmps:Array Value}{ps:Array Tmp}{assign body:Code}{args:Array Value}{W:World}{R:World->Prop}(hl:W.heap[l]? =some (.loop (jz fn tmps ps assign body D .ready)))(hps:args.size=ps.size)
 (h:assign.wpIn (Fence.wide.inRound l) n P (Exit.then (λa' Wa=>Wa.heap[l]? =some (.loop (jz fn tmps ps assign body D .ready))/\
  body.wpIn (Fence.wide.inRound l) n P (Exit.then (λ_ W3=>W3.heap[l]? =some (.loop (jz fn tmps ps assign body D .busy))/\R (W3.putObj l (.loop (jz fn tmps ps assign body D .ready)))) (λ_ _ _=>False)) a' (Wa.putObj l (.loop (jz fn tmps ps assign body D .busy)))) (λ_ _ _=>False))
  {tmps:=(ps.zip args).foldl (λt (p,v)=>t.setIfInBounds p v) tmps,defers:=[]} W):
 YieldAt Fence.wide n P l args W λe W'=>e=.returned (.bool true)/\R W':=by
 refine⟨fn,_,assign,body,run_yield (P:=P) (args:=args) hl hps,roundIn_of_wpIn trivial (wpIn_mono h ?_)⟩
 rintro (_|_|_|_|_|_) a' Wa q
 case normal=>
  obtain⟨q1,q2⟩:=q
  refine⟨_,run_beginRound q1 rfl,wpIn_mono q2 ?_⟩
  rintro (_|_|_|_|_|_) a3 W3 r
  case normal=>exact⟨_,_,run_endRound none r.1,rfl,r.2⟩
  all_goals exact r.elim
 all_goals exact q.elim
theorem D9{g:Operand}{ps:Array Tmp}{assign body:Code}{Q:Exit->Act->World->Prop}{a:Act}{w:World}{gf:Nat}{lb:Array Value}(hg:a.eval g=.func (.func gf) #[] lb)(eg:∀args w,(callFunc gf args).run P w=.ok (.enter gf args) w)
 (h:∀fn W1,W1=(w.alloc (.deferred (some []))).alloc (.loop (jz fn a.tmps ps assign body w.heap.size .ready))->
  Calls P gf (#[.func (.yield (w.heap.size+1)) #[] #[]]++lb) W1 λe W2=>(∃v,e=.returned v)/\W2.heap[w.heap.size+1]? =some (.loop (jz fn a.tmps ps assign body w.heap.size .ready))/\
   Q .normal {a with defers:={target:=.collected w.heap.size,args:=#[]}::a.defers} (W2.putObj (w.heap.size+1) (.loop (jz fn a.tmps ps assign body w.heap.size .exhausted)))):
 (Code.rangeFunc g ps assign body).wpIn Fence.wide n P Q a w:=by
 refine wpIn_rangeFunc ?_
 intro fn _
 obtain⟨W1,hW⟩:∃W1,W1=(w.alloc (.deferred (some []))).alloc (.loop (jz fn a.tmps ps assign body w.heap.size .ready)):=⟨_,rfl⟩
 refine⟨w.heap.size+1,_,W1,{target:=.fn (.func gf) lb,args:=#[.func (.yield (w.heap.size+1)) #[] #[]]},W1,gf,#[.func (.yield (w.heap.size+1)) #[] #[]]++lb,W1,hW▸run_enterLoop_outer _ _ _ _ _,?_,λ_ _=>trivial,?_,?_,?_⟩
 ·simp only[resolve,hg]
  simp[go_sem]
 ·simp[invoke,go_sem,eg]
 ·intro q;exact absurd q (by simp[Fence.wide])
 ·refine callsIn_wide.2 ((h fn W1 hW).mono ?_)
  rintro e W2 ⟨⟨v,rfl⟩,h1,h2⟩
  exact⟨none,_,run_endLoop h1 (by simp[jz]),h2⟩
end
end Go.Proofs.YtcfjfbeadhnknaaGreatDoor

import Derived.Recover
import Derived.Still
import Derived.Laws.BitsLemmas
import Derived.Test.YtcfjfbeadhnknaaGreatDoorChecked
import Derived.KernelRfl
import Derived.Eval
import Derived.RangeFuncNested
import Derived.RangeFuncBound
import Derived.RangeFuncCalls
import Derived.RangeFuncLeaves
import Derived.Shelf.Abstract
import Derived.Shelf.RegionOpen
import Derived.WalkKit
import Derived.OwnWalkIn
import Derived.TacticsInMore
import Derived.LoopNIn
import Derived.LoopIn
import Derived.Test.YtcfjfbeadhnknaaGreatDoorDB
namespace Go.Proofs.YtcfjfbeadhnknaaGreatDoor
set_option linter.unusedVariables false
set_option linter.unusedSimpArgs false
set_option linter.unusedSectionVars false
set_option linter.constructorNameAsVariable false
set_option maxRecDepth 100000
namespace Lt
section
variable{β:Type}
structure HT where
 n:Nat
 ti:cQ
 an:Nat
 to:cQ
theorem AZ{t:cQ}{ls:qr bt}{st:St}(e:iE t ls=some st):st.sx=t.sx:=by
 obtain⟨p,h1,e⟩:=ax e;obtain⟨q,h2,e⟩:=ax e
 grind
def uz(t:cQ):VT:=match t.Ir with
 |(_,v)::_=>v
 |[]=>.b
def Fs:Nat->VT->Bool
 |0,_=>false
 |f+1,t=>match t with
  | .agg l=>l.all (Fs f)
  | .aG l=>l.all (Fs f)
  | .i _=>true
  | .b=>true
  | .s=>true
  | .v=>true
  |_=>false
def xI:Nat->SV->qr Nat
 |0,_=>[]
 |f+1,x=>match x with
  | .agg l=>l.flatMap (xI f)
  | .aG l=>l.flatMap (xI f)
  | .gr id _=>[id]
  |_=>[]
def uC(h:Tr SO):qr Nat->Tr SO
 |[]=>.nil
 |i::l=>match h.get i with
  |some s=>(uC h l).set i s
  |none=>uC h l
def vj(h:Tr SO):qr Nat->Tr SO
 |[]=>h
 |i::l=>(vj h l).del i
theorem CV{h:Tr SO}{i:Nat}{s:SO}:∀{l:qr Nat},(uC h l).get i=some s->h.get i=some s/\i∈l
 |[],q=>by have q:(Tr.nil:Tr SO).get i=some s:=q;rw[Tr.get_nil] at q;cases q
 |j::l,q=>by
  unfold uC at q;split at q
  ·rename_i s' hs;rw[Tr.fN] at q;by_cases z:i=j
   ·grind
   ·rw[aq z] at q;have:=CV q;simp_all
  ·have:=CV q
   grind
theorem DP{h:Tr SO}{i:Nat}{s:SO}:∀{l:qr Nat},(vj h l).get i=some s->h.get i=some s/\i∉l
 |[],q=>⟨q,by simp⟩
 |j::l,q=>by
  have q:((vj h l).del j).get i=some s:=q;rw[Tr.rY] at q;by_cases z:i=j
  ·grind
  ·rw[aq z] at q;have:=DP q
   grind
def vY(h:Tr SO):Nat->SV->Hx SV
 |0,_=>none
 |f+1,x=>match x with
  | .agg l=>ob (tH (vY h f) l) λp=>some (.agg p)
  | .aG l=>ob (tH (vY h f) l) λp=>some (.aG p)
  | .i k n=>some (.i k n)
  | .b q=>some (.b q)
  | .s q=>some (.s q)
  |x=>ob (gv h 1 x) λu=>some (.v u)
def rz(t:VT)(sv:SV)(st:St)(K:SV->St->Hx β):Hx β:=match t,sv with
 | .aG ts,.aG l=>cond (Fs 5 (.aG ts)&&!(xI 5 (.aG l)).isEmpty) (ob (vY (uC st.h (xI 5 (.aG l))) 5 (.aG l)) λp=>K p {st with h:=vj st.h (xI 5 (.aG l))}) (K (.aG l) st)
 | .v,.gr id E=>ob (vY (uC st.h [id]) 1 (.gr id E)) λp=>K p {st with h:=vj st.h [id]}
 |_,sv=>K sv st
theorem Nd{σ:Ren}{m:Nat->Nat->Hx H1}{h:Tr SO}{w:jp}(S:Seen σ m h w):∀(f:Nat)(x x':SV)(v:H1),vY h f x=some x'->DV σ x v->DV ⟨σ.nm,m⟩ x' v
 |0,x,p,v,e,_=>by cases e
 |f+1,x,p,v,e,d=>by
  unfold vY at e;split at e
  ·obtain⟨q,h1,e⟩:=ax e;cases e;cases d with
   |agg hl ds=>have q:=vw (λx u v=>Nd S f x u v) h1 ⟨hl,ds⟩;exact .agg q.1 q.2
  ·obtain⟨q,h1,e⟩:=ax e;cases e;cases d with
   |aG hl ds=>have q:=vw (λx u v=>Nd S f x u v) h1 ⟨hl,ds⟩;exact .aG q.1 q.2
  ·cases e;cases d;exact .i _ _
  ·cases e;cases d;exact .b _
  ·cases e;cases d;exact .s _
  ·obtain⟨u,h1,e⟩:=ax e;cases e;obtain⟨a,b⟩:=oC S 1 _ _ _ h1 d;exact .v a b
theorem FV{t:VT}{sv:SV}{st:St}{K:SV->St->Hx β}{b:β}(e:rz t sv st K=some b):
 ∃sv2 st2,K sv2 st2=some b/\∀{B:Bs}{σ:Ren}{w:jp}{v:H1},DV σ sv v->jc B σ st.h st.sx w->∃σ',DV σ' sv2 v/\jc B σ' st2.h st2.sx w:=by
 have key:∀{ids:qr Nat}{f:Nat}{p:SV},vY (uC st.h ids) f sv=some p->∀{B:Bs}{σ:Ren}{w:jp}{v:H1},DV σ sv v->jc B σ st.h st.sx w->∃σ',DV σ' p v/\jc B σ' (vj st.h ids) st.sx w:=λ{ids f p} h B σ w v d M=>
  ⟨_,Nd (M.seen λi s h=>(CV h).1) _ _ _ _ h d,(M.AE (A:=hG (uC st.h ids)) (G':=hG (vj st.h ids)) (λi s h=>(CV h).1) (λi s h=>⟨s,(DP h).1,λs' q=>(DP h).2 (CV q).2⟩) λE i s h=>(M.obj i s (DP h).1).mono E λ_ _ _=>rfl).2⟩
 unfold rz at e;split at e
 ·rename_i ts l;generalize xI 5 (.aG l)=ids at e;cases hc:Fs 5 (.aG ts)&&!ids.isEmpty with
  |false=>rw[hc] at e;exact⟨_,_,e,λd M=>⟨_,d,M⟩⟩
  |true=>rw[hc] at e;obtain⟨p,h1,f⟩:=ax e;exact⟨_,_,f,key h1⟩
 ·obtain⟨p,h1,f⟩:=ax e;exact⟨_,_,f,key h1⟩
 ·exact⟨_,_,e,λd M=>⟨_,d,M⟩⟩
def C8(P:Program)(g:FuncId)(n an:Nat)(st so:St)(p:Bool):Prop:=∀{B:Bs}{σ:Ren}{w:jp}(args':Array H1),args'.size=n->B.an=an->Ev σ st.tm ⟨args',[]⟩->jc B σ st.h st.sx w->
 Calls P g args' w λx w'=>∃σ' v,x=End p v/\(∀sv,so.tm.get 0=some sv->DV σ' sv v)/\jc B σ' so.h so.sx w'
def nt(P:Program)(g:FuncId)(T:HT)(Sh:Fn T.ti.ks (Hx (bO T.to.ks))):Prop:=
 ∀ls r st so,iM T.ti.ks Sh ls=some r->iE T.ti ls=some st->iE T.to (gS T.to.ks r)=some so->C8 P g T.n T.an st so false
theorem Mem.nd{B:Bs}{σ:Ren}{G:Nat->SO->Prop}{F:Nat->Prop}{w:jp}{n:Nat}{dX:qr Deferred}(M:Mem B σ G F w):Mem {B with n:=n,dX:=dX} σ G F w:=⟨M.obj,M.inj,M.fresh,M.lit,M.free,M.base,M.owned,M.mj,M.kE,M.nM⟩
theorem yn{B:Bs}{to:cQ}{sv:SV}{st so:St}{K:qr bt->Hx β}{b:β}{L:qr bt}(e:kZ B.an to ⟨Tr.nil.set 0 sv,st.h,st.sx⟩ K=some b)(hL:∀ls,K ls=some b->L=ls)(hso:iE to L=some so){σ:Ren}{w:jp}{v:H1}(d:DV σ sv v)(M:jc B σ st.h st.sx w):
 ∃σ',(∀sv,so.tm.get 0=some sv->DV σ' sv v)/\jc B σ' so.h so.sx w:=by
 obtain⟨ls,q1,st',q2,_,q4⟩:=vn e;rw[hL _ q1,q2] at hso;cases hso;obtain⟨σ',z1,z2⟩:=q4 (σ:=σ) (a:=⟨#[v],[]⟩) (w:=w) (λt x h=>by
  rw[Tr.fN] at h;split at h
  ·rename_i q;subst q;cases h;exact d
  ·rw[Tr.get_nil] at h;cases h) M
 exact⟨σ',λx h=>z1 0 x h,z2⟩
noncomputable def Ju[QF](w:Nat)(X:eL)(pt:(β:Type)->FuncId->Hx (cH β))(fn:Func)(T:HT)(lv jv:Nat->Hx cQ)(un:Nat->Bool):Fn T.ti.ks (Hx (bO T.to.ks)):=
 lX T.ti.ks λls=>ob (iE T.ti ls) λst=>dn {X:=X,pt:=pt _,n:=T.n+(fn.ntmps -T.n),rs:=fn.results.toList,lv:=lv,jv:=jv,un:=un,df:=false,fuel:=w,an:=T.an,iD:=λsv st=>rz (uz T.to) sv st λsv st=>kZ T.an T.to ⟨Tr.nil.set 0 sv,st.h,st.sx⟩ (dec T.to.ks),mf:=λ_ _=>bJ 52} 100000 [] [.code (fn.body.getD .skip)] st
theorem Eb[QF]{P:Program}{X:eL}(OK:iR P X)(mx:P.follows .mixedOrders=true){pt:(β:Type)->FuncId->Hx (cH β)}(PT:ju P pt){g:FuncId}{fn:Func}{T:HT}{lv jv:Nat->Hx cQ}{un:Nat->Bool}{w:Nat}{Sh:Fn T.ti.ks (Hx (bO T.to.ks))}
 (hF:X.F.get g=some fn) (hb:fn.body=some (fn.body.getD .skip)) (hS:Sh=Ju w X pt fn T lv jv un):nt P g T Sh:=by
 intro ls r st so e hst hso B σ w0 args' hn ha ev M;subst hS;have e1:=nB _ _ _ _ e;obtain⟨st1,g1,e2⟩:=ax e1;rw[hst] at g1;cases g1;refine Aq (B:={B with n:=T.n+(fn.ntmps -T.n),dX:=[]}) (OK.F _ _ hF).1 hb rfl rfl (tB OK mx (PT _) rfl rfl ha _ _ _ _ _ e2 (λr hr=>by cases hr) ⟨by simp[hn],rfl,tF ev,M.nd⟩) λR d=>⟨λkr=>?_,λkp=>by cases kp⟩
 obtain⟨sv2,st2,k1,k2⟩:=FV (t:=uz T.to) (K:=λsv st=>kZ T.an T.to ⟨Tr.nil.set 0 sv,st.h,st.sx⟩ (dec T.to.ks)) kr;obtain⟨σ2,d2,M2⟩:=k2 d R.mem.nd;obtain⟨σ3,z1,z2⟩:=yn (B:=B) (by rw[ha];exact k1) (λls q=>qj _ _ _ q) hso d2 M2;exact⟨σ3,_,rfl,z1,z2⟩
mutual
def pN(f:Nat->Nat):SV->SV
 | .ptr id off=>.ptr (f id) off
 | .sl id off n c=>.sl (f id) off n c
 | .gr id E=>.gr (f id) E
 | .agg l=>.agg (tZ f l)
 | .aG l=>.aG (tZ f l)
 | .fn g l=>.fn g (tZ f l)
 | .fO t x=>.fO t (pN f x)
 | .em b=>.em b
 | .ni=>.ni
 | .mp id=>.mp (f id)
 | .i k n=>.i k n
 | .b x=>.b x
 | .s x=>.s x
 | .v x=>.v x
 | .nl=>.nl
 | .lp c=>.lp c
def tZ(f:Nat->Nat):qr SV->qr SV
 |[]=>[]
 |x::xs=>pN f x::tZ f xs
end
def FF(f:Nat->Nat):SO->SO
 | .cells c t=>.cells (tZ f c) t
 | .arr c t=>.arr c t
 | .grow E c t=>.grow E c t
 | .mp es=>.mp (es.map λe=>(e.1,pN f e.2))
theorem WA{f:Nat->Nat}:∀l:qr SV,tZ f l=l.map (pN f)
 |[]=>rfl
 |x::l=>by unfold tZ;rw[WA l];rfl
theorem FG{σ':Ren}{f:Nat->Nat}{l:qr SV}{ys:qr H1}(hl:l.length=ys.length)(ih:∀(i:Nat) x y,l[i]? =some x->ys[i]? =some y->DV σ' (pN f x) y):fm σ' (tZ f l) ys:=by rw[WA];refine⟨by simp[hl],λi x y a b=>?_⟩;rw[List.getElem?_map] at a;obtain⟨x',a1,rfl⟩:=Option.map_eq_some_iff.1 a;exact ih i x' y a1 b
theorem MW{σ σ':Ren}{f:Nat->Nat}(hl:σ'.lit=σ.lit)(e:∀k x,σ.nm k=some x->σ'.nm (f k)=some x){x:SV}{v:H1}(d:DV σ x v):DV σ' (pN f x) v:=by
 induction d with
 |i=>exact .i _ _
 |b=>exact .b _
 |s=>exact .s _
 |v h h1=>exact .v (hl▸h) h1
 |nl=>exact .nl
 |agg kl _ ih=>have q:=FG kl ih;exact .agg q.1 q.2
 |aG kl _ ih=>have q:=FG kl ih;exact .aG q.1 q.2
 |ptr h=>exact .ptr (e _ _ h)
 |lp h=>exact .lp (hl▸h)
 |sl h hn=>exact .sl (e _ _ h) hn
 |jP h=>exact .jP (e _ _ h)
 |gr h hc hn=>exact .gr (e _ _ h) hc hn
 |fn kl _ ih=>have q:=FG kl ih;exact .fn q.1 q.2
 |fO _ ih=>exact .fO ih
 |em h=>exact .em (hl▸h)
 |ni=>exact .ni
 |mp h=>exact .mp (e _ _ h)
theorem ah4{σ σ':Ren}{f:Nat->Nat}(hl:σ'.lit=σ.lit)(e:∀k x,σ.nm k=some x->σ'.nm (f k)=some x){w:jp}{k:Nat}{so:SO}(d:DO σ w k so):DO σ' w (f k) (FF f so):=by
 cases so with
 |cells c t=>obtain⟨o,n,vs,a,b,c⟩:=d;exact⟨o,n,vs,e _ _ a,b,FG c.1 λi x y h1 h2=>MW hl e (c.2 i x y h1 h2)⟩
 |arr c t=>obtain⟨o,n,vs,a,b,c⟩:=d;exact⟨o,n,vs,e _ _ a,b,hl▸c⟩
 |grow E c t=>
  obtain⟨a,p,g⟩:=d;refine⟨a,p,?_⟩;rcases g with⟨g,h⟩|⟨o,n,cs,g,h⟩
  ·exact .inl ⟨e _ _ g,h⟩
  ·exact .inr ⟨o,n,cs,e _ _ g,hl▸h⟩
 |mp es=>obtain⟨o,n,es',ck,a,b,c⟩:=d;refine⟨o,n,es',ck,e _ _ a,b,by simp[c.1],λi x y h1 h2=>?_⟩;rw[List.getElem?_map] at h1;obtain⟨x',h3,rfl⟩:=Option.map_eq_some_iff.1 h1;have q:=c.2 i x' y h3 h2;exact⟨q.1,MW hl e q.2⟩
def mT(an sx:Nat)(m:Mp)(k:Nat):Nat:=cond (Nat.blt k an) (match ef k m with
 |some (some a)=>a
 |_=>0) (sx+k)
def r9(h:Tr SO):Mp->Bool
 |[]=>true
 |(_,some a)::m=>(match h.get a with|some _=>r9 h m|none=>false)
 |(_,none)::m=>r9 h m
def tq(m:Mp):Nat->Bool
 |0=>true
 |n+1=>(match ef n m with|some (some _)=>tq m n|_=>false)
def rS:Mp->Tr SO->Tr SO
 |[],h=>h
 |(_,some a)::m,h=>rS m (h.del a)
 |(_,none)::m,h=>rS m h
def q8(f:Nat->Nat)(s:Tr SO):qr (Nat×OT)->Tr SO->Tr SO
 |[],h=>h
 |(k,_)::l,h=>match s.get k with
  |some so=>(q8 f s l h).set (f k) (FF f so)
  |none=>q8 f s l h
def Rk(T:HT)(Sh:Fn T.ti.ks (Hx (bO T.to.ks))):cH β:=λst args K=>
 cond (Nat.beq args.length T.n) (vm [] T.ti ⟨oS args 0 .nil,st.h,st.sx⟩ λls m=>
  cond (r9 st.h m&&tq m T.an) (ob (iM T.ti.ks Sh ls) λr=>ob (iE T.to (gS T.to.ks r)) λso=>ob (so.tm.get 0) λsv=>
   K false (pN (mT T.an st.sx m) sv) ⟨st.tm,q8 (mT T.an st.sx m) so.h T.to.qo (rS m st.h),st.sx+T.to.sx⟩) none) none
theorem vG{h:Tr SO}:∀{m:Mp},r9 h m=true->∀k a,ef k m=some (some a)->∃so,h.get a=some so
 |[],_,k,a,e=>by cases e
 |(j,x)::m,hl,k,a,e=>by
  rw[qV] at e;cases x with
  |none=>
   by_cases q:j=k
   ·grind
   ·rw[aq q] at e;exact vG (m:=m) hl k a e
  |some y=>
   unfold r9 at hl;split at hl
   ·rename_i so hso;by_cases q:j=k
    ·grind
    ·rw[aq q] at e;exact vG hl k a e
   grind
theorem xi{m:Mp}:∀{n:Nat},tq m n=true->∀k,k<n->∃a,ef k m=some (some a)
 |0,_,k,h=>by omega
 |n+1,e,k,h=>by
  unfold tq at e;split at e
  ·rename_i a ha;by_cases q:k=n
   ·grind
   ·exact xi e k (by omega)
  grind
def El(a:Nat):Mp->Prop
 |[]=>False
 |(_,x)::m=>x=some a\/El a m
theorem JK:∀{m:Mp}{h:Tr SO}{id:Nat}{so:SO},(rS m h).get id=some so->h.get id=some so/\¬El id m
 |[],h,id,so,e=>⟨e,λh=>h⟩
 |(j,none)::m,h,id,so,e=>by
  obtain⟨a,b⟩:=JK (m:=m) e;exact⟨a,λq=>by
   rcases q with q|q
   ·grind
   ·exact b q⟩
 |(j,some x)::m,h,id,so,e=>by
  obtain⟨a,b⟩:=JK (m:=m) e;rw[Tr.rY] at a;by_cases q:id=x
  ·grind
  ·rw[aq q] at a;exact⟨a,λw=>by
    rcases w with w|w
    ·grind
    ·exact b w⟩
theorem SB:∀{m:Mp}{k a:Nat},ef k m=some (some a)->El a m
 |[],k,a,e=>by cases e
 |(j,x)::m,k,a,e=>by
  rw[qV] at e;by_cases q:j=k
  ·rw[ay q] at e;cases e;exact .inl rfl
  ·rw[aq q] at e;exact .inr (SB e)
theorem MB{f:Nat->Nat}{s:Tr SO}:∀{l:qr (Nat×OT)}{h:Tr SO}{id:Nat}{so:SO},(q8 f s l h).get id=some so->h.get id=some so\/∃k x,id=f k/\s.get k=some x/\so=FF f x
 |[],h,id,so,e=>.inl e
 |(k,t)::l,h,id,so,e=>by
  unfold q8 at e;split at e
  ·rename_i x hx;rw[Tr.fN] at e;by_cases q:id=f k
   ·grind
   ·rw[aq q] at e;exact MB e
  ·exact MB e
theorem Au{P:Program}{g:FuncId}{an n:Nat}{qo:qr (Nat×OT)}{st:St}{args:qr SV}{m:Mp}{stT so:St}{sv:SV}{pb:Bool}(hlen:args.length=n)(hinj:lJ m)(hsx:∀id x,ef id m=some x->id<stT.sx)
 (h4:∀{σ:Ren}{a:Act}{w:jp},Ev σ (oS args 0 .nil) a->(∀id so,st.h.get id=some so->DO σ w id so)->Ev (σm σ m) stT.tm a/\∀id so,stT.h.get id=some so->DO (σm σ m) w id so/\(ef id m=some none\/∃a so',ef id m=some (some a)/\st.h.get a=some so'))
 (L:∀k a,ef k m=some (some a)->∃so,st.h.get a=some so) (A:∀k,k<an->∃a,ef k m=some (some a)) (k3:so.tm.get 0=some sv) (Fg:C8 P g n an stT so pb)
 {B:Bs} {σ:Ren} {F:Nat->Prop} {w:jp} (hF:∀id,st.sx<=id->id<st.sx+so.sx->F id) (M:Mem B σ (hG st.h) F w) (args':Array H1) (d:fm σ args args'.toList):
 Calls P g args' w λx w'=>∃σ' v,x=End pb v/\Ext σ σ'/\DV σ' (pN (mT an st.sx m) sv) v/\Mem B σ' (hG (q8 (mT an st.sx m) so.h qo (rS m st.h))) (lZ F st.sx (st.sx+so.sx)) w':=by
 let G':Nat->SO->Prop:=λid x=>st.h.get id=some x/\El id m
 have sG:∀id x,G' id x->hG st.h id x:=λ_ _ h=>h.1;obtain⟨ev,ob⟩:=h4 (σ:=σ) (a:=⟨args',[]⟩) (w:=w) (CO d) M.obj;have MT:jc ⟨w,Own σ G',σ.lit,an,(σm σ m).nm,0,[]⟩ (σm σ m) stT.h stT.sx w:=(M.Ed sG).map hinj hsx (λid x h=>⟨(ob id x h).1,(ob id x h).2.imp_right λ⟨a,s,h1,h2⟩=>⟨a,s,h1,h2,SB h1⟩⟩) (eZ.refl _ _) (λb q=>.inl q) (λ_ _ _ q=>.inl q) (λ_ _ _ q=>q) λ_ _ _ q=>q;refine Calls.mono (Fg args' (by rw[<-hlen,d.1,Array.length_toList]) rfl ev MT) λx w' ⟨σ2,v,e1,dv,M2⟩=>?_;generalize hf:mT an st.sx m=f
 let σn:Ren:=⟨λid=>if st.sx<=id/\id<st.sx+so.sx then σ2.nm (id -st.sx) else σ.nm id,σ2.lit⟩
 have E:Ext σ σn:=⟨λid x e=>by show(if _ then _ else _)=_;rw[aq λq=>by rw[M.fresh id (hF id q.1 q.2)] at e;cases e];exact e,M2.nM⟩;have n1:∀k x,σ2.nm k=some x->σn.nm (f k)=some x:=λk x e=>by
  rcases ia k an with hk|hk
  ·obtain⟨a,ha⟩:=A k hk;obtain⟨s0,hs0⟩:=L k a ha;have fk:f k=a:=by
    rw[<-hf];unfold mT;rw[show Nat.blt k an=true from C6 hk,aE,ha]
   have hy:∃y,σ.nm a=some y:=(M.obj a s0 hs0).nm.elim (λq=>⟨_,q⟩) λ⟨_,_,q,_⟩=>⟨_,q⟩;obtain⟨y,hy⟩:=hy;have:=M2.kE k hk y ((σm_some ha).trans hy);rw[e] at this;cases this;rw[fk];exact E.nm _ _ hy
  ·have lt:k<so.sx:=Nat.not_le.1 λq=>by rw[M2.fresh k q] at e;cases e
   have fk:f k=st.sx+k:=by rw[<-hf];unfold mT;rw[show Nat.blt k an=false from Bool.eq_false_iff.2 λq=>by have:=fb q;omega];rfl
   rw[fk];show(if _ then _ else _)=_;rw[ay ⟨by omega,by omega⟩,show st.sx+k -st.sx=k by omega];exact e
 have back:∀{k y o n},so.h.get k=some y->σn.nm (f k)=some (some o,n)->σ2.nm k=some (some o,n):=λ{k y o n} h1 h2=>by rcases(M2.obj k y h1).nm with q|⟨_,_,q,_⟩<;>rw[n1 _ _ q] at h2<;>cases h2;exact q
 have M3:Mem (BA w (Own σ G') σ.lit) σn (λid x=>∃k y,id=f k/\so.h.get k=some y/\x=FF f y) (lZ F st.sx (st.sx+so.sx)) w':=by
  refine⟨λid x ⟨k,y,h1,h2,h3⟩=>?_,λi j s s' o o' n n' ⟨k,y,h1,h2,_⟩ ⟨k',y',h1',h2',_⟩ p p' q=>?_,λid h=>?_,M2.lit,λb i v q ⟨id,x,o,n,⟨k,y,h1,h2,_⟩,p,r⟩=>?_,M2.base,λb ⟨id,x,o,n,⟨k,y,h1,h2,_⟩,p,r⟩=>?_,M2.mj,λk hk=>(Nat.not_lt_zero k hk).elim,M2.nM⟩
  ·rw[h1,h3];exact ah4 (σ:=σ2) (σ':=σn) rfl n1 (M2.obj k y h2)
  ·rw[h1] at p⊢;rw[h1'] at p'⊢;rw[M2.inj _ _ _ _ _ _ _ _ h2 h2' (back h2 p) (back h2' p') q]
  ·show(if _ then _ else _)=_;rw[aq h.2];exact M.fresh id h.1
  ·rw[h1] at p;exact M2.free b i v q ⟨k,y,o,n,h2,back h2 p,r⟩
  ·rw[h1] at p;exact M2.owned b ⟨k,y,o,n,h2,back h2 p,r⟩
 refine⟨σn,v,e1,E,MW (σ:=σ2) (σ':=σn) rfl n1 (dv sv k3),(M.frame sG E M3).less (λid x h=>?_) λ_ h=>h⟩;rcases MB h with q|q
 ·have⟨q1,q2⟩:=JK q;exact .inr ⟨q1,λs' z=>q2 z.2⟩
 ·exact .inl q
theorem aaK{P:Program}{g:FuncId}{T:HT}{Sh:Fn T.ti.ks (Hx (bO T.to.ks))}(F:nt P g T Sh):mG P g (Rk (β:=β) T Sh):=by intro st args K b e;obtain⟨hlen,e⟩:=bd e;obtain⟨ls,m,h1,_,hinj,hsx,stT,h2,h3,h4⟩:=D4 (λi j a q=>by cases q) e;obtain⟨hl,h1⟩:=bd h1;rw[bB] at hl;obtain⟨r,k1,h1⟩:=ax h1;obtain⟨so,k2,h1⟩:=ax h1;obtain⟨sv,k3,h1⟩:=ax h1;have sx:=AZ k2;rw[<-sx] at h1;exact⟨false,_,_,h1,rfl,Nat.le_add_right _ _,λhF M args' d=>Au (bX hlen) hinj (by rw[h3];exact hsx) h4 (vG hl.1) (xi hl.2) k3 (F ls r stT so k1 h2 k2) hF M args' d⟩
def RN(T:HT)(st:St)(args:qr SV):Bool:=cond (Nat.beq args.length T.n) ((vm (β:=Unit) [] T.ti ⟨oS args 0 .nil,st.h,st.sx⟩ λ_ m=>cond (r9 st.h m&&tq m T.an) (some ()) none).isSome) false
def Mt(pt:(β:Type)->FuncId->Hx (cH β))(g:FuncId)(T:HT)(Sh:Fn T.ti.ks (Hx (bO T.to.ks))):(β:Type)->FuncId->Hx (cH β):=
 λβ f=>cond (Nat.beq f g) (some λst args K=>cond (RN T st args) (Rk T Sh st args K) (ob (pt β f) λe=>e st args K)) (pt β f)
theorem oL{P:Program}{pt:(β:Type)->FuncId->Hx (cH β)}(PT:ju P pt){g:FuncId}{T:HT}{Sh:Fn T.ti.ks (Hx (bO T.to.ks))}(F:nt P g T Sh):ju P (Mt pt g T Sh):=by
 intro β f e h;unfold Mt at h;cases hb:Nat.beq f g with
 |true=>
  rw[hb] at h;have hg:=bX hb;subst hg;cases h;intro st args K b k;cases hf:RN T st args with
  |true=>simp[hf] at k;exact aaK F st args K b k
  |false=>simp[hf] at k;obtain⟨e0,h0,k⟩:=ax k;exact PT β f e0 h0 st args K b k
 |false=>rw[hb] at h;exact PT β f e h
def mc{α:Type}(z:α)(F:α->α)(n:Nat):α:=Nat.rec z (λ_ r=>F r) n
theorem aa8{P:Program}{g:FuncId}{T:HT}:nt P g T (iZ T.ti.ks):=λ_ _ _ _ e=>(zX _ _ _ e).elim
theorem aa9{P:Program}{g:FuncId}{avt:qr VT}{rvt:VT}:cS P g avt rvt (iZ (VT.fw avt)):=λ_ _ e=>(zX _ _ _ e).elim
theorem Ks{P:Program}{g:FuncId}{T:HT}{F:Fn T.ti.ks (Hx (bO T.to.ks))->Fn T.ti.ks (Hx (bO T.to.ks))}(h:∀r,nt P g T r->nt P g T (F r))(n:Nat):nt P g T (mc (iZ T.ti.ks) F n):=by
 induction n with
 |zero=>exact aa8
 |succ n ih=>exact h _ ih
theorem AA{P:Program}{g:FuncId}{avt:qr VT}{rvt:VT}{F:Fn (VT.fw avt) (Hx (bO rvt.ks))->Fn (VT.fw avt) (Hx (bO rvt.ks))}(h:∀r,cS P g avt rvt r->cS P g avt rvt (F r))(n:Nat):cS P g avt rvt (mc (iZ (VT.fw avt)) F n):=by
 induction n with
 |zero=>exact aa9
 |succ n ih=>exact h _ ih
end
section
variable{β:Type}
structure PT where
 n:Nat
 ti:cQ
 an:Nat
 to:cQ
 tp:cQ
def PT.out(T:PT)(p:Bool):cQ:=cond p T.tp T.to
def sZ(P:Program)(g:FuncId)(T:PT)(Sh:Fn T.ti.ks (Hx (bO T.to.ks⊕bO T.tp.ks))):Prop:=
 ∀ls r st,iM T.ti.ks Sh ls=some r->iE T.ti ls=some st->∀(p:Bool)(l:qr bt) so,(match r with| .inl a=>p=false/\l=gS T.to.ks a| .inr a=>p=true/\l=gS T.tp.ks a)->iE (T.out p) l=some so->C8 P g T.n T.an st so p
noncomputable def QC[QF](w:Nat)(X:eL)(pt:(β:Type)->FuncId->Hx (cH β))(fn:Func)(T:PT)(lv jv:Nat->Hx cQ)(un:Nat->Bool):Fn T.ti.ks (Hx (bO T.to.ks⊕bO T.tp.ks)):=
 lX T.ti.ks λls=>ob (iE T.ti ls) λst=>dn {X:=X,pt:=pt _,n:=T.n+(fn.ntmps -T.n),rs:=fn.results.toList,lv:=lv,jv:=jv,un:=un,df:=false,fuel:=w,an:=T.an,iD:=λsv st=>rz (uz T.to) sv st λsv st=>kZ T.an T.to ⟨Tr.nil.set 0 sv,st.h,st.sx⟩ λls=>ob (dec T.to.ks ls) λa=>some (.inl a),mf:=λsv st=>kZ T.an T.tp ⟨Tr.nil.set 0 sv,st.h,st.sx⟩ λls=>ob (dec T.tp.ks ls) λa=>some (.inr a)} 100000 [] [.code (fn.body.getD .skip)] st
theorem RS[QF]{P:Program}{X:eL}(OK:iR P X)(mx:P.follows .mixedOrders=true){pt:(β:Type)->FuncId->Hx (cH β)}(PTO:ju P pt){g:FuncId}{fn:Func}{T:PT}{lv jv:Nat->Hx cQ}{un:Nat->Bool}{w:Nat}{Sh:Fn T.ti.ks (Hx (bO T.to.ks⊕bO T.tp.ks))}
 (hF:X.F.get g=some fn) (hb:fn.body=some (fn.body.getD .skip)) (hS:Sh=QC w X pt fn T lv jv un):sZ P g T Sh:=by
 intro ls r st e hst p l so hr hso B σ w0 args' hn ha ev M;subst hS;have e1:=nB _ _ _ _ e;obtain⟨st1,g1,e2⟩:=ax e1;rw[hst] at g1;cases g1;refine Aq (B:={B with n:=T.n+(fn.ntmps -T.n),dX:=[]}) (OK.F _ _ hF).1 hb rfl rfl (tB OK mx (PTO _) rfl rfl ha _ _ _ _ _ e2 (λr hr=>by cases hr) ⟨by simp[hn],rfl,tF ev,M.nd⟩) λR d=>⟨λkr=>?_,λkp=>?_⟩
 ·obtain⟨sv2,st2,k1,k2⟩:=FV (β:=bO T.to.ks⊕bO T.tp.ks) (t:=uz T.to) (K:=λsv st=>kZ T.an T.to ⟨Tr.nil.set 0 sv,st.h,st.sx⟩ λls=>ob (dec T.to.ks ls) λa=>some (.inl a)) kr;obtain⟨σ2,d2,M2⟩:=k2 d R.mem.nd;replace k1:kZ T.an T.to ⟨Tr.nil.set 0 sv2,st2.h,st2.sx⟩ (λls=>ob (dec T.to.ks ls) λa=>some (Sum.inl a))=some r:=k1;cases r with
  |inl a=>obtain⟨rfl,rfl⟩:=hr;obtain⟨σ3,z1,z2⟩:=yn (B:=B) (by rw[ha];exact k1) (λls q=>by obtain⟨a',q1,q2⟩:=ax q;cases q2;exact qj _ _ _ q1) hso d2 M2;exact⟨σ3,_,rfl,z1,z2⟩
  |inr a=>obtain⟨ls',q1,_⟩:=vn (B:=B) (by rw[ha];exact k1);obtain⟨a',_,q2⟩:=ax q1;cases q2
 ·replace kp:kZ T.an T.tp ⟨Tr.nil.set 0 _,_,_⟩ (λls=>ob (dec T.tp.ks ls) λa=>some (Sum.inr a))=some r:=kp;cases r with
  |inl a=>obtain⟨ls',q1,_⟩:=vn (B:=B) (by rw[ha];exact kp);obtain⟨a',_,q2⟩:=ax q1;cases q2
  |inr a=>obtain⟨rfl,rfl⟩:=hr;obtain⟨σ3,z1,z2⟩:=yn (B:=B) (by rw[ha];exact kp) (λls q=>by obtain⟨a',q1,q2⟩:=ax q;cases q2;exact qj _ _ _ q1) hso d R.mem.nd;exact⟨σ3,_,rfl,z1,z2⟩
def dG{α γ δ:Type}(r:α⊕γ)(f:α->δ)(g:γ->δ):δ:=match r with
 | .inl a=>f a
 | .inr a=>g a
def Rl(T:PT)(Sh:Fn T.ti.ks (Hx (bO T.to.ks⊕bO T.tp.ks))):cH β:=λst args K=>
 cond (Nat.beq args.length T.n) (vm [] T.ti ⟨oS args 0 .nil,st.h,st.sx⟩ λls m=>
  cond (r9 st.h m&&tq m T.an) (ob (iM T.ti.ks Sh ls) λr=>dG r
   (λa=>ob (iE T.to (gS T.to.ks a)) λso=>ob (so.tm.get 0) λsv=>K false (pN (mT T.an st.sx m) sv) ⟨st.tm,q8 (mT T.an st.sx m) so.h T.to.qo (rS m st.h),st.sx+T.to.sx⟩)
   (λa=>ob (iE T.tp (gS T.tp.ks a)) λso=>ob (so.tm.get 0) λsv=>K true (pN (mT T.an st.sx m) sv) ⟨st.tm,q8 (mT T.an st.sx m) so.h T.tp.qo (rS m st.h),st.sx+T.tp.sx⟩)) none) none
theorem aaM{P:Program}{g:FuncId}{T:PT}{Sh:Fn T.ti.ks (Hx (bO T.to.ks⊕bO T.tp.ks))}(F:sZ P g T Sh):mG P g (Rl (β:=β) T Sh):=by
 intro st args K b e;obtain⟨hlen,e⟩:=bd e;obtain⟨ls,m,h1,_,hinj,hsx,stT,h2,h3,h4⟩:=D4 (λi j a q=>by cases q) e;obtain⟨hl,h1⟩:=bd h1;rw[bB] at hl;obtain⟨r,k1,h1⟩:=ax h1;cases r with
 |inl a=>obtain⟨so,k2,h1⟩:=ax h1;obtain⟨sv,k3,h1⟩:=ax h1;have sx:=AZ k2;rw[<-sx] at h1;exact⟨false,_,_,h1,rfl,Nat.le_add_right _ _,λhF M args' d=>Au (bX hlen) hinj (by rw[h3];exact hsx) h4 (vG hl.1) (xi hl.2) k3 (F ls _ stT k1 h2 false _ so ⟨rfl,rfl⟩ k2) hF M args' d⟩
 |inr a=>obtain⟨so,k2,h1⟩:=ax h1;obtain⟨sv,k3,h1⟩:=ax h1;have sx:=AZ k2;rw[<-sx] at h1;exact⟨true,_,_,h1,rfl,Nat.le_add_right _ _,λhF M args' d=>Au (bX hlen) hinj (by rw[h3];exact hsx) h4 (vG hl.1) (xi hl.2) k3 (F ls _ stT k1 h2 true _ so ⟨rfl,rfl⟩ k2) hF M args' d⟩
def D9(T:PT)(st:St)(args:qr SV):Bool:=cond (Nat.beq args.length T.n) ((vm (β:=Unit) [] T.ti ⟨oS args 0 .nil,st.h,st.sx⟩ λ_ m=>cond (r9 st.h m&&tq m T.an) (some ()) none).isSome) false
def Mu(pt:(β:Type)->FuncId->Hx (cH β))(g:FuncId)(T:PT)(Sh:Fn T.ti.ks (Hx (bO T.to.ks⊕bO T.tp.ks))):(β:Type)->FuncId->Hx (cH β):=
 λβ f=>cond (Nat.beq f g) (some λst args K=>cond (D9 T st args) (Rl T Sh st args K) (ob (pt β f) λe=>e st args K)) (pt β f)
theorem qv{P:Program}{pt:(β:Type)->FuncId->Hx (cH β)}(PTO:ju P pt){g:FuncId}{T:PT}{Sh:Fn T.ti.ks (Hx (bO T.to.ks⊕bO T.tp.ks))}(F:sZ P g T Sh):ju P (Mu pt g T Sh):=by
 intro β f e h;unfold Mu at h;cases hb:Nat.beq f g with
 |true=>
  rw[hb] at h;have hg:=bX hb;subst hg;cases h;intro st args K b k;cases hf:D9 T st args with
  |true=>simp[hf] at k;exact aaM F st args K b k
  |false=>simp[hf] at k;obtain⟨e0,h0,k⟩:=ax k;exact PTO β f e0 h0 st args K b k
 |false=>rw[hb] at h;exact PTO β f e h
theorem abb{P:Program}{g:FuncId}{T:PT}:sZ P g T (iZ T.ti.ks):=λ_ _ _ e=>(zX _ _ _ e).elim
theorem aba{P:Program}{g:FuncId}{T:PT}{F:Fn T.ti.ks (Hx (bO T.to.ks⊕bO T.tp.ks))->Fn T.ti.ks (Hx (bO T.to.ks⊕bO T.tp.ks))}(h:∀r,sZ P g T r->sZ P g T (F r))(n:Nat):sZ P g T (mc (iZ T.ti.ks) F n):=by
 induction n with
 |zero=>exact abb
 |succ n ih=>exact h _ ih
end
section
variable{β:Type}
def SS:qr Operand->Bool
 |[]=>true
 |_=>false
def MN(o:Oper)(n:Nat)(K:Nat->Hx β):Hx β:=match o.op with
 | .call c=>match c.callee with
  | .builtin .recover=>match o.guard with
   |none=>cond (SS c.args.toList) (match o.dst with|some d=>cond (Nat.blt d n) (K d) none|none=>none) none
   |some _=>none
  |_=>none
 |_=>none
theorem ahN{o:Oper}{n:Nat}{K:Nat->Hx β}{b:β}(e:MN o n K=some b):∃d,K d=some b/\o.dst=some d/\Nat.blt d n=true/\o.guard=none/\∃c,o.op=.call c/\c.callee=.builtin .recover/\c.args.toList=[]:=by
 unfold MN at e;split at e
 ·rename_i c hop;split at e
  ·rename_i hc;split at e
   ·rename_i hg;obtain⟨e1,e⟩:=bd e;split at e
    ·rename_i d hd;obtain⟨e2,e⟩:=bd e;refine⟨d,e,hd,e2,hg,c,hop,hc,?_⟩;generalize c.args.toList=l at e1;cases l with
     |nil=>rfl
     |cons _ _=>cases e1
    grind
   grind
  grind
 grind
def JL(o:Oper)(K:Nat->Hx β):Hx β:=match o.op with
 | .defer c=>match c.callee with
  | .value (.tmp t)=>match o.guard,o.dst with
   |none,none=>cond (SS c.args.toList) (K t) none
   |_,_=>none
  |_=>none
 |_=>none
theorem aau{o:Oper}{K:Nat->Hx β}{b:β}(e:JL o K=some b):∃t,K t=some b/\o.dst=none/\o.guard=none/\∃c,o.op=.defer c/\c.callee=.value (.tmp t)/\c.args.toList=[]:=by
 unfold JL at e;split at e
 ·rename_i c hop;split at e
  ·rename_i t hc;split at e
   ·rename_i hg hd;obtain⟨e1,e⟩:=bd e;refine⟨t,e,hd,hg,c,hop,hc,?_⟩;generalize c.args.toList=l at e1;cases l with
    |nil=>rfl
    |cons _ _=>cases e1
   grind
  grind
 grind
def EI(q:Hx SV)(r:Hx β):Hx β:=match q with
 |none=>r
 |some _=>bJ 60
theorem Ln{q:Hx SV}{r:Hx β}{b:β}(e:EI q r=some b):q=none/\r=some b:=by
 cases q with
 |none=>exact⟨rfl,e⟩
 |some _=>cases e
section
variable[QF]
noncomputable def vg(C:Ctx β)(gn:Func)(lvg jvg:Nat->Hx cQ)(ung:Nat->Bool)(caps:qr SV)(rv:SV)(st:St)(K:St->Hx β):Hx β:=match gn.body with
 |some (.seq (.region _ ops false) rest)=>match ops.toList with
  |o::os=>cond (Nat.ble C.an st.sx) (MN o (caps.length+(gn.ntmps -caps.length)) λd=>
   yC C.X C.pt (caps.length+(gn.ntmps -caps.length)) ops os ⟨(oS caps 0 .nil).set d rv,st.h,st.sx⟩ λq st1=>EI q
    (dn {C with n:=caps.length+(gn.ntmps -caps.length),rs:=[],lv:=lvg,jv:=jvg,un:=ung,df:=true,an:=st.sx,iD:=λ_ st2=>K ⟨st.tm,st2.h,st2.sx⟩,mf:=λ_ _=>bJ 62} 100000 [] [.code rest] st1)) (bJ 61)
  |[]=>bJ 63
 |_=>bJ 64
noncomputable def xE(C:Ctx β)(st:St):Hx β:=vp C.X.T st C.rs (Ay C.iD st)
noncomputable def DS(C:Ctx β)(g:FuncId)(gn:Func)(lvg jvg:Nat->Hx cQ)(ung:Nat->Bool)(body:Code)(st:St):Hx β:=match body with
 | .seq (.region _ ops0 false) (.seq (.region _ ops1 false) rest)=>yC C.X C.pt C.n ops0 ops0.toList st λq st1=>EI q (match ops1.toList with
  |[o1,o2]=>match o1.guard with
   |none=>DT C.n o1 (Bc C.X C.pt st1 o1 λq st2=>EI q (JL o2 λt=>ob (st2.tm.get t) λfv=>match fv with
    | .fn g' caps=>cond (Nat.beq g' g&&(Nat.blt g' 65536&&Nat.ble C.an st2.sx)) (dn {C with df:=true,an:=st2.sx,iD:=λ_ st3=>vg C gn lvg jvg ung caps .ni st3 (xE C),mf:=λrv st3=>vg C gn lvg jvg ung caps rv st3 (xE C)} 100000 [] [.code rest] st2) (bJ 65)
    |_=>bJ 66))
   |some _=>bJ 68
  |_=>bJ 69)
 |_=>bJ 67
end
theorem Mem.Qt{B:Bs}{σ:Ren}{h:Tr SO}{sx:Nat}{w:jp}(M:jc B σ h sx w){n:Nat}{dX:qr Deferred}:jc ⟨B.w,B.own,σ.lit,sx,σ.nm,n,dX⟩ σ h sx w:=
 ⟨M.obj,M.inj,M.fresh,M.lit,M.free,M.base,M.owned,λ_ _ _ q=>.inl q,λ_ _ _ q=>q,λ_ _ _ q=>q⟩
theorem Mem.Ze{B:Bs}{σ σ':Ren}{h:Tr SO}{sx:Nat}{w w':jp}{G:Nat->SO->Prop}{F:Nat->Prop}(M:jc B σ h sx w)(ha:B.an<=sx){n:Nat}{dX:qr Deferred}(M':Mem ⟨B.w,B.own,σ.lit,sx,σ.nm,n,dX⟩ σ' G F w'):Ext σ σ'/\Mem B σ' G F w':=by
 have E:Ext σ σ':=⟨λid x e=>M'.kE id (Nat.not_le.1 λq=>by rw[M.fresh id q] at e;cases e) x e,M'.nM⟩;refine⟨E,M'.obj,M'.inj,M'.fresh,M'.lit,M'.free,M'.base,M'.owned,λb i v q=>?_,λk hk x hx=>E.nm _ _ (M.kE k hk x hx),λb i v q=>E.lit b i v (M.nM b i v q)⟩;rcases M'.mj b i v q with k|k
 ·exact M.mj b i v k
 ·exact .inr k
theorem Fc{P:Program}{ops:Array Oper}{Q:Exit->Act->qr Frame->jp->Prop}{cs:qr Frame}(hQ:∀a w,¬Q .outgrown a cs w):∀(l:qr Nat){a:Act}{w:jp},wpOps P ops (λe a w=>Q e a cs w) l a w->wpOpsS P ops Q l a cs w
 |[],a,w,h=>h
 |i::l,a,w,h=>by
  unfold wpOps at h;unfold wpOpsS;split at h
  ·rename_i ho;simp only[ho];exact Fc hQ l h
  ·rename_i o ho;simp only[ho];split at h
   ·rename_i hw;simp only[hw,dW];rcases h with h|⟨_,a',w',q⟩
    ·have h:=Oper.wp_mono (K':=λa w=>wpOpsS P ops Q l a cs w) (λa w h=>Fc hQ l h) h;unfold Oper.wp at h;split
     ·rename_i w' hr;rw[hr] at h;exact h.elim
     ·exact h
    ·exact(hQ _ _ q).elim
   ·rename_i hw;simp only[hw];exact Fc hQ l h
section
variable[QF]
theorem Z4{P:Program}{C:Ctx β}(OK:iR P C.X)(mx:P.follows .mixedOrders=true)(PT:nw P C.pt){g:FuncId}{gn:Func}(hG:C.X.F.get g=some gn)(hres:gn.results.toList=[]){lvg jvg:Nat->Hx cQ}{ung:Nat->Bool}{caps:qr SV}{cv:Array H1}{rv:SV}{st:St}{K:St->Hx β}{b:β}
 (e:vg C gn lvg jvg ung caps rv st K=some b) {B:Bs} (ha:B.an=C.an) {σ:Ren} {a:Act} {w:jp} {u:FrameMode} (hm:(u=.returning/\rv=.ni)\/∃v,u=.panicking [pe v]/\DV σ rv v) (R:dH B σ st a w) (d:fm σ caps cv.toList):
 CallsD P g cv u w λe u' w'=>∃v,e=.returned v/\settle u'=.returning/\∃st',K st'=some b/\∃σ',dH B σ' st' a w':=by
 unfold vg at e;split at e
 case h_2=>cases e
 rename_i id ops rest hb;split at e
 case h_2=>cases e
 rename_i o os hops;obtain⟨han,e⟩:=bd e;have han:=ed han;obtain⟨dR,e,hdst,hlt,hgd,c,hop,hcal,harg⟩:=ahN e;have hlen:cv.size=caps.length:=by rw[<-Array.length_toList];exact d.1.symm
 have ho:ops[0]? =some o:=by rw[<-mC,hops];rfl
 have hrg:List.range ops.size=0::List.range' 1 os.length:=by rw[List.range_eq_range',show ops.size=os.length+1 by rw[<-Array.length_toList,hops];rfl,List.range'_succ]
 refine callsD_of_wpS (OK.F _ _ hG).1 hb λc₀ cs hu=>wpS_seq (wpS_region ?_);rw[hrg]
 let a0:Act:={tmps:=cv++Array.replicate (gn.ntmps -cv.size) undef,defers:=[]}
 have hsz:a0.tmps.size=caps.length+(gn.ntmps -caps.length):=by simp[a0,hlen]
 obtain⟨q,st1,e1,G⟩:=BS OK PT os 1 (λi o' hi=>by rw[<-mC,hops,Nat.add_comm];exact hi) _ _ _ e;obtain⟨rfl,e2⟩:=Ln e1;have run:(execOp a0.eval o).run P w=.ok .recover w:=by
  have:c.args=#[]:=by simpa using harg
  unfold execOp resolve;simp only[hop,hcal,this];rfl
 have key:∀(y:H1)(u':FrameMode),settle u'=.returning->DV σ rv y->wpOpsS P ops (Exit.thenS (rest.wpS P (bodyPostS P gn c₀ cs λe u' w'=>∃v,e=.returned v/\settle u'=.returning/\∃st',K st'=some b/\∃σ',dH B σ' st' a w')) (bodyPostS P gn c₀ cs λe u' w'=>∃v,e=.returned v/\settle u'=.returning/\∃st',K st'=some b/\∃σ',dH B σ' st' a w')) (List.range' 1 os.length) (a0.put o.dst y) ({c₀ with mode:=u'}::cs) w:=by
  intro y u' hu' dy
  let B2:Bs:=⟨B.w,B.own,σ.lit,st.sx,σ.nm,caps.length+(gn.ntmps -caps.length),[]⟩
  refine Fc (λa w q=>by obtain⟨_,_,h,_⟩:=q;cases h) _ (G (B:=B2) (σ:=σ) rfl ⟨by rw[hdst];simp[Act.put,hsz,B2],by rw[hdst];rfl,?_,R.mem.Qt⟩ _ ?_)
  ·rw[hdst];exact(tF (CO d (dX:=[]))).put (Ext.refl _) (d:=some dR) (λk hk=>by cases hk;show dR<a0.tmps.size;rw[hsz];exact fb hlt) dy
  ·intro σ1 a1 w1 R1;refine wpS_of_wp (wp_mono (λb k cs=>(tB (fn:=gn) (B:=B2) (C:={C with n:=caps.length+(gn.ntmps -caps.length),rs:=[],lv:=lvg,jv:=jvg,un:=ung,df:=true,an:=st.sx,iD:=λ_ st2=>K ⟨st.tm,st2.h,st2.sx⟩,mf:=λ_ _=>bJ 62}) OK mx PT hres rfl rfl _ _ _ _ _ e2 (λr hr=>by cases hr) R1) b k cs) λx a2 w2 q=>?_)
   have fin2:(∃σ2 st2 sv,dH B2 σ2 st2 a2 w2/\K ⟨st.tm,st2.h,st2.sx⟩=some b/\sv=SV.aG [])->a2.defers=[]/\∃u2,({c₀ with mode:=u'}:Frame)::cs={c₀ with mode:=u2}::cs/\∃v,(results gn a2.tmps).run P w2=.ok v w2/\∃v2,Ending.returned v=.returned v2/\settle u2=.returning/\∃st',K st'=some b/\∃σ',dH B σ' st' a w2:=λ⟨σ2,st2,_,r,kr,_⟩=>by
    obtain⟨E,M⟩:=R.mem.Ze (ha▸han) r.mem;refine⟨r.dX,u',rfl,.tuple #[],?_,_,rfl,hu',_,kr,σ2,R.size,R.dX,λt sv h=>(R.ev t sv h).mono E,M⟩;have:gn.results=#[]:=by simpa using hres
    simp[results,this]
   cases x with
   |normal=>exact fin2 q
   |ret=>exact fin2 q
   |panic ch=>obtain⟨_,_,_,_,_,kp,_⟩:=q;cases kp
   |_=>exact q.elim
 unfold wpOpsS;have hw:Region.wanted o (yielded ops a0.tmps)=true:=by unfold Region.wanted;rw[hgd]
 simp only[ho];rw[ay hw];rcases hm with⟨rfl,rfl⟩|⟨v,rfl,dv⟩
 ·have hr:recoverD (c₀::cs)=none:=by unfold recoverD;simp only[hu]
  have hc:({c₀ with mode:=.returning}:Frame)=c₀:=by rw[<-hu]
  have:=key .nilIface .returning rfl .ni;rw[hc] at this;rw[show(execOp ({tmps:=cv++Array.replicate (gn.ntmps -cv.size) undef,defers:=[]}:Act).eval o).run P w=.ok .recover w from run];simp only[hr];exact this
 ·have hr:recoverD (c₀::cs)=some (v,{c₀ with mode:=.panicking [{v:=v,recovered:=true}]}::cs):=by unfold recoverD;simp only[hu,pe]
  rw[show(execOp ({tmps:=cv++Array.replicate (gn.ntmps -cv.size) undef,defers:=[]}:Act).eval o).run P w=.ok .recover w from run];simp only[hr];exact key v _ rfl dv
theorem Q1{P:Program}{C:Ctx β}(OK:iR P C.X)(mx:P.follows .mixedOrders=true)(PT:nw P C.pt){f:FuncId}{fn:Func}(hF:P.funcs[f]? =some fn){body:Code}(hb:fn.body=some body)(hrs:fn.results.toList=C.rs)(hdf:C.df=false){g:FuncId}{gn:Func}(hG:C.X.F.get g=some gn)(hres:gn.results.toList=[]){lvg jvg:Nat->Hx cQ}{ung:Nat->Bool}{st:St}{b:β}
 (e:DS C g gn lvg jvg ung body st=some b) {B:Bs} (hn:B.n=C.n) (ha:B.an=C.an) (hB:B.dX=[]) {σ:Ren} {args:Array H1} {w:jp} (R:dH B σ st {tmps:=args++Array.replicate (fn.ntmps -args.size) undef,defers:=[]} w) {Rp:Ending->jp->Prop}
 (k:∀{σ:Ren}{st:St}{sv:SV}{a:Act}{w':jp}{v:H1},dH B σ st a w'->DV σ sv v->C.iD sv st=some b->Rp (.returned v) w'):Calls P f args w Rp:=by
 unfold DS at e;split at e
 case h_2=>cases e
 rename_i id0 ops0 id1 ops1 rest;obtain⟨q,st1,e1,G1⟩:=BS OK PT ops0.toList 0 (λi o ho=>by rw[fU,<-mC];exact ho) _ _ _ e;obtain⟨rfl,e2⟩:=Ln e1;split at e2
 case h_2=>cases e2
 rename_i o1 o2 hops;split at e2
 case h_2=>cases e2
 rename_i hg1;obtain⟨e3,hd1⟩:=Q7 e2;obtain⟨q,sv,st2,e4,hx,ht,D⟩:=Ma OK PT e3;obtain⟨rfl,e5⟩:=Ln e4;have ht:st2.tm=kJ st1.tm o1.dst sv:=by rcases ht with h|h;exact h.2;cases h.1
 obtain⟨t,e6,hd2,hg2,c,hop,hcal,harg⟩:=aau e5;obtain⟨fv,hfv,e7⟩:=ax e6;split at e7
 case h_2=>cases e7
 rename_i g' caps;obtain⟨hq,e8⟩:=bd e7;simp only[bB] at hq;have hgg:=bX hq.1;have hsm:=fb hq.2.1;have han:=ed hq.2.2;subst hgg;have ho1:ops1[0]? =some o1:=by rw[<-mC,hops];rfl
 have ho2:ops1[1]? =some o2:=by rw[<-mC,hops];rfl
 have hrg1:List.range ops1.size=[0,1]:=by rw[show ops1.size=2 by rw[<-Array.length_toList,hops];rfl];rfl
 have leave:∀{σ:Ren}{st:St}{a:Act}{w:jp},xE C st=some b->dH B σ st a w->Leaves P fn a.tmps Rp [] .returning w:=λ{σ st a w} h R=>by obtain⟨σ',st',sv,R',kr,q⟩:=Ko (fn:=fn) OK.T hrs (st:=st) (b:=b) (by rw[hdf];exact h) R;rw[hdf] at q;obtain⟨v,q1,q2⟩:=q;exact⟨v,q1,k R' q2 kr⟩
 have G:nu P [.code (.seq (.region id0 ops0 false) (.seq (.region id1 ops1 false) rest))] (λe a w=>bodyPostD P fn Rp e a w) {tmps:=args++Array.replicate (fn.ntmps -args.size) undef,defers:=[]} w:=by
  refine .step (T':=[.code (.region id0 ops0 false),.code (.seq (.region id1 ops1 false) rest)]) (λ_ _ _=>step_seq) (.code (wp_region ?_));rw[(show List.range ops0.size=List.range' 0 ops0.toList.length from by rw[List.range_eq_range'];simp)];refine G1 hn R _ λσ1 a1 w1 R1=>?_;refine .step (T':=[.code (.region id1 ops1 false),.code rest]) (λ_ _ _=>step_seq) (.code (wp_region ?_));rw[hrg1,wpOps_cons];have hw1:Region.wanted o1 (yielded ops1 a1.tmps)=true:=by unfold Region.wanted;rw[hg1]
  unfold wpOp;simp only[ho1,hw1,dW];refine .inl (D a1 R1.ev (λ_ h _=>h) R1.mem _ _ λσ2 v w2 E dv M=>?_);have R2:dH B σ2 st2 (a1.put o1.dst v) w2:=by have:=R1.put E (jc.next hx M) (λk hk=>by rw[hn];exact hd1 k hk) dv;rwa[<-ht] at this
  generalize a1.put o1.dst v=a2 at R2;have hw2:Region.wanted o2 (yielded ops1 a2.tmps)=true:=by unfold Region.wanted;rw[hg2]
  have dfv:=R2.ev t _ hfv;generalize hfx:a2.eval (.tmp t)=fx at dfv;cases dfv with
  |fn hl hr=>
  rename_i cv;rw[Kt hsm] at hfx;have dcv:fm σ2 caps cv:=⟨hl,hr⟩
  let d:Deferred:={target:=.fn (.func g') ⟨cv⟩,args:=#[]}
  have run:(execOp a2.eval o2).run P w2=.ok (.defer d) w2:=by
   have:c.args=#[]:=by simpa using harg
   unfold execOp resolve;simp[hop,hcal,this,hfx,Deferred.ofValue,d]
  rw[wpOps_cons];unfold wpOp;simp only[ho2,hw2,dW];refine .inl ?_;unfold Oper.wp;rw[run,Oper.upon_defer,hd2,R2.dX,hB];show nu P [.code rest] _ {tmps:=a2.tmps,defers:=[d]} w2
  let B2:Bs:=⟨B.w,B.own,σ2.lit,st2.sx,σ2.nm,B.n,[d]⟩
  have inv:∀w,(invoke d.target d.args).run P w=.ok (.enter g' ⟨cv⟩) w:=λw=>by
   obtain⟨f1,f2,f3⟩:=OK.F _ _ hG;have h4:gn.body.isNone=false:=by cases hb:gn.body with
    |none=>rw[hb] at f3;cases f3
    |some b=>rfl
   unfold invoke callFunc;simp only[d,dA,run_program,eW,f1,f2,h4,kO,gY,eX];simp
  have dn2:=tB (fn:=fn) (B:=B2) (C:={C with df:=true,an:=st2.sx,iD:=λ_ st3=>vg C gn lvg jvg ung caps .ni st3 (xE C),mf:=λrv st3=>vg C gn lvg jvg ung caps rv st3 (xE C)}) OK mx PT hrs hn rfl _ _ _ _ _ e8 (λr hr=>by cases hr) (σ:=σ2) (a:={tmps:=a2.tmps,defers:=[d]}) (w:=w2) ⟨R2.size,rfl,R2.ev,R2.mem.Qt⟩
  have last:∀{u:FrameMode}{σ3:Ren}{st3:St}{rv:SV}{a3:Act}{w3:jp},u≠.run->(u=.returning/\rv=.ni)\/(∃v,u=.panicking [pe v]/\DV σ3 rv v)->vg C gn lvg jvg ung caps rv st3 (xE C)=some b->dH B2 σ3 st3 a3 w3->Leaves P fn a3.tmps Rp a3.defers u w3:=by intro u σ3 st3 rv a3 w3 hu hm kr R3;obtain⟨E3,M3⟩:=R2.mem.Ze (ha▸han) R3.mem;rw[R3.dX];have Rx:dH B σ3 st3 {tmps:=a3.tmps,defers:=[]} w3:=⟨R3.size,hB.symm,R3.ev,M3⟩;refine leaves_cons hu (inv w3) (CallsD.mono (Z4 OK mx PT hG hres kr ha hm Rx (show fm σ3 caps (⟨cv⟩:Array H1).toList from dcv.mono E3)) λx u' w' ⟨v,h1,h2,st',h3,σ',R'⟩=>?_);subst h1;show Leaves P fn a3.tmps Rp [] (settle u') w';rw[h2];exact leave (a:={tmps:=a3.tmps,defers:=[]}) h3 R'
  intro b0 k0 cs0;obtain⟨x,a3,w3,q,arr⟩:=dn2 b0 k0 cs0;refine⟨x,a3,w3,?_,arr⟩;cases x with
  |normal=>obtain⟨σ3,st3,sv3,R3,kr,_⟩:=q;exact last (by simp) (.inl ⟨rfl,rfl⟩) kr R3
  |ret=>obtain⟨σ3,st3,sv3,R3,kr,_⟩:=q;exact last (by simp) (.inl ⟨rfl,rfl⟩) kr R3
  |panic ch=>obtain⟨σ3,st3,sv3,v3,R3,kr,rfl,dv3⟩:=q;exact last (by simp) (.inr ⟨v3,rfl,dv3⟩) kr R3
  |_=>exact q.elim
 exact calls_of_wp_defers hF hb λb k cs=>G b k cs
end
end
section
variable[QF]
noncomputable def ZK{β:Type}(C:Ctx β)(g:FuncId)(gn:Func)(lvg jvg:Nat->Hx cQ)(ung:Nat->Bool)(avt:qr VT)(body:Code)(ls:qr bt):Hx β:=
 ob (wJ avt ls) λq=>DS C g gn lvg jvg ung body ⟨oS q.1 0 .nil,.nil,0⟩
noncomputable def ZM(w:Nat)(X:eL)(pt:(β:Type)->FuncId->Hx (cH β))(fn:Func)(g:FuncId)(gn:Func)(avt:qr VT)(rvt:VT)(lv jv:Nat->Hx cQ)(un:Nat->Bool)(lvg jvg:Nat->Hx cQ)(ung:Nat->Bool):Fn (VT.fw avt) (Hx (bO rvt.ks)):=
 lX (VT.fw avt) (ZK {X:=X,pt:=pt _,n:=avt.length+(fn.ntmps -avt.length),rs:=fn.results.toList,lv:=lv,jv:=jv,un:=un,df:=false,fuel:=w,an:=0,iD:=λsv st=>AB st rvt sv (dec rvt.ks),mf:=λ_ _=>none} g gn lvg jvg ung avt (fn.body.getD .skip))
theorem aa6{P:Program}{X:eL}(OK:iR P X)(mx:P.follows .mixedOrders=true){pt:(β:Type)->FuncId->Hx (cH β)}(PT:ju P pt){f:FuncId}{fn:Func}{g:FuncId}{gn:Func}{avt:qr VT}{rvt:VT}{lv jv:Nat->Hx cQ}{un:Nat->Bool}{lvg jvg:Nat->Hx cQ}{ung:Nat->Bool}{w:Nat}{Sh:Fn (VT.fw avt) (Hx (bO rvt.ks))}
 (hF:X.F.get f=some fn) (hb:fn.body=some (fn.body.getD .skip)) (hG:X.F.get g=some gn) (hres:gn.results.toList=[]) (hS:Sh=ZM w X pt fn g gn avt rvt lv jv un lvg jvg ung):cS P f avt rvt Sh:=by
 intro ls r e lo us hu m args' w0 K A;subst hS;have e1:=nB _ _ _ _ e;obtain⟨⟨svs,rest⟩,h1,e2⟩:=ax e1;obtain⟨_,q1,_⟩:=xA avt ls _ _ _ _ lo hu h1;have hl:args'.size=avt.length:=by rw[<-JQ _ _ _ _ hu,<-Array.length_toList];exact A.1.symm
 refine Q1 (B:=⟨w0,λ_=>False,m,0,λ_=>none,avt.length+(fn.ntmps -avt.length),[]⟩) OK mx (PT _) (OK.F _ _ hF).1 hb rfl rfl hG hres e2 rfl rfl rfl (σ:=⟨λ_=>none,m⟩) ⟨by simp[hl],rfl,tF (CO (q1 A) (dX:=[])),Mem.start K⟩ λR d kr=>?_;obtain⟨ls',f1,f3⟩:=Kv _ _ _ _ kr;obtain⟨pv,g1,g3⟩:=f3 [];rw[ea,<-qj _ _ _ f1] at g1;obtain⟨z1,z2⟩:=g3 (Mem.Xn K R.mem) d;rw[<-qj _ _ _ f1] at z2;exact⟨_,rfl,R.mem.base.below,pv,g1,z2,z1⟩
noncomputable def ZL(w:Nat)(X:eL)(pt:(β:Type)->FuncId->Hx (cH β))(fn:Func)(g:FuncId)(gn:Func)(T:HT)(lv jv:Nat->Hx cQ)(un:Nat->Bool)(lvg jvg:Nat->Hx cQ)(ung:Nat->Bool):Fn T.ti.ks (Hx (bO T.to.ks)):=
 lX T.ti.ks λls=>ob (iE T.ti ls) λst=>DS {X:=X,pt:=pt _,n:=T.n+(fn.ntmps -T.n),rs:=fn.results.toList,lv:=lv,jv:=jv,un:=un,df:=false,fuel:=w,an:=T.an,iD:=λsv st=>kZ T.an T.to ⟨Tr.nil.set 0 sv,st.h,st.sx⟩ (dec T.to.ks),mf:=λ_ _=>bJ 52} g gn lvg jvg ung (fn.body.getD .skip) st
theorem aa7{P:Program}{X:eL}(OK:iR P X)(mx:P.follows .mixedOrders=true){pt:(β:Type)->FuncId->Hx (cH β)}(PT:ju P pt){f:FuncId}{fn:Func}{g:FuncId}{gn:Func}{T:HT}{lv jv:Nat->Hx cQ}{un:Nat->Bool}{lvg jvg:Nat->Hx cQ}{ung:Nat->Bool}{w:Nat}{Sh:Fn T.ti.ks (Hx (bO T.to.ks))}
 (hF:X.F.get f=some fn) (hb:fn.body=some (fn.body.getD .skip)) (hG:X.F.get g=some gn) (hres:gn.results.toList=[]) (hS:Sh=ZL w X pt fn g gn T lv jv un lvg jvg ung):nt P f T Sh:=by
 intro ls r st so e hst hso B σ w0 args' hn ha ev M;subst hS;have e1:=nB _ _ _ _ e;obtain⟨st1,g1,e2⟩:=ax e1;rw[hst] at g1;cases g1;refine Q1 (B:={B with n:=T.n+(fn.ntmps -T.n),dX:=[]}) OK mx (PT _) (OK.F _ _ hF).1 hb rfl rfl hG hres e2 rfl ha rfl ⟨by simp[hn],rfl,tF ev,M.nd⟩ λR d kr=>?_
 obtain⟨σ3,z1,z2⟩:=yn (B:=B) (by rw[ha];exact kr) (λls q=>qj _ _ _ q) hso d R.mem.nd;exact⟨σ3,_,rfl,z1,z2⟩
end
theorem DI{a b:Bool}(h:cond a b false=true):a=true/\b=true:=nD h
theorem AG{P:Program}{t:Nat}{inf:TypeInfo}(h:P.types[t]? =some inf):P.info? t=some inf:=by
 unfold Tables.info?
 grind
def C9(P:Program)(t:Nat):Prop:=(∃k,P.underlying t=some (.int k))/\∃inf,P.info? t=some inf/\inf.size=1
def Ea:qr Field->Nat->(Nat->Bool)->Bool
 |[],_,_=>true
 |f::fs,n,ints=>cond (f.name== "_") false (cond (Nat.beq f.offset n) (cond (ints f.type) (Ea fs (n+1) ints) false) false)
theorem RP{P:Program}{ints:Nat->Bool}(hi:∀t,ints t=true->C9 P t):∀(fs:qr Field)(n:Nat),Ea fs n ints=true->∀(i:Nat)(f:Field),fs[i]? =some f->f.name≠ "_"/\f.offset=n+i/\C9 P f.type
 |[],n,_,i,f,h=>by grind
 |g::fs,n,e,i,f,h=>by
  unfold Ea at e;cases hn:(g.name== "_") with
  |true=>grind
  |false=>
   simp only[hn] at e;obtain⟨e1,e2⟩:=DI e;obtain⟨e3,e4⟩:=DI e2;cases i with
   |zero=>simp_all
   |succ i=>
    obtain⟨a,b,c⟩:=RP hi fs (n+1) e4 i f (by grind)
    grind
def Kq(ints:Nat->Bool)(n:Nat):TypeDesc->Bool
 | .struct fs=>cond (Nat.beq fs.toList.length n) (Ea fs.toList 0 ints) false
 | .array len e=>cond (Nat.beq len n) (ints e) false
 |_=>false
theorem aa3{P:Program}{ints:Nat->Bool}(hi:∀t,ints t=true->C9 P t){n:Nat}{d:TypeDesc}(h:Kq ints n d=true):zL P n d:=by
 unfold Kq at h;split at h
 ·rename_i fs;obtain⟨h1,h2⟩:=DI h;have:=bX h1;refine⟨by simpa using this,λi f hf=>?_⟩;obtain⟨a,b,c⟩:=RP hi _ _ h2 i f (by grind);exact⟨a,by omega,c⟩
 ·rename_i len e;obtain⟨h1,h2⟩:=DI h;exact⟨bX h1,hi _ h2⟩
 grind
def tT{α:Type}:qr (Nat×α)->Tr α
 |[]=>.nil
 |(n,x)::l=>(tT l).set n x
theorem A3{α:Type}:∀{l:qr (Nat×α)}{n:Nat}{x:α},(tT l).get n=some x->(n,x)∈l
 |[],n,x,h=>by rw[tT,Tr.get_nil] at h;cases h
 |(m,y)::l,n,x,h=>by
  rw[tT,Tr.fN] at h;by_cases e:n=m
  ·grind
  ·rw[aq e] at h;exact mE _ (A3 h)
structure Qe(P:Program)(t:Nat)(i:jw):Prop where
 under:P.underlying t=some i.desc
 info:∃inf,P.info? t=some inf/\inf.size=i.size/\inf.bytes=i.bytes/\∀z,i.zero=some z->inf.zero=some z
 flat:i.flat=true->P.eqGuardType P.depth t=false/\P.stoodInHeld t=false/\zL P i.size i.desc
theorem alX{P:Program}{T:TT}{F:FT}{lT:qr (Nat×jw)}{lF:qr (Nat×Func)}(eT:T=tT lT)(eF:F=tT lF)(hT:∀p∈lT,Qe P p.1 p.2)(hF:∀p∈lF,P.funcs[p.1]? =some p.2 /\(p.2.name== "runtime.NumGoroutine")=false/\p.2.body.isSome=true):iR P ⟨T,F⟩:=by subst eT eF;exact⟨⟨λt i h=>(hT _ (A3 h)).under,λt i h=>(hT _ (A3 h)).info,λt i h=>(hT _ (A3 h)).flat⟩,λf fn h=>hF _ (A3 h)⟩
section
variable{β:Type}
theorem Ej{x:SV}{id:Nat}(h:id∈SV.ids x):∀{l:qr SV},x∈l->id∈SV.kh l
 |y::l,hx=>by
  unfold SV.kh;rcases cZ.1 hx with rfl|hx
  ·exact List.mem_append_left _ h
  ·exact List.mem_append_right _ (Ej h hx)
theorem DV.via{σ σ':Ren}(hl:σ'.lit=σ.lit){x:SV}{v:H1}(d:DV σ x v):(∀id∈SV.ids x,∀z,σ.nm id=some z->σ'.nm id=some z)->DV σ' x v:=by
 have sub:∀{l:qr SV}{i:Nat}{x:SV}{p:Nat->Prop},(∀id∈SV.kh l,p id)->l[i]? =some x->∀id∈SV.ids x,p id:=λh e id q=>h id (Ej q (nZ e));induction d with
 |i=>exactλ_=>.i _ _
 |b=>exactλ_=>.b _
 |s=>exactλ_=>.s _
 |v h h1=>exactλ_=>.v (hl▸h) h1
 |nl=>exactλ_=>.nl
 |agg kl _ ih=>exactλp=>.agg kl λi x y a b=>ih i x y a b (sub (by unfold SV.ids at p;exact p) a)
 |aG kl _ ih=>exactλp=>.aG kl λi x y a b=>ih i x y a b (sub (by unfold SV.ids at p;exact p) a)
 |ptr h=>exactλp=>.ptr (p _ (by unfold SV.ids;simp) _ h)
 |lp h=>exactλ_=>.lp (hl▸h)
 |sl h hn=>exactλp=>.sl (p _ (by unfold SV.ids;simp) _ h) hn
 |jP h=>exactλp=>.jP (p _ (by unfold SV.ids;simp) _ h)
 |gr h hc hn=>exactλp=>.gr (p _ (by unfold SV.ids;simp) _ h) hc hn
 |fn kl _ ih=>exactλp=>.fn kl λi x y a b=>ih i x y a b (sub (by unfold SV.ids at p;exact p) a)
 |fO _ ih=>exactλp=>.fO (ih (by unfold SV.ids at p;exact p))
 |em h=>exactλ_=>.em (hl▸h)
 |ni=>exactλ_=>.ni
 |mp h=>exactλp=>.mp (p _ (by unfold SV.ids;simp) _ h)
def CP(p:Nat->Bool):SO->Bool
 | .cells c _=>(SV.kh c).all p
 | .mp es=>es.all λe=>(SV.ids e.2).all p
 |_=>true
theorem DO.via{σ σ':Ren}(hl:σ'.lit=σ.lit){w:jp}{id:Nat}{so:SO}(d:DO σ w id so){p:Nat->Bool}(h:∀id,p id=true->∀z,σ.nm id=some z->σ'.nm id=some z)(hi:p id=true)(hs:CP p so=true):DO σ' w id so:=by
 have e:=h id hi;cases so with
 |cells c t=>obtain⟨o,n,vs,a,b,c⟩:=d;exact⟨o,n,vs,e _ a,b,c.1,λi x y h1 h2=>(c.2 i x y h1 h2).via hl λk hk=>h k (iv.1 hs k (Ej hk (nZ h1)))⟩
 |arr c t=>obtain⟨o,n,vs,a,b,c⟩:=d;exact⟨o,n,vs,e _ a,b,hl▸c⟩
 |grow E c t=>
  obtain⟨a,q,g⟩:=d;refine⟨a,q,?_⟩;rcases g with⟨g,k⟩|⟨o,n,cs,g,k⟩
  ·exact .inl ⟨e _ g,k⟩
  ·exact .inr ⟨o,n,cs,e _ g,hl▸k⟩
 |mp es=>obtain⟨o,n,es',ck,a,b,c⟩:=d;exact⟨o,n,es',ck,e _ a,b,c.1,λi x y h1 h2=>have q:=c.2 i x y h1 h2;⟨q.1,q.2.via hl λk hk=>h k (iv.1 (iv.1 hs x (nZ h1)) k hk)⟩⟩
def rO(f:Nat->SO->Bool):Tr SO->Nat->Nat->Bool
 | .nil,_,_=>true
 | .node v l r,a,b=>(match v with|some x=>f b x|none=>true)&&(rO f l (2*a) (a+b)&&rO f r (2*a) (2*a+b))
theorem Jk{f:Nat->SO->Bool}:∀(p:jJ){t:Tr SO}{a b:Nat}{x:SO},rO f t a b=true->walk p t=some x->f (a*p.num+b) x=true
 |p,.nil,a,b,x,h,e=>by rw[IJ] at e;cases e
 | .z,.node v l r,a,b,x,h,e=>by
  unfold rO at h;rw[bB] at h;cases v with
  |none=>cases e
  |some y=>have e:some y=some x:=e;cases e;rw[show a*jJ.z.num+b=b by unfold jJ.num;omega];exact h.1
 | .l p,.node v l r,a,b,x,h,e=>by unfold rO at h;rw[bB,bB] at h;have:=Jk p h.2.1 (show walk p l=some x from e);rw[show a*(jJ.l p).num+b=2*a*p.num+(a+b) by show a*(2*p.num+1)+b=_;rw[Nat.mul_add,<-Nat.mul_assoc,nq a 2];omega];exact this
 | .r p,.node v l r,a,b,x,h,e=>by unfold rO at h;rw[bB,bB] at h;have:=Jk p h.2.2 (show walk p r=some x from e);rw[show a*(jJ.r p).num+b=2*a*p.num+(2*a+b) by show a*(2*p.num+2)+b=_;rw[Nat.mul_add,<-Nat.mul_assoc,nq a 2];omega];exact this
theorem Qq{f:Nat->SO->Bool}{t:Tr SO}(h:rO f t 1 0=true){n:Nat}{x:SO}(e:t.get n=some x):f n x=true:=by have:=Jk (su n) h e;rwa[show(su n).num=n from Bo _ _ (kR _),Nat.one_mul,Nat.add_zero] at this
def qn(h:Tr SO)(i:Nat):Bool:=match h.get i with
 |some _=>true
 |none=>false
def vE(h:Tr SO)(sx i:Nat):Bool:=Nat.ble sx i||qn h i
section
variable[QF]
noncomputable def SG(X:eL)(pt:(β:Type)->FuncId->Hx (cH β))(fn:Func)(lv jv:Nat->Hx cQ)(un:Nat->Bool)(w n sx:Nat):Ctx (Bool×SV×St):=
 {X:=X,pt:=pt _,n:=n+(fn.ntmps -n),rs:=fn.results.toList,lv:=lv,jv:=jv,un:=un,df:=false,fuel:=w,an:=sx,iD:=λsv st=>some (false,sv,st),mf:=λsv st=>some (true,sv,st)}
noncomputable def inl(X:eL)(pt:(β:Type)->FuncId->Hx (cH β))(fn:Func)(lv jv:Nat->Hx cQ)(un:Nat->Bool)(w:Nat):cH β:=λst args K=>
 cond (rO (λi so=>Nat.blt i st.sx&&CP (qn st.h) so) st.h 1 0&&(SV.kh args).all (qn st.h))
  (ob (dn (SG X pt fn lv jv un w args.length st.sx) 100000 [] [.code (fn.body.getD .skip)] ⟨oS args 0 .nil,st.h,st.sx⟩) λr=>
   cond (Nat.ble st.sx r.2.2.sx&&(rO (λi so=>vE st.h st.sx i&&CP (vE st.h st.sx) so) r.2.2.h 1 0&&(SV.ids r.2.1).all (vE st.h st.sx)))
    (K r.1 r.2.1 ⟨st.tm,r.2.2.h,r.2.2.sx⟩) (bJ 81)) (bJ 82)
theorem abM{P:Program}{X:eL}(OK:iR P X)(mx:P.follows .mixedOrders=true){pt:(β:Type)->FuncId->Hx (cH β)}(PT:ju P pt){g:FuncId}{fn:Func}(hF:X.F.get g=some fn)(hb:fn.body=some (fn.body.getD .skip)){lv jv:Nat->Hx cQ}{un:Nat->Bool}{w:Nat}:mG P g (inl (β:=β) X pt fn lv jv un w):=by
 intro st args K b e;obtain⟨c0,e⟩:=bd e;obtain⟨⟨p,sv,st'⟩,e1,e⟩:=ax e;obtain⟨c1,e⟩:=bd e;simp only[bB] at c0 c1;obtain⟨c2,c3⟩:=c0;obtain⟨c4,c5,c6⟩:=c1;have hx:st.sx<=st'.sx:=ed c4;refine⟨p,sv,_,e,rfl,hx,λ{B σ F w0} hN M args' d=>?_⟩;have lv0:∀{id so},st.h.get id=some so->qn st.h id=true:=λh=>by unfold qn;rw[h]
 have lt0:∀{id so},st.h.get id=some so->id<st.sx/\CP (qn st.h) so=true:=λh=>by have:=Qq c2 h;rw[bB] at this;exact⟨fb this.1,this.2⟩
 let σ0:Ren:=⟨λid=>if qn st.h id then σ.nm id else none,σ.lit⟩
 have to0:∀id,qn st.h id=true->∀z,σ.nm id=some z->σ0.nm id=some z:=λid h z hz=>by show(if _ then _ else _)=_;rw[ay h];exact hz
 have of0:∀{id z},σ0.nm id=some z->σ.nm id=some z:=λ{id z} h=>by
  replace h:(if qn st.h id then σ.nm id else none)=some z:=h;split at h
  ·exact h
  ·cases h
 have Fe:∀b,Own σ0 (hG st.h) b->Own σ (hG st.h) b:=λb ⟨i,s,o,n,a,p,q⟩=>⟨i,s,o,n,a,of0 p,q⟩
 let B2:Bs:=⟨w0,Own σ (hG st.h),σ.lit,st.sx,σ0.nm,args.length+(fn.ntmps -args.length),[]⟩
 have fr0:∀id,st.sx<=id->σ0.nm id=none:=λid h=>by
  show(if _ then _ else _)=_;rw[aq];intro q;unfold qn at q;split at q
  ·rename_i s hs;have:=(lt0 hs).1;omega
  ·cases q
 have M0:jc B2 σ0 st.h st.sx w0:=⟨λid so h=>(M.obj id so h).via (σ:=σ) (σ':=σ0) rfl to0 (lv0 h) (lt0 h).2,λi j s s' o o' n n' a a' p p' q=>M.inj _ _ _ _ _ _ _ _ a a' (of0 p) (of0 p') q,fr0,M.lit,λb i v h q=>M.free b i v h (Fe b q),eZ.refl _ _,λb q=>.inl (Fe b q),λ_ _ _ q=>.inl q,λ_ _ _ q=>q,λ_ _ _ q=>q⟩;have dv0:fm σ0 args args'.toList:=⟨d.1,λi x y h1 h2=>(d.2 i x y h1 h2).via (σ:=σ) (σ':=σ0) rfl λid hid=>to0 id (iv.1 c3 id (Ej hid (nZ h1)))⟩;have hl:args'.size=args.length:=by rw[<-Array.length_toList];exact d.1.symm
 have fin:∀{σ':Ren}{a:Act}{w':jp}{v:H1},dH B2 σ' st' a w'->DV σ' sv v->∃σn v',End p v=End p v'/\Ext σ σn/\DV σn sv v'/\Mem B σn (hG st'.h) (lZ F st.sx st'.sx) w':=by
  intro σ' a w' v R dv
  let σn:Ren:=⟨λid=>if st.sx<=id/\id<st'.sx then σ'.nm id else σ.nm id,σ'.lit⟩
  have E:Ext σ σn:=⟨λid x e=>by show(if _ then _ else _)=_;rw[aq λq=>by rw[M.fresh id (hN id q.1 q.2)] at e;cases e];exact e,R.mem.nM⟩;have key:∀id,vE st.h st.sx id=true->∀z,σ'.nm id=some z->σn.nm id=some z:=λid h z hz=>by
   by_cases q:st.sx<=id
   ·have:id<st'.sx:=Nat.not_le.1 λq=>by rw[R.mem.fresh id q] at hz;cases hz
    show(if _ then _ else _)=_;rw[ay ⟨q,this⟩];exact hz
   ·unfold vE at h;rw[sU] at h;rcases h with h|h
    ·exact absurd (ed h) q
    ·have ex:∃so,st.h.get id=some so:=by
      unfold qn at h;split at h
      ·rename_i s hs;exact⟨s,hs⟩
      ·cases h
     obtain⟨so,hso⟩:=ex;have hy:∃y,σ.nm id=some y:=(M.obj id so hso).nm.elim (λq=>⟨_,q⟩) λ⟨_,_,q,_⟩=>⟨_,q⟩;obtain⟨y,hy⟩:=hy;have:=R.mem.kE id (Nat.not_le.1 q) y (to0 id h y hy);rw[hz] at this;cases this;exact E.nm _ _ hy
  have kp:∀{id so},st'.h.get id=some so->vE st.h st.sx id=true/\CP (vE st.h st.sx) so=true:=λh=>by have:=Qq c5 h;rwa[bB] at this
  have back:∀{id so o n},st'.h.get id=some so->σn.nm id=some (some o,n)->σ'.nm id=some (some o,n):=λ{id so o n} h1 h2=>by rcases(R.mem.obj id so h1).nm with q|⟨_,_,q,_⟩<;>rw[key _ (kp h1).1 _ q] at h2<;>cases h2;exact q
  have M3:Mem (BA w0 (Own σ (hG st.h)) σ.lit) σn (hG st'.h) (lZ F st.sx st'.sx) w':=
   ⟨λid so h=>(R.mem.obj id so h).via (σ:=σ') (σ':=σn) rfl key (kp h).1 (kp h).2,λi j s s' o o' n n' a a' p p' q=>R.mem.inj _ _ _ _ _ _ _ _ a a' (back a p) (back a' p') q,λid h=>by show(if _ then _ else _)=_;rw[aq h.2];exact M.fresh id h.1,R.mem.lit,λb i v h ⟨i',s,o,n,a,p,q⟩=>R.mem.free b i v h ⟨i',s,o,n,a,back a p,q⟩,R.mem.base,λb ⟨i',s,o,n,a,p,q⟩=>R.mem.owned b ⟨i',s,o,n,a,back a p,q⟩,R.mem.mj,λk hk=>(Nat.not_lt_zero k hk).elim,R.mem.nM⟩
  exact⟨σn,v,rfl,E,dv.via (σ:=σ') (σ':=σn) rfl λid h=>key id (iv.1 c6 id h),(M.frame (λ_ _ h=>h) E M3).less (λ_ _ h=>.inl h) λ_ h=>h⟩
 refine Aq (C:=SG X pt fn lv jv un w args.length st.sx) (B:=B2) (b:=(p,sv,st')) (OK.F _ _ hF).1 hb rfl rfl (tB OK mx (PT _) rfl rfl rfl _ _ _ _ _ e1 (λr hr=>by cases hr) ⟨by simp[hl,B2],rfl,tF (CO dv0 (dX:=[])),M0⟩) λR dv=>⟨λkr=>?_,λkp=>?_⟩
 ·cases kr;exact fin R dv
 ·cases kp;exact fin R dv
noncomputable def Mv(pt pi:(β:Type)->FuncId->Hx (cH β))(g:FuncId)(X:eL)(fn:Func)(lv:Nat->Hx cQ)(un:Nat->Bool)(w:Nat):(β:Type)->FuncId->Hx (cH β):=
 λβ f=>cond (Nat.beq f g) (some (inl X pi fn lv (λ_=>none) un w)) (pt β f)
theorem ag8{P:Program}{X:eL}(OK:iR P X)(mx:P.follows .mixedOrders=true){pt pi:(β:Type)->FuncId->Hx (cH β)}(PT:ju P pt)(PI:ju P pi){g:FuncId}{fn:Func}(hF:X.F.get g=some fn)(hb:fn.body=some (fn.body.getD .skip)){lv:Nat->Hx cQ}{un:Nat->Bool}{w:Nat}:ju P (Mv pt pi g X fn lv un w):=by
 intro β f e h;unfold Mv at h;cases hq:Nat.beq f g with
 |true=>rw[hq] at h;obtain rfl:=bX hq;cases h;exact abM OK mx PI hF hb
 |false=>rw[hq] at h;exact PT β f e h
end
def MZ(e:Nat×Nat×qr Nat×Nat):H1:=.func (.func 0) #[.agg #[.int .i64 e.1,.int .i64 e.2.1]] #[.agg #[ae e.2.2.1.length (e.2.2.1.map λt=>.int .i64 (Int.ofNat t)),.int .i64 e.2.2.2]]
def yv(l:qr (Nat×Nat×qr Nat×Nat)):H1:=.func (.method "") ⟨l.map MZ⟩ #[]
end
section
variable{β:Type}
def sw:SV->Bool
 | .aG (x::_)=>(match x with| .ptr _ _=>true|_=>false)
 |_=>false
def C7(P:Program)(g:FuncId)(T:PT)(Sh:Fn T.ti.ks (Hx (bO T.to.ks⊕bO T.tp.ks))):Prop:=
 ∀ls r st,iM T.ti.ks Sh ls=some r->iE T.ti ls=some st->∀so,(match r with| .inl a=>iE T.to (gS T.to.ks a)=some so| .inr a=>iE T.tp (gS T.tp.ks a)=some so)->C8 P g T.n T.an st so false
noncomputable def ZN[QF](w:Nat)(X:eL)(pt:(β:Type)->FuncId->Hx (cH β))(fn:Func)(T:PT)(lv jv:Nat->Hx cQ)(un:Nat->Bool):Fn T.ti.ks (Hx (bO T.to.ks⊕bO T.tp.ks)):=
 lX T.ti.ks λls=>ob (iE T.ti ls) λst=>dn {X:=X,pt:=pt _,n:=T.n+(fn.ntmps -T.n),rs:=fn.results.toList,lv:=lv,jv:=jv,un:=un,df:=false,fuel:=w,an:=T.an,iD:=λsv st=>cond (sw sv) (rz (uz T.to) sv st λsv st=>kZ T.an T.to ⟨Tr.nil.set 0 sv,st.h,st.sx⟩ λls=>ob (dec T.to.ks ls) λa=>some (.inl a)) (rz (uz T.tp) sv st λsv st=>kZ T.an T.tp ⟨Tr.nil.set 0 sv,st.h,st.sx⟩ λls=>ob (dec T.tp.ks ls) λa=>some (.inr a)),mf:=λ_ _=>none} 100000 [] [.code (fn.body.getD .skip)] st
theorem abc[QF]{P:Program}{X:eL}(OK:iR P X)(mx:P.follows .mixedOrders=true){pt:(β:Type)->FuncId->Hx (cH β)}(PTO:ju P pt){g:FuncId}{fn:Func}{T:PT}{lv jv:Nat->Hx cQ}{un:Nat->Bool}{w:Nat}{Sh:Fn T.ti.ks (Hx (bO T.to.ks⊕bO T.tp.ks))}
 (hF:X.F.get g=some fn) (hb:fn.body=some (fn.body.getD .skip)) (hS:Sh=ZN w X pt fn T lv jv un):C7 P g T Sh:=by
 intro ls r st e hst so hso B σ w0 args' hn ha ev M;subst hS;have e1:=nB _ _ _ _ e;obtain⟨st1,g1,e2⟩:=ax e1;rw[hst] at g1;cases g1;refine Aq (B:={B with n:=T.n+(fn.ntmps -T.n),dX:=[]}) (OK.F _ _ hF).1 hb rfl rfl (tB OK mx (PTO _) rfl rfl ha _ _ _ _ _ e2 (λr hr=>by cases hr) ⟨by simp[hn],rfl,tF ev,M.nd⟩) λ{σ1 s1 sv a1 w1 v1} R d=>⟨λkr=>?_,λkp=>by cases kp⟩
 cases hp:sw sv with
 |true=>
  replace kr:cond (sw sv) _ _=some r:=kr;rw[hp] at kr;obtain⟨sv2,st2,k1,k2⟩:=FV (β:=bO T.to.ks⊕bO T.tp.ks) (t:=uz T.to) (K:=λsv st=>kZ T.an T.to ⟨Tr.nil.set 0 sv,st.h,st.sx⟩ λls=>ob (dec T.to.ks ls) λa=>some (.inl a)) kr;obtain⟨σ2,d2,M2⟩:=k2 d R.mem.nd;replace k1:kZ T.an T.to ⟨Tr.nil.set 0 sv2,st2.h,st2.sx⟩ (λls=>ob (dec T.to.ks ls) λa=>some (Sum.inl a))=some r:=k1;cases r with
  |inl a=>obtain⟨σ3,z1,z2⟩:=yn (B:=B) (by rw[ha];exact k1) (λls q=>by obtain⟨a',q1,q2⟩:=ax q;cases q2;exact qj _ _ _ q1) hso d2 M2;exact⟨σ3,_,rfl,z1,z2⟩
  |inr a=>obtain⟨ls',q1,_⟩:=vn (B:=B) (by rw[ha];exact k1);obtain⟨a',_,q2⟩:=ax q1;cases q2
 |false=>
  replace kr:cond (sw sv) _ _=some r:=kr;rw[hp] at kr;obtain⟨sv2,st2,k1,k2⟩:=FV (β:=bO T.to.ks⊕bO T.tp.ks) (t:=uz T.tp) (K:=λsv st=>kZ T.an T.tp ⟨Tr.nil.set 0 sv,st.h,st.sx⟩ λls=>ob (dec T.tp.ks ls) λa=>some (.inr a)) kr;obtain⟨σ2,d2,M2⟩:=k2 d R.mem.nd;replace k1:kZ T.an T.tp ⟨Tr.nil.set 0 sv2,st2.h,st2.sx⟩ (λls=>ob (dec T.tp.ks ls) λa=>some (Sum.inr a))=some r:=k1;cases r with
  |inl a=>obtain⟨ls',q1,_⟩:=vn (B:=B) (by rw[ha];exact k1);obtain⟨a',_,q2⟩:=ax q1;cases q2
  |inr a=>obtain⟨σ3,z1,z2⟩:=yn (B:=B) (by rw[ha];exact k1) (λls q=>by obtain⟨a',q1,q2⟩:=ax q;cases q2;exact qj _ _ _ q1) hso d2 M2;exact⟨σ3,_,rfl,z1,z2⟩
def Rm(T:PT)(Sh:Fn T.ti.ks (Hx (bO T.to.ks⊕bO T.tp.ks))):cH β:=λst args K=>
 cond (Nat.beq args.length T.n) (vm [] T.ti ⟨oS args 0 .nil,st.h,st.sx⟩ λls m=>
  cond (r9 st.h m&&tq m T.an) (ob (iM T.ti.ks Sh ls) λr=>dG r
   (λa=>ob (iE T.to (gS T.to.ks a)) λso=>ob (so.tm.get 0) λsv=>K false (pN (mT T.an st.sx m) sv) ⟨st.tm,q8 (mT T.an st.sx m) so.h T.to.qo (rS m st.h),st.sx+T.to.sx⟩)
   (λa=>ob (iE T.tp (gS T.tp.ks a)) λso=>ob (so.tm.get 0) λsv=>K false (pN (mT T.an st.sx m) sv) ⟨st.tm,q8 (mT T.an st.sx m) so.h T.tp.qo (rS m st.h),st.sx+T.tp.sx⟩)) none) none
theorem aaN{P:Program}{g:FuncId}{T:PT}{Sh:Fn T.ti.ks (Hx (bO T.to.ks⊕bO T.tp.ks))}(F:C7 P g T Sh):mG P g (Rm (β:=β) T Sh):=by
 intro st args K b e;obtain⟨hlen,e⟩:=bd e;obtain⟨ls,m,h1,_,hinj,hsx,stT,h2,h3,h4⟩:=D4 (λi j a q=>by cases q) e;obtain⟨hl,h1⟩:=bd h1;rw[bB] at hl;obtain⟨r,k1,h1⟩:=ax h1;cases r with
 |inl a=>obtain⟨so,k2,h1⟩:=ax h1;obtain⟨sv,k3,h1⟩:=ax h1;have sx:=AZ k2;rw[<-sx] at h1;exact⟨false,_,_,h1,rfl,Nat.le_add_right _ _,λhF M args' d=>Au (bX hlen) hinj (by rw[h3];exact hsx) h4 (vG hl.1) (xi hl.2) k3 (F ls _ stT k1 h2 so k2) hF M args' d⟩
 |inr a=>obtain⟨so,k2,h1⟩:=ax h1;obtain⟨sv,k3,h1⟩:=ax h1;have sx:=AZ k2;rw[<-sx] at h1;exact⟨false,_,_,h1,rfl,Nat.le_add_right _ _,λhF M args' d=>Au (bX hlen) hinj (by rw[h3];exact hsx) h4 (vG hl.1) (xi hl.2) k3 (F ls _ stT k1 h2 so k2) hF M args' d⟩
def VE(pt:(β:Type)->FuncId->Hx (cH β))(g:FuncId)(T:PT)(Sh:Fn T.ti.ks (Hx (bO T.to.ks⊕bO T.tp.ks))):(β:Type)->FuncId->Hx (cH β):=
 λβ f=>cond (Nat.beq f g) (some λst args K=>cond (D9 T st args) (Rm T Sh st args K) (ob (pt β f) λe=>e st args K)) (pt β f)
theorem ag7{P:Program}{pt:(β:Type)->FuncId->Hx (cH β)}(PTO:ju P pt){g:FuncId}{T:PT}{Sh:Fn T.ti.ks (Hx (bO T.to.ks⊕bO T.tp.ks))}(F:C7 P g T Sh):ju P (VE pt g T Sh):=by
 intro β f e h;unfold VE at h;cases hb:Nat.beq f g with
 |true=>
  rw[hb] at h;have hg:=bX hb;subst hg;cases h;intro st args K b k;cases hf:D9 T st args with
  |true=>simp[hf] at k;exact aaN F st args K b k
  |false=>simp[hf] at k;obtain⟨e0,h0,k⟩:=ax k;exact PTO β f e0 h0 st args K b k
 |false=>rw[hb] at h;exact PTO β f e h
end
end Lt
structure bM where
 cg:Int
 data:List UInt8
 scan:List UInt8
 deriving DecidableEq
def oN(m:Int):Bool:=decide (208<=m/\m<=215)
def je(m:Int):Bool:=decide (m=216\/m=217)
def lL(m:Int):Bool:=decide (192<=m/\m<=254)&&!oN m&&!je m
def gx:qr UInt8->Nat
 |[]=>0
 |b::t=>if b=255 then(match t with
  |[]=>0
  |c::_=>if c≠0/\oN c.toNat=false then 0 else gx t+1) else gx t+1
theorem Gd:∀l,gx l<=l.length
 |[]=>aM _
 |b::t=>by
  have ih:=Gd t;unfold gx
  grind
inductive P4 where
 |ok (l:List bM) (end_:Nat)
 |bad (at_:Nat) (e:Int)
 deriving DecidableEq
inductive Zr where
 |last (s:bM) (rest:List UInt8)
 |more (s:bM) (rest:List UInt8)
 |short
 |form (behind:Nat)
def lu(first:Bool):qr UInt8->Zr
 |[]=>.short
 |[x]=>if x=255 then .short else .form 0
 |x::m::t=>
  if x≠255 then .form 0
  else if(first !=decide (m=216))||!(je m.toNat||lL m.toNat) then .form 0
  else if m=217 then .last ⟨217,[],[]⟩ t
  else if m=216 then .more ⟨216,[],[]⟩ t
  else match t with
   |a::b::_=>
    let n:=a.toNat*256+b.toNat
    if n<2 then .form 2
    else if t.length<n then .short
    else
     let r:=t.drop n
     let k:=if m=218 then gx r else 0
     .more ⟨m.toNat,(t.drop 2).take (n -2),r.take k⟩ (r.drop k)
   |_=>.short
def mn(L:Nat):Nat->Bool->qr UInt8->P4
 |0,_,_=>.bad 0 0
 |f+1,first,r=>match lu first r with
  | .short=>.bad L 3
  | .form k=>.bad (L -r.length+k) 2
  | .last s t=>.ok [s] (L -t.length)
  | .more s t=>match mn L f false t with
   | .ok l e=>.ok (s::l) e
   |x=>x
def ofM(b:qr UInt8):P4:=mn b.length (b.length+1) true b
def mX(s:bM):Bool:=lL s.cg&&decide (s.data.length<=65533)&&(s.scan.isEmpty||(decide (s.cg=218)&&decide (gx s.scan=s.scan.length)))
def lW(s:bM)(m:Int):Bool:=decide (s.cg=m)&&s.data.isEmpty&&s.scan.isEmpty
def jC:qr bM->Bool
 |[]=>false
 |[s]=>lW s 217
 |s::t=>mX s&&jC t
def mS:qr bM->Bool
 |[]=>false
 |s::t=>lW s 216&&jC t
def cV(s:bM):qr UInt8:=
 if je s.cg then[255,UInt8.ofNat s.cg.toNat]
 else[255,UInt8.ofNat s.cg.toNat,UInt8.ofNat ((s.data.length+2)/256),UInt8.ofNat ((s.data.length+2)%256)]++s.data++s.scan
def dt(l:qr bM):qr UInt8:=l.flatMap cV
theorem kN(s:bM)(l:qr bM):dt (s::l)=cV s++dt l:=rfl
theorem acY:∀{l:qr bM},jC l=true->∃(m:UInt8)(t:qr UInt8),dt l=255::m::t/\m≠0/\oN m.toNat=false
 |[],h=>by cases h
 |s::t,h=>by
  have key:(192<=s.cg/\s.cg<=254/\oN s.cg=false):=by
   cases t with
   |nil=>simp[jC,lW] at h;rw[h.1.1];decide
   |cons s' t=>simp[jC,mX,lL,bB] at h;exact⟨h.1.1.1.1.1.1,h.1.1.1.1.1.2,h.1.1.1.1.2⟩
  obtain⟨k1,k2,k3⟩:=key;have hm:((UInt8.ofNat s.cg.toNat).toNat:Int)=s.cg:=by rw[wX];omega
  refine⟨UInt8.ofNat s.cg.toNat,?_⟩;have e:∃t',cV s=255::UInt8.ofNat s.cg.toNat::t':=by unfold cV;split<;>simp_all
  obtain⟨t',e⟩:=e;refine⟨t'++dt t,by rw[kN,e];rfl,?_,by rw[hm];exact k3⟩;intro h0;rw[h0] at hm;simp at hm;omega
theorem NO:∀(l:qr UInt8)(m:UInt8)(t:qr UInt8),gx l=l.length->m≠0->oN m.toNat=false->gx (l++255::m::t)=l.length
 |[],m,t,_,h1,h2=>by unfold gx;simp_all
 |b::l,m,t,h,h1,h2=>by
  have hl:gx l=l.length/\(b=255->∃c r,l=c::r/\¬(c≠0/\oN c.toNat=false)):=by
   unfold gx at h
   grind
  have ih:=NO l m t hl.1 h1 h2;rw[ec];unfold gx
  grind
theorem aiG(x:qr UInt8){s:bM}(h:lW s 217=true):lu false (cV s++x)=.last s x:=by obtain⟨m,d,c⟩:=s;simp[lW] at h;obtain⟨⟨rfl,rfl⟩,rfl⟩:=h;rfl
theorem aiF(x:qr UInt8){s:bM}(h:lW s 216=true):lu true (cV s++x)=.more s x:=by obtain⟨m,d,c⟩:=s;simp[lW] at h;obtain⟨⟨rfl,rfl⟩,rfl⟩:=h;rfl
theorem aiH{s:bM}(h:mX s=true)(m:UInt8)(t:qr UInt8)(h1:m≠0)(h2:oN m.toNat=false):lu false (cV s++255::m::t)=.more s (255::m::t):=by
 obtain⟨k,d,c⟩:=s;simp[mX,lL,bB,uI,sU,List.isEmpty_iff] at h;obtain⟨⟨⟨⟨⟨a1,a2⟩,a3⟩,a4⟩,a5⟩,a6⟩:=h;have hm:((UInt8.ofNat k.toNat).toNat:Int)=k:=by rw[wX];omega
 have n216:UInt8.ofNat k.toNat≠216:=by intro e;rw[e] at hm;rw[<-hm] at a4;exact absurd a4 (by decide)
 have n217:UInt8.ofNat k.toNat≠217:=by intro e;rw[e] at hm;rw[<-hm] at a4;exact absurd a4 (by decide)
 unfold cV;rw[aq (by simp[a4])];simp;dsimp only[lu];rw[aq (by simp)];have hh:lL ((UInt8.ofNat k.toNat).toNat:Int)=true:=by rw[hm];simp[lL,a1,a2,a3,a4]
 rw[(show((false !=decide (UInt8.ofNat k.toNat=216))||!(je ((UInt8.ofNat k.toNat).toNat:Int)||lL ((UInt8.ofNat k.toNat).toNat:Int)))=false from by rw[hh,fI n216];simp),aq (by simp),aq n217,aq n216];have hn:(UInt8.ofNat ((d.length+2)/256)).toNat*256+(UInt8.ofNat ((d.length+2)%256)).toNat=d.length+2:=by rw[wX,wX];omega
 rw[hn,aq (by omega),aq (by simp)];have e1:(UInt8.ofNat ((d.length+2)/256)::UInt8.ofNat ((d.length+2)%256)::(d++(c++255::m::t))).drop (d.length+2)=c++255::m::t:=by simp
 rw[e1];have e2:(if UInt8.ofNat k.toNat=218 then gx (c++255::m::t) else 0)=c.length:=by
  rcases a6 with rfl|⟨a6,a7⟩
  ·split
   ·exact NO [] m t rfl h1 h2
   ·rfl
  ·rw[ay (by rw[a6];rfl),NO c m t a7 h1 h2]
 rw[e2];simp;omega
theorem amn{l:qr bM}(h:jC l=true):l.length<=(dt l).length:=by
 induction l with
 |nil=>simp
 |cons s t ih=>
  rw[kN,aT,bW];have:1<=(cV s).length:=by unfold cV;split<;>simp<;>omega
  cases t with
  |nil=>grind
  |cons s' t=>have:=ih (by simp[jC] at h;exact h.2);omega
theorem T8(L:Nat)(x:qr UInt8):∀(l:qr bM)(f:Nat),jC l=true->l.length<f->mn L f false (dt l++x)=.ok l (L -x.length)
 |[],_,h,_=>by cases h
 |[s],f+1,h,_=>by
  have:dt [s]=cV s:=by simp[dt]
  rw[this];unfold mn;rw[aiG x h]
 |s::s'::t,f+1,h,hf=>by have h':=((bB _ _).mp h).2;obtain⟨m,u,e,h1,h2⟩:=acY h';have ih:=T8 L x (s'::t) f h' (by grind);rw[kN,dM];unfold mn;rw[e] at ih⊢;rw[ec,ec] at ih⊢;rw[aiH (((bB _ _).mp h).1) m (u++x) h1 h2];simp_all
 |_::_,0,_,hf=>by grind
theorem Uc{l:qr bM}(h:mS l=true)(x:qr UInt8):ofM (dt l++x)=.ok l (dt l).length:=by
 cases l with
 |nil=>cases h
 |cons s t=>
  simp[mS] at h;unfold ofM;rw[kN,dM];unfold mn;rw[aiF _ h.1];have hl:t.length<(cV s++(dt t++x)).length:=by
   have:=amn h.2;have:1<=(cV s).length:=by unfold cV;split<;>simp<;>omega
   grind
  simp only[T8 _ x t _ h.2 hl]
  grind
def iu(l:qr UInt8):Nat:=l.foldl (λn b=>n*256+b.toNat) 0
def gV(l:qr UInt8)(at_ size:Nat)(order:Int):qr UInt8:=
 if order=1 then((l.drop at_).take size).reverse else(l.drop at_).take size
theorem EK(l:qr UInt8)(b:UInt8):iu (l++[b])=iu l*256+b.toNat:=by unfold iu;rw[List.foldl_append];rfl
def CX(s:Int):Bool:=s==1||s==2||s==4
def gw(s o:Int):Bool:=CX s&&(o==1||o==2)
def pB(l:qr UInt8)(at_ size order:Int):Hx Int:=
 if gw size order=true/\0<=at_/\at_<=(l.length:Int) -size then some (iu (gV l at_.toNat size.toNat order)) else none
def eE(n:Nat):Nat->qr UInt8
 |0=>[]
 |s+1=>eE (n/256) s++[UInt8.ofNat (n%256)]
theorem pj(s:Nat):∀n,(eE n s).length=s:=by
 induction s with
 |zero=>intro n;rfl
 |succ s ih=>intro n;simp[eE,ih]
def bc(n s:Nat)(order:Int):qr UInt8:=if order=1 then(eE n s).reverse else eE n s
theorem eI(n s:Nat)(o:Int):(bc n s o).length=s:=by unfold bc;split<;>simp[pj]
theorem xH{l:qr UInt8}{p s:Nat}{order:Int}(hs:s=1\/s=2\/s=4)(ho:order=1\/order=2)(hp:p+s<=l.length):pB l p s order=some (iu (gV l p s order):Int):=by unfold pB;rw[ay ⟨by rcases hs with rfl|rfl|rfl<;>rcases ho with rfl|rfl<;>rfl,by omega,by omega⟩];simp
def aI(n:Nat):Nat:=n+n%2
def pL(n:Int)(s:Nat)(order:Int):Hx (qr UInt8):=if 0<=n/\n<((256^s:Nat):Int) then some (bc n.toNat s order) else none
def iG(l:qr UInt8)(s m:Nat):qr UInt8:=
 (List.range l.length).map λi=>if i<m then(l[i -i%s+(s -1 -i%s)]?).getD 0 else(l[i]?).getD 0
theorem pR(l:qr UInt8)(s m:Nat):(iG l s m).length=l.length:=by simp[iG]
theorem C0(l:qr UInt8)(s m i:Nat)(h:i<l.length):(iG l s m)[i]? =some (if i<m then(l[i -i%s+(s -1 -i%s)]?).getD 0 else(l[i]?).getD 0):=by simp[iG,h]
def iY(l:qr UInt8)(s:Nat)(order:Int):qr UInt8:=if order=1 then iG l s l.length else l
theorem wO(l:qr UInt8)(s:Nat)(o:Int):(iY l s o).length=l.length:=by unfold iY;split<;>simp[pR]
def kindOf(t:Int):Int×Int×Int:=
 if t=1\/t=2\/t=7 then(1,1,1) else if t=3 then(2,2,1) else if t=4 then(4,4,1) else if t=5 then(8,4,3) else if t=6 then(1,1,2) else if t=8 then(2,2,2)
 else if t=9 then(4,4,2) else if t=10 then(8,4,4) else if t=11 then(4,4,5) else if t=12 then(8,8,5) else(0,0,0)
def Ap(l:qr UInt8):Bool:=(List.range l.length).all λi=>((l[i]?).getD 0==0)==(i+1==l.length)
def eH(ty az:Int)(l:qr UInt8):Bool:=
 decide ((kindOf ty).1 ≠0/\1<=az/\az<=65536/\(l.length:Int)=az*(kindOf ty).1)&&(ty !=2||Ap l)
theorem Et{t:Int}(h:t<1\/12<t):kindOf t=(0,0,0):=by
 unfold kindOf
 repeat(rw[aq (by omega)])
theorem K1(t:Int)(h:(kindOf t).1 ≠0):∃s m:Nat,(kindOf t).2.1 =(s:Int)/\(kindOf t).1 =((m*s:Nat):Int)/\(s=1\/s=2\/s=4\/s=8):=by
 by_cases o:t<1\/12<t
 ·rw[Et o] at h;exact absurd rfl h
 ·have hc:t=1\/t=2\/t=3\/t=4\/t=5\/t=6\/t=7\/t=8\/t=9\/t=10\/t=11\/t=12:=by omega
  rcases hc with rfl|rfl|rfl|rfl|rfl|rfl|rfl|rfl|rfl|rfl|rfl|rfl
  ·exact⟨1,1,rfl,rfl,by omega⟩
  ·exact⟨1,1,rfl,rfl,by omega⟩
  ·exact⟨2,1,rfl,rfl,by omega⟩
  ·exact⟨4,1,rfl,rfl,by omega⟩
  ·exact⟨4,2,rfl,rfl,by omega⟩
  ·exact⟨1,1,rfl,rfl,by omega⟩
  ·exact⟨1,1,rfl,rfl,by omega⟩
  ·exact⟨2,1,rfl,rfl,by omega⟩
  ·exact⟨4,1,rfl,rfl,by omega⟩
  ·exact⟨4,2,rfl,rfl,by omega⟩
  ·exact⟨4,1,rfl,rfl,by omega⟩
  ·exact⟨8,1,rfl,rfl,by omega⟩
theorem TI{ty az:Int}{l:qr UInt8}(h:eH ty az l=true):∃s q:Nat,(kindOf ty).2.1 =(s:Int)/\l.length=q*s/\(s=1\/s=2\/s=4\/s=8):=by
 unfold eH at h;rw[bB,cf] at h;obtain⟨⟨h1,h2,h3,h4⟩,-⟩:=h;obtain⟨s,m,e1,e2,e3⟩:=K1 ty h1;refine⟨s,az.toNat*m,e1,?_,e3⟩;rw[e2] at h4;have:(l.length:Int)=((az.toNat*m*s:Nat):Int):=by
  rw[h4,Nat.mul_assoc]
  push_cast
  rw[mD (by omega)]
 omega
theorem Lo(s:Nat):∀n,n<256^s->iu (eE n s)=n:=by
 induction s with
 |zero=>intro n h;simp at h;subst h;rfl
 |succ s ih=>intro n h;show iu (eE (n/256) s++[UInt8.ofNat (n%256)])=n;rw[EK,ih (n/256) (by rw[Nat.pow_succ] at h;omega),wX];omega
theorem Vy(pre l post:qr UInt8)(s:Nat)(order:Int)(hl:l.length=s):gV (pre++(l++post)) pre.length s order=if order=1 then l.reverse else l:=by unfold gV;rw[List.drop_left,<-hl,List.take_left]
theorem ada(pre post:qr UInt8)(n s:Nat)(order:Int)(h:n<256^s):iu (gV (pre++(bc n s order++post)) pre.length s order)=n:=by
 rw[Vy _ _ _ _ _ (eI n s order)];unfold bc;split
 ·rw[List.reverse_reverse,Lo s n h]
 ·exact Lo s n h
theorem get_at(pre post:qr UInt8)(n s:Nat)(order:Int)(hs:s=1\/s=2\/s=4)(ho:order=1\/order=2)(h:n<256^s):pB (pre++(bc n s order++post)) pre.length s order=some (n:Int):=by rw[xH hs ho (by simp[eI]),ada _ _ _ _ _ h]
theorem Lp:∀(l:qr UInt8),iu l<256^l.length:=by
 intro l;induction h:l.length generalizing l with
 |zero=>rw[qF] at h;subst h;decide
 |succ k ih=>
  have cL:l≠[]:=by intro e;subst e;simp at h
  have e:=List.dropLast_concat_getLast cL;rw[<-e,EK];have:=ih l.dropLast (by simp[h]);have hb:=(l.getLast cL).toNat_lt;rw[Nat.pow_succ];omega
theorem QB:∀(k:Nat)(l:qr UInt8),l.length=k->eE (iu l) k=l:=by
 intro k;induction k with
 |zero=>intro l h;rw[qF] at h;subst h;rfl
 |succ k ih=>
  intro l h;have cL:l≠[]:=by intro e;subst e;simp at h
  have e:=List.dropLast_concat_getLast cL;have hb:=(l.getLast cL).toNat_lt
  conv=>lhs;rw[<-e,EK]
  show eE ((iu l.dropLast*256+(l.getLast cL).toNat)/256) k++[UInt8.ofNat ((iu l.dropLast*256+(l.getLast cL).toNat)%256)]=l;have e1:(iu l.dropLast*256+(l.getLast cL).toNat)/256=iu l.dropLast:=by omega
  have e2:(iu l.dropLast*256+(l.getLast cL).toNat)%256=(l.getLast cL).toNat:=by omega
  rw[e1,e2,ih _ (by simp[h]),UInt8.ofNat_toNat];exact e
theorem agE(l:qr UInt8)(s:Nat)(order:Int)(h:l.length=s):bc (iu (if order=1 then l.reverse else l)) s order=l:=by
 unfold bc;split
 ·rw[QB s _ (by simp[h]),List.reverse_reverse]
 ·exact QB s _ h
theorem al8{s n i:Nat}(hs:0<s)(hd:n%s=0)(hi:i<n):i -i%s+(s -1 -i%s)<n/\(i -i%s+(s -1 -i%s)) -(i -i%s+(s -1 -i%s))%s+(s -1 -(i -i%s+(s -1 -i%s))%s)=i:=by
 have hm:=Nat.mod_lt i hs;obtain⟨q,hq⟩:∃q,n=s*q:=⟨n/s,by have:=Nat.div_add_mod n s;omega⟩;have hdm:=Nat.div_add_mod i s;obtain⟨a,ha⟩:∃a,i/s=a:=⟨_,rfl⟩;obtain⟨r,hr⟩:∃r,i%s=r:=⟨_,rfl⟩;rw[ha,hr] at hdm;rw[hr] at hm;rw[hr];have hi':i=s*a+r:=by omega
 have haq:a<q:=by
  have:s*a<s*q:=by omega
  exact Nat.lt_of_mul_lt_mul_left this
 have hle:s*(a+1)<=s*q:=Nat.mul_le_mul_left s haq;rw[Nat.mul_add,gk] at hle;have e:i -r+(s -1 -r)=s*a+(s -1 -r):=by omega
 have e2:(s*a+(s -1 -r))%s=s -1 -r:=by rw[Nat.mul_add_mod,qH (by omega)]
 rw[e,e2];omega
theorem al9(l:qr UInt8)(s:Nat)(order:Int)(hs:0<s)(hd:l.length%s=0):iY (iY l s order) s order=l:=by
 unfold iY;split
 ·apply rH;intro i;rcases ia i l.length with h|h
  ·obtain⟨h1,h2⟩:=al8 hs hd h;rw[C0 _ _ _ _ (by rw[pR];exact h),pR,ay h,C0 _ _ _ _ h1,ay h1,h2,cG h];rfl
  ·rw[kQ (by rw[pR,pR];exact h),kQ h]
 ·rfl
def pI(ty az:Int)(b:qr UInt8)(order:Int):Hx (qr UInt8):=
 if(kindOf ty).1 ≠0/\1<=az/\az<=65536/\az*(kindOf ty).1 <=(b.length:Int)/\eH ty az (iY (b.take (az*(kindOf ty).1).toNat) (kindOf ty).2.1.toNat order)=true then
  some (iY (b.take (az*(kindOf ty).1).toNat) (kindOf ty).2.1.toNat order) else none
theorem vK{ty az:Int}{l:qr UInt8}(h:eH ty az l=true):(kindOf ty).1 ≠0/\1<=az/\az<=65536/\(l.length:Int)=az*(kindOf ty).1 :=by unfold eH at h;rw[bB,cf] at h;exact h.1
theorem T5{ty az order:Int}{l:qr UInt8}(h:eH ty az l=true)(post:qr UInt8):pI ty az (iY l (kindOf ty).2.1.toNat order++post) order=some l:=by
 obtain⟨h1,h2,h3,h4⟩:=vK h;obtain⟨s,q,e1,e2,e3⟩:=TI h;have hs:(kindOf ty).2.1.toNat=s:=by rw[e1];simp
 have hn:(az*(kindOf ty).1).toNat=l.length:=by omega
 have ht:(iY l (kindOf ty).2.1.toNat order++post).take (az*(kindOf ty).1).toNat=iY l (kindOf ty).2.1.toNat order:=by
  rw[hn]
  conv=>lhs;rw[<-wO l (kindOf ty).2.1.toNat order]
  exact List.take_left
 have hb:iY (iY l (kindOf ty).2.1.toNat order) (kindOf ty).2.1.toNat order=l:=by rw[hs];exact al9 l s order (by omega) (by rw[e2];exact Nat.mul_mod_left q s)
 unfold pI;rw[ht,hb,ay ⟨h1,h2,h3,by simp[wO];omega,h⟩]
structure aL where
 tag:Int
 ty:Int
 az:Int
 data:List UInt8
 deriving DecidableEq
mutual
inductive aV where
 |mk (tags:List aL) (subs:cP) (blob:List UInt8)
inductive cP where
 |nil
 |cons (tag:Int) (d:aV) (r:cP)
end
structure mH where
 order:Int
 dJ:List aV
structure iJ where
 tag:Int
 shape:Int
structure bg where
 bR:List iJ
 at_:Int
 cJ:Int
 next:Int
structure bo where
 tag:Int
 ty:Int
 az:Int
 slot:Nat
 deriving DecidableEq
structure bq where
 nX:Int
 dir:Int
 tag:Int
 at_:Nat
 cJ:Nat
 deriving DecidableEq
def jk(ty az:Int):Int:=if az<1\/65536<az then 0 else az*(kindOf ty).1
def bQ(ty az:Int):Nat:=if 4<jk ty az then(jk ty az).toNat else 0
def cm:cP->Nat
 | .nil=>0
 | .cons _ _ r=>cm r+1
def bF:aV->Nat
 | .mk tags subs blob=>tags.length+cm subs+(if blob.length=0 then 0 else 2)
def cq(e:Nat):qr aL->Nat
 |[]=>e
 |t::ts=>if bQ t.ty t.az=0 then cq e ts else cq (aI e+bQ t.ty t.az) ts
mutual
def bE(e:Nat):aV->Nat
 | .mk tags subs blob=>
  if blob.length=0 then eA (cq (aI e+(6+12*bF (.mk tags subs blob))) tags) subs
  else aI (eA (cq (aI e+(6+12*bF (.mk tags subs blob))) tags) subs)+blob.length
def eA(e:Nat):cP->Nat
 | .nil=>e
 | .cons _ d r=>eA (bE e d) r
end
mutual
def dI:aV->Nat
 | .mk _ subs _=>iA subs+1
def iA:cP->Nat
 | .nil=>0
 | .cons _ d r=>dI d+iA r
end
def dr(no:Nat)(e:Nat):qr aL->qr bq
 |[]=>[]
 |t::ts=>if bQ t.ty t.az=0 then dr no e ts else⟨3,no,t.tag,aI e,bQ t.ty t.az⟩::dr no (aI e+bQ t.ty t.az) ts
mutual
def ga(no:Nat)(e:Nat):aV->qr bq
 | .mk tags subs blob=>
  ⟨2,no,0,aI e,6+12*bF (.mk tags subs blob)⟩::
   (dr no (aI e+(6+12*bF (.mk tags subs blob))) tags++
    (kM (no+1) (cq (aI e+(6+12*bF (.mk tags subs blob))) tags) subs++
     (if blob.length=0 then[] else[⟨4,no,0,aI (eA (cq (aI e+(6+12*bF (.mk tags subs blob))) tags) subs),blob.length⟩])))
def kM(no:Nat)(e:Nat):cP->qr bq
 | .nil=>[]
 | .cons _ d r=>ga no e d++kM (no+dI d) (bE e d) r
end
def lG(order:Int)(t:aL):qr UInt8:=iY t.data (kindOf t.ty).2.1.toNat order
def pC(order:Int)(t:aL):Nat:=iu (gV (lG order t++List.replicate (4 -t.data.length) 0) 0 4 order)
def eu(order:Int)(e:Nat):qr aL->qr bo
 |[]=>[]
 |t::ts=>if bQ t.ty t.az=0 then⟨t.tag,t.ty,t.az,pC order t⟩::eu order e ts else⟨t.tag,t.ty,t.az,aI e⟩::eu order (aI e+bQ t.ty t.az) ts
def iB(e:Nat):cP->qr bo
 | .nil=>[]
 | .cons tag d r=>⟨tag,4,1,aI e⟩::iB (bE e d) r
def hM(S:bg)(e:Nat)(blob:qr UInt8):qr bo:=
 if blob.length=0 then[] else[⟨S.at_,4,1,aI e⟩,⟨S.cJ,4,1,blob.length⟩]
def kj(x:bo):qr bo->qr bo
 |[]=>[x]
 |y::l=>if x.tag<=y.tag then x::y::l else y::kj x l
def gu:qr bo->qr bo
 |[]=>[]
 |x::l=>kj x (gu l)
def jg(order:Int)(x:bo):qr UInt8:=bc x.tag.toNat 2 order++(bc x.ty.toNat 2 order++(bc x.az.toNat 4 order++bc x.slot 4 order))
def kG(order:Int)(l:qr bo)(next:Nat):qr UInt8:=bc l.length 2 order++(l.flatMap (jg order)++bc next 4 order)
def dU(e:Nat):qr UInt8:=if e%2=0 then[] else[0]
def gI(order:Int)(e:Nat):qr aL->qr UInt8
 |[]=>[]
 |t::ts=>if bQ t.ty t.az=0 then gI order e ts else dU e++(lG order t++gI order (aI e+bQ t.ty t.az) ts)
def TW:bg:=⟨[],0,0,-1⟩
def aQ(sh:qr bg)(s:Nat):bg:=(sh[s]?).getD TW
def lN(S:bg)(tag:Int):Hx Nat:=(S.bR.find? λx=>x.tag==tag).map λx=>x.shape.toNat
mutual
def jf(order:Int)(sh:qr bg)(s:Nat)(next:Nat)(e:Nat):aV->qr UInt8
 | .mk tags subs blob=>
  dU e++(kG order (gu (eu order (aI e+(6+12*bF (.mk tags subs blob))) tags++
   (iB (cq (aI e+(6+12*bF (.mk tags subs blob))) tags) subs++
    hM (aQ sh s) (eA (cq (aI e+(6+12*bF (.mk tags subs blob))) tags) subs) blob))) next++
   (gI order (aI e+(6+12*bF (.mk tags subs blob))) tags++
    (jM order sh (aQ sh s) (cq (aI e+(6+12*bF (.mk tags subs blob))) tags) subs++
     (if blob.length=0 then[] else dU (eA (cq (aI e+(6+12*bF (.mk tags subs blob))) tags) subs)++blob))))
def jM(order:Int)(sh:qr bg)(S:bg)(e:Nat):cP->qr UInt8
 | .nil=>[]
 | .cons tag d r=>jf order sh ((lN S tag).getD 0) 0 e d++jM order sh S (bE e d) r
end
def fR:qr aL->Bool
 |[]=>true
 |[_]=>true
 |a::b::l=>decide (a.tag<b.tag)&&fR (b::l)
def lD:cP->qr Int
 | .nil=>[]
 | .cons tag _ r=>tag::lD r
def nT:qr Int->Bool
 |[]=>true
 |[_]=>true
 |a::b::l=>decide (a<b)&&nT (b::l)
def fK(S:bg)(tag:Int):Bool:=decide (S.at_≠0)&&(decide (tag=S.at_)||decide (tag=S.cJ))
def fG(S:bg)(tag:Int):Bool:=S.bR.any λx=>x.tag==tag
def eU(S:bg)(tag:Int):Bool:=fG S tag||fK S tag
def nc(tag:Int):Bool:=decide (0<=tag/\tag<65536)
def kx(S:bg)(tags:qr aL):Bool:=fR tags&&tags.all λt=>nc t.tag&&(!eU S t.tag&&eH t.ty t.az t.data)
mutual
def cR(sh:qr bg)(s:Nat):aV->Bool
 | .mk tags subs blob=>decide (1<=bF (.mk tags subs blob)/\bF (.mk tags subs blob)<=65535)&&(kx (aQ sh s) tags&&
  ((decide (blob.length=0)||decide ((aQ sh s).at_≠0))&&(nT (lD subs)&&jh sh (aQ sh s) subs)))
def jh(sh:qr bg)(S:bg):cP->Bool
 | .nil=>true
 | .cons tag d r=>fG S tag&&(cR sh ((lN S tag).getD 0) d&&jh sh S r)
end
theorem nG(e:Nat):e<=aI e:=by unfold aI;omega
theorem Kc(e:Nat):aI e%2=0:=by unfold aI;omega
theorem qq(e:Nat):e+(dU e).length=aI e:=by unfold dU aI;split<;>simp<;>omega
theorem qN:∀(ts:qr aL)(e:Nat),e<=cq e ts
 |[],e=>aM _
 |t::ts,e=>by
  unfold cq;split
  ·exact qN ts e
  ·have:=qN ts (aI e+bQ t.ty t.az);have:=nG e;omega
mutual
theorem An:∀(d:aV)(e:Nat),e<=bE e d
 | .mk tags subs blob,e=>by
  unfold bE;have h1:=nG e;have h2:=qN tags (aI e+(6+12*bF (.mk tags subs blob)));have h3:=tD subs (cq (aI e+(6+12*bF (.mk tags subs blob))) tags);have h4:=nG (eA (cq (aI e+(6+12*bF (.mk tags subs blob))) tags) subs)
  grind
theorem tD:∀(r:cP)(e:Nat),e<=eA e r
 | .nil,e=>by unfold eA;exact aM _
 | .cons _ d r,e=>by unfold eA;have h1:=An d e;have h2:=tD r (bE e d);omega
end
theorem SI(x:bo):∀l,(kj x l).length=l.length+1
 |[]=>rfl
 |y::l=>by unfold kj;split<;>simp[SI x l]
theorem xM:∀l,(gu l).length=l.length
 |[]=>rfl
 |x::l=>by rw[gu,SI,xM l];rfl
theorem rT(order:Int):∀(ts:qr aL)(e:Nat),(eu order e ts).length=ts.length
 |[],_=>rfl
 |t::ts,e=>by unfold eu;split<;>simp[rT order ts]
theorem As:∀(r:cP)(e:Nat),(iB e r).length=cm r
 | .nil,_=>rfl
 | .cons _ d r,e=>by unfold iB cm;simp[As r]
theorem DY(S:bg)(e:Nat)(blob:qr UInt8):(hM S e blob).length=if blob.length=0 then 0 else 2:=by unfold hM;split<;>rfl
theorem JW(order:Int)(x:bo):(jg order x).length=12:=by simp[jg,eI]
theorem xB(order:Int):∀l:qr bo,(l.flatMap (jg order)).length=12*l.length
 |[]=>rfl
 |x::l=>by rw[dN,aT,JW,xB order l,bW];omega
theorem JM(order:Int)(l:qr bo)(next:Nat):(kG order l next).length=6+12*l.length:=by unfold kG;rw[aT,aT,eI,xB,eI];omega
theorem yf{t:aL}(h:eH t.ty t.az t.data=true):bQ t.ty t.az=if t.data.length<=4 then 0 else t.data.length:=by
 obtain⟨h1,h2,h3,h4⟩:=vK h;have hl:jk t.ty t.az=(t.data.length:Int):=by unfold jk;rw[aq (by omega),h4]
 unfold bQ
 grind
theorem zA(order:Int)(t:aL):(lG order t).length=t.data.length:=wO _ _ _
theorem IH(order:Int):∀(ts:qr aL)(e:Nat),(∀t∈ts,eH t.ty t.az t.data=true)->e+(gI order e ts).length=cq e ts
 |[],e,_=>rfl
 |t::ts,e,h=>by
  have ih:=λe=>IH order ts e λt ht=>h t (by grind);unfold gI cq;split
  ·grind
  ·rename_i hn;have:=ih (aI e+bQ t.ty t.az);have hp:=qq e;rw[aT,aT,zA];have:bQ t.ty t.az=t.data.length:=by rw[(yf (h t (by simp)))] at hn⊢;split<;>simp_all
   omega
mutual
theorem tr(order:Int)(sh:qr bg):∀(d:aV)(s next e:Nat),cR sh s d=true->e+(jf order sh s next e d).length=bE e d
 | .mk tags subs blob,s,next,e,h=>by
  simp[cR,kx,iv] at h;obtain⟨h1,⟨h2,h3⟩,h4,h5,h6⟩:=h;have hp:=qq e;have hv:=IH order tags (aI e+(6+12*bF (.mk tags subs blob))) λt ht=>(h3 t ht).2.2;have hs:=JB order sh subs (aQ sh s) (cq (aI e+(6+12*bF (.mk tags subs blob))) tags) h6;have hb:=qq (eA (cq (aI e+(6+12*bF (.mk tags subs blob))) tags) subs);have hn:(gu (eu order (aI e+(6+12*bF (.mk tags subs blob))) tags++(iB (cq (aI e+(6+12*bF (.mk tags subs blob))) tags) subs++
   hM (aQ sh s) (eA (cq (aI e+(6+12*bF (.mk tags subs blob))) tags) subs) blob))).length=bF (.mk tags subs blob):=by
   rw[xM,aT,aT,rT,As,DY];show _=tags.length+cm subs+(if blob.length=0 then 0 else 2);omega
  unfold jf bE;rw[aT,aT,JM,hn];split<;>grind
theorem JB(order:Int)(sh:qr bg):∀(r:cP)(S:bg)(e:Nat),jh sh S r=true->e+(jM order sh S e r).length=eA e r
 | .nil,S,e,_=>rfl
 | .cons tag d r,S,e,h=>by simp[jh] at h;have h1:=tr order sh d ((lN S tag).getD 0) 0 e h.2.1;have h2:=JB order sh r S (bE e d) h.2.2;unfold jM eA;rw[aT];omega
end
theorem En(x y:bo)(l:qr bo):kj x (y::l)=if x.tag<=y.tag then x::y::l else y::kj x l:=rfl
theorem KT{x y:bo}:∀{l:qr bo},y∈kj x l↔y=x\/y∈l
 |[]=>by simp[kj]
 |z::l=>by
  unfold kj;split
  ·simp
  ·simp[KT]
   grind
theorem xN{y:bo}:∀{l:qr bo},y∈gu l↔y∈l
 |[]=>by simp[gu]
 |x::l=>by rw[gu,KT,xN];simp
def Up:qr bo->Prop
 |[]=>True
 |x::l=>(∀y∈l,x.tag<=y.tag)/\Up l
theorem SL(x:bo):∀{l:qr bo},Up l->Up (kj x l)
 |[],_=>⟨λy h=>(by grind),trivial⟩
 |z::l,h=>by
  unfold kj;split
  ·rename_i hz;refine⟨λy hy=>?_,h⟩;rcases cZ.1 hy with rfl|hy
   ·grind
   ·have:=h.1 y hy;omega
  ·rename_i hz;refine⟨λy hy=>?_,SL x h.2⟩;rcases KT.1 hy with rfl|hy
   ·omega
   ·exact h.1 y hy
theorem SZ:∀l:qr bo,Up (gu l)
 |[]=>trivial
 |x::l=>SL x (SZ l)
def fg:qr bo->Bool
 |[]=>true
 |[_]=>true
 |a::b::l=>decide (a.tag<b.tag)&&fg (b::l)
theorem SH{x:bo}:∀{l:qr bo},(∀y∈l,x.tag<=y.tag)->kj x l=x::l
 |[],_=>rfl
 |z::l,h=>by unfold kj;rw[ay (h z (by simp))]
theorem MV:∀{l:qr bo},fg l=true->Up l
 |[],_=>trivial
 |[x],_=>⟨λy h=>(by grind),trivial⟩
 |a::b::l,h=>by
  simp[fg] at h;have ih:=MV h.2;refine⟨λy hy=>?_,ih⟩;rcases cZ.1 hy with rfl|hy
  ·omega
  ·have:=ih.1 y hy;omega
theorem Er:∀{l:qr bo},fg l=true->gu l=l
 |[],_=>rfl
 |x::l,h=>by
  have hl:fg l=true:=by
   cases l with
   |nil=>rfl
   |cons b l=>simp[fg] at h;exact h.2
  rw[gu,Er hl,SH (MV h).1]
theorem RI(p:bo->Bool)(x:bo):∀{l:qr bo},Up l->(kj x l).filter p=if p x=true then kj x (l.filter p) else l.filter p
 |[],_=>by show[x].filter p=_;rw[kA];rfl
 |z::l,h=>by
  rw[En];by_cases hz:x.tag<=z.tag
  ·rw[ay hz,kA];split
   ·rw[SH];intro y hy;have hy':=(oX.1 hy).1;rcases cZ.1 hy' with rfl|hy'
    ·exact hz
    ·have:=h.1 y hy';omega
   ·rfl
  ·rw[aq hz,kA,(RI p x h.2)];by_cases hx:p x=true
   ·rw[kA];split
    ·rw[En,aq hz]
    ·rfl
   ·rw[aq hx,aq hx,kA]
theorem D7(p:bo->Bool):∀l:qr bo,(gu l).filter p=gu (l.filter p)
 |[]=>rfl
 |x::l=>by rw[gu,RI p x (SZ l),D7 p l,kA];split<;>rfl
theorem SK{x:bo}:∀{l:qr bo},fg l=true->(∀y∈l,y.tag≠x.tag)->fg (kj x l)=true
 |[],_,_=>rfl
 |[z],_,hn=>by
  have:=hn z (by simp)
  unfold kj
  split
  ·simp[fg];omega
  ·simp[kj,fg,ky];omega
 |z::z'::l,h,hn=>by
  have h0:=hn z (by simp)
  simp[fg] at h
  have ih:=SK (x:=x) h.2 λy hy=>hn y (by simp[hy])
  rw[En]
  split
  ·simp[fg];exact⟨by omega,h⟩
  ·rw[En] at ih⊢
   split
   ·rename_i hz hz'
    rw[ay hz'] at ih
    simp[fg] at ih⊢
    exact⟨by omega,ih⟩
   ·rename_i hz hz'
    rw[aq hz'] at ih
    simp[fg]
    exact⟨h.1,ih⟩
def oi:qr bo->Prop
 |[]=>True
 |x::l=>(∀y∈l,y.tag≠x.tag)/\oi l
theorem KX:∀{l:qr bo},oi l->fg (gu l)=true
 |[],_=>rfl
 |x::l,h=>by exact SK (KX h.2) λy hy=>h.1 y (xN.1 hy)
theorem zU:∀{l:qr bo},fg l=true->oi l
 |[],_=>trivial
 |[x],_=>⟨λy h=>(by grind),trivial⟩
 |a::b::l,h=>by
  simp[fg] at h;refine⟨λy hy=>?_,zU h.2⟩;have:=(MV h.2).1
  grind
theorem Jm:∀{l k:qr bo},oi l->oi k->(∀x∈l,∀y∈k,y.tag≠x.tag)->oi (l++k)
 |[],k,_,hk,_=>hk
 |x::l,k,hl,hk,h=>by
  refine⟨λy hy=>?_,Jm hl.2 hk λx hx=>h x (by grind)⟩;rcases fT.1 hy with hy|hy
  ·exact hl.1 y hy
  grind
def ct(b:qr UInt8)(p s:Nat)(order:Int):Nat:=((pB b p s order).getD 0).toNat
theorem nO{b pre post:qr UInt8}{n s p:Nat}{order:Int}(e:b=pre++(bc n s order++post))(hp:p=pre.length)(hs:s=1\/s=2\/s=4)(ho:order=1\/order=2)(h:n<256^s):ct b p s order=n:=by unfold ct;rw[e,hp,get_at _ _ _ _ _ hs ho h];simp
def Ar(b:qr UInt8)(p:Nat)(order:Int):bo:=⟨ct b p 2 order,ct b (p+2) 2 order,ct b (p+4) 4 order,ct b (p+8) 4 order⟩
structure mG(x:bo):Prop where
 tag:0<=x.tag/\x.tag<65536
 ty:0<=x.ty/\x.ty<65536
 az:0<=x.az/\x.az<4294967296
 slot:x.slot<4294967296
theorem aaI{b pre post:qr UInt8}{p:Nat}{order:Int}{x:bo}(e:b=pre++(jg order x++post))(hp:p=pre.length)(ho:order=1\/order=2)(h:mG x):Ar b p order=x:=by
 have e0:b=pre++(bc x.tag.toNat 2 order++(bc x.ty.toNat 2 order++(bc x.az.toNat 4 order++(bc x.slot 4 order++post)))):=by rw[e];simp[jg]
 have e1:b=(pre++bc x.tag.toNat 2 order)++(bc x.ty.toNat 2 order++(bc x.az.toNat 4 order++(bc x.slot 4 order++post))):=by rw[e0];simp
 have e2:b=(pre++bc x.tag.toNat 2 order++bc x.ty.toNat 2 order)++(bc x.az.toNat 4 order++(bc x.slot 4 order++post)):=by rw[e0];simp
 have e3:b=(pre++bc x.tag.toNat 2 order++bc x.ty.toNat 2 order++bc x.az.toNat 4 order)++(bc x.slot 4 order++post):=by rw[e0];simp
 unfold Ar;rw[(nO e0 hp (.inr (.inl rfl)) ho (by have:=h.tag;omega)),(nO (p:=p+2) e1 (by simp[eI,hp]) (.inr (.inl rfl)) ho (by have:=h.ty;omega)),(nO (p:=p+4) e2 (by simp[eI,hp]) (.inr (.inr rfl)) ho (by have:=h.az;omega)),(nO (p:=p+8) e3 (by simp[eI,hp]) (.inr (.inr rfl)) ho h.slot)];rw[mD h.tag.1,mD h.ty.1,mD h.az.1]
def kc(b:qr UInt8)(order:Int):Nat->Nat->qr bo
 |_,0=>[]
 |p,n+1=>Ar b p order::kc b order (p+12) n
theorem Rr{b:qr UInt8}{order:Int}(ho:order=1\/order=2):∀(l:qr bo)(pre post:qr UInt8)(p:Nat),b=pre++(l.flatMap (jg order)++post)->p=pre.length->(∀x∈l,mG x)->kc b order p l.length=l
 |[],_,_,_,_,_,_=>rfl
 |x::l,pre,post,p,e,hp,h=>by
  rw[dN,dM] at e;rw[bW,kc,aaI e hp ho (h x (by simp))]
  congr 1
  refine Rr ho l (pre++jg order x) post (p+12) (by grind) (by simp[JW,hp]) λy hy=>h y (by grind)
def DH(S:qr bq)(at_ cJ:Nat):Bool:=S.any λs=>decide (max at_ s.at_<min (at_+cJ) (s.at_+s.cJ))
def lE(L:Nat)(S:qr bq)(x:bq):Except Int (qr bq):=
 if x.at_%2=0/\x.at_+x.cJ<=L then(if DH S x.at_ x.cJ=true then .error 5 else .ok (S++[x])) else .error 4
def lQ(S:qr bq)(e:Nat):Prop:=∀x∈S,x.at_+x.cJ<=e
theorem PK{L:Nat}{S:qr bq}{x:bq}{e:Nat}(hS:lQ S e)(he:e<=x.at_)(h1:x.at_%2=0)(h2:x.at_+x.cJ<=L):lE L S x=.ok (S++[x]):=by
 have hc:DH S x.at_ x.cJ=false:=by
  unfold DH;rw[List.any_eq_false];intro s hs;have:=hS s hs
  grind
 unfold lE
 grind
theorem lQ.add{S:qr bq}{e:Nat}(h:lQ S e){x:bq}{e':Nat}(h1:e<=e')(h2:x.at_+x.cJ<=e'):lQ (S++[x]) e':=by
 intro y hy;rcases fT.1 hy with hy|hy
 ·have:=h y hy;omega
 grind
theorem lQ.mono{S:qr bq}{e e':Nat}(h:lQ S e)(h1:e<=e'):lQ S e':=λx hx=>fH (h x hx) h1
def sy(b:qr UInt8)(order:Int)(no:Nat)(S:qr bq)(x:bo):Except Int (aL×qr bq):=
 if(kindOf x.ty).1 =0\/x.az<1\/65536<x.az then .error 6
 else if bQ x.ty x.az=0 then
  match pI x.ty x.az (bc x.slot 4 order) order with
  |some d=>.ok (⟨x.tag,x.ty,x.az,d⟩,S)
  |none=>.error 6
 else match lE b.length S ⟨3,no,x.tag,x.slot,bQ x.ty x.az⟩ with
  | .error e=>.error e
  | .ok S'=>match pI x.ty x.az (b.drop x.slot) order with
   |some d=>.ok (⟨x.tag,x.ty,x.az,d⟩,S')
   |none=>.error 6
def ko(own:Int->Bool)(b:qr UInt8)(order:Int)(no:Nat):qr bo->qr bq->Except Int (qr aL×qr bq)
 |[],S=>.ok ([],S)
 |x::xs,S=>
  if own x.tag=true then(if x.ty=4/\x.az=1 then ko own b order no xs S else .error 6)
  else match sy b order no S x with
   | .error e=>.error e
   | .ok (t,S1)=>match ko own b order no xs S1 with
    | .error e=>.error e
    | .ok (ts,S2)=>.ok (t::ts,S2)
def mu(rd:Nat->Nat->Nat->qr bq->Except Int (aV×Nat×Nat×qr bq))(S:bg):qr bo->Nat->qr bq->Except Int (cP×Nat×qr bq)
 |[],no,Sp=>.ok (.nil,no,Sp)
 |x::xs,no,Sp=>match rd x.slot ((lN S x.tag).getD 0) no Sp with
  | .error e=>.error e
  | .ok (d,next,no1,S1)=>if next≠0 then .error 2 else match mu rd S xs no1 S1 with
   | .error e=>.error e
   | .ok (r,no2,S2)=>.ok (.cons x.tag d r,no2,S2)
def kI(b:qr UInt8)(order:Int)(sh:qr bg):Nat->Nat->Nat->Nat->qr bq->Except Int (aV×Nat×Nat×qr bq)
 |0,_,_,_,_=>.error 0
 |f+1,at_,s,no,Sp=>
  if at_%2=0/\at_+2<=b.length then
   if ct b at_ 2 order=0 then .error 2
   else match lE b.length Sp ⟨2,no,0,at_,6+12*ct b at_ 2 order⟩ with
    | .error e=>.error e
    | .ok S1=>
     if fg (kc b order (at_+2) (ct b at_ 2 order))=true then
      match ko (eU (aQ sh s)) b order no (kc b order (at_+2) (ct b at_ 2 order)) S1 with
      | .error e=>.error e
      | .ok (tags,S2)=>
       if((kc b order (at_+2) (ct b at_ 2 order)).filter λx=>fK (aQ sh s) x.tag).length=1 then .error 6
       else match mu (kI b order sh f) (aQ sh s) ((kc b order (at_+2) (ct b at_ 2 order)).filter λx=>fG (aQ sh s) x.tag) (no+1) S2 with
        | .error e=>.error e
        | .ok (subs,no',S3)=>
         match(kc b order (at_+2) (ct b at_ 2 order)).filter λx=>fK (aQ sh s) x.tag with
         |[p,q]=>
          if q.slot=0 then .error 6
          else match lE b.length S3 ⟨4,no,0,p.slot,q.slot⟩ with
           | .error e=>.error e
           | .ok S4=>.ok (.mk tags subs ((b.drop p.slot).take q.slot),ct b (at_+2+12*ct b at_ 2 order) 4 order,no',S4)
         |_=>.ok (.mk tags subs [],ct b (at_+2+12*ct b at_ 2 order) 4 order,no',S3)
     else .error 2
  else .error 4
theorem Wk{own:Int->Bool}{b:qr UInt8}{order:Int}{no:Nat}:∀(l:qr bo)(S:qr bq),(∀x∈l,own x.tag=true->x.ty=4/\x.az=1)->ko own b order no l S=ko (λ_=>false) b order no (l.filter λx=>!own x.tag) S
 |[],S,_=>rfl
 |x::xs,S,h=>by
  have ih:=λS=>Wk (b:=b) (order:=order) (no:=no) xs S λy hy=>h y (by grind)
  rw[kA]
  by_cases hx:own x.tag=true
  ·rw[aq (by grind),ko,ay hx,ay (h x (by simp) hx),ih]
  ·rw[ay (by grind),ko,ko]
   simp_all
theorem abL{t:aL}{order:Int}(hm:eH t.ty t.az t.data=true)(ho:bQ t.ty t.az=0):pI t.ty t.az (bc (pC order t) 4 order) order=some t.data:=by
 have hl:t.data.length<=4:=by
  have:=yf hm;rw[ho] at this;split at this
  ·assumption
  ·omega
 have hlen:(lG order t++List.replicate (4 -t.data.length) (0:UInt8)).length=4:=by rw[aT,zA,uM];omega
 have e:bc (pC order t) 4 order=lG order t++List.replicate (4 -t.data.length) (0:UInt8):=by unfold pC;have:=Vy [] (lG order t++List.replicate (4 -t.data.length) (0:UInt8)) [] 4 order hlen;simp only[eK,ea,List.length_nil] at this;rw[this];exact agE _ 4 order hlen
 rw[e];unfold lG;exact T5 hm _
theorem MO{b:qr UInt8}{order:Int}{no:Nat}:∀(ts:qr aL)(pre post:qr UInt8)(e:Nat)(S:qr bq),(∀t∈ts,eH t.ty t.az t.data=true)->b=pre++(gI order e ts++post)->pre.length=e->lQ S e->
 ko (λ_=>false) b order no (eu order e ts) S=.ok (ts,S++dr no e ts)/\lQ (S++dr no e ts) (cq e ts)
 |[],pre,post,e,S,_,_,_,hS=>by
  refine⟨by simp[eu,ko,dr],?_⟩
  unfold cq dr
  simpa using hS
 |t::ts,pre,post,e,S,hm,hb,hp,hS=>by
  have hmt:=hm t (by simp)
  have hms:∀t∈ts,eH t.ty t.az t.data=true:=λt ht=>hm t (by simp[ht])
  obtain⟨k1,k2,k3,k4⟩:=vK hmt
  by_cases ho:bQ t.ty t.az=0
  ·have hb':b=pre++(gI order e ts++post):=by rw[hb,gI,ay ho]
   obtain⟨i1,i2⟩:=MO ts pre post e S hms hb' hp hS
   have hv:sy b order no S ⟨t.tag,t.ty,t.az,pC order t⟩=.ok (t,S):=by
    unfold sy
    rw[aq (by simp only;omega),ay ho]
    simp only[abL hmt ho]
   refine⟨?_,by rw[dr,ay ho,cq,ay ho];exact i2⟩
   rw[eu,ay ho,ko,aq (by simp),dr,ay ho]
   simp_all
  ·have hb':b=pre++(dU e++(lG order t++(gI order (aI e+bQ t.ty t.az) ts++post))):=by rw[hb,gI,aq ho];simp
   have hpe:pre.length+(dU e).length=aI e:=by rw[hp];exact qq e
   have hol:bQ t.ty t.az=t.data.length:=by have:=yf hmt;rw[this] at ho⊢;split<;>simp_all
   have htk:lE b.length S ⟨3,no,t.tag,aI e,bQ t.ty t.az⟩=.ok (S++[⟨3,no,t.tag,aI e,bQ t.ty t.az⟩]):=PK hS (nG e) (Kc e) (by rw[hb'];simp only[aT,zA];omega)
   have hd:b.drop (aI e)=lG order t++(gI order (aI e+bQ t.ty t.az) ts++post):=by
    have:b=(pre++dU e)++(lG order t++(gI order (aI e+bQ t.ty t.az) ts++post)):=by rw[hb'];simp
    rw[this,<-hpe,<-aT,List.drop_left]
   have hv:sy b order no S ⟨t.tag,t.ty,t.az,aI e⟩=.ok (t,S++[⟨3,no,t.tag,aI e,bQ t.ty t.az⟩]):=by
    unfold sy
    rw[aq (by simp only;omega),aq ho]
    simp_all
    unfold lG
    rw[T5 hmt]
   have hS1:lQ (S++[⟨3,no,t.tag,aI e,bQ t.ty t.az⟩]) (aI e+bQ t.ty t.az):=hS.add (by have:=nG e;omega) (aM _)
   obtain⟨i1,i2⟩:=MO (b:=b) (order:=order) (no:=no) ts (pre++(dU e++lG order t)) post (aI e+bQ t.ty t.az) _ hms (by rw[hb'];simp) (by simp[zA];omega) hS1
   refine⟨?_,by rw[dr,aq ho,cq,aq ho];simpa using i2⟩
   rw[eu,aq ho,ko,hv,dr,aq ho]
   simp only[i1]
   simp
theorem K8{order:Int}{x:bo}:∀{ts:qr aL}{e:Nat},x∈eu order e ts->∃t∈ts,x.tag=t.tag/\x.ty=t.ty/\x.az=t.az
 |[],e,h=>by cases h
 |t::ts,e,h=>by
  unfold eu at h;split at h
  ·rcases cZ.1 h with rfl|h
   ·simp
   ·obtain⟨u,hu,r⟩:=K8 h
    grind
  ·rcases cZ.1 h with rfl|h
   ·simp
   ·obtain⟨u,hu,r⟩:=K8 h
    grind
theorem TJ{x:bo}:∀{r:cP}{e:Nat},x∈iB e r->x.tag∈lD r/\x.ty=4/\x.az=1
 | .nil,e,h=>by unfold iB at h;cases h
 | .cons tag d r,e,h=>by
  unfold lD;rcases cZ.1 h with rfl|h
  ·simp
  ·obtain⟨h1,h2⟩:=TJ h
   grind
theorem Rq{order:Int}:∀{ts:qr aL}{e:Nat},fR ts=true->fg (eu order e ts)=true
 |[],e,_=>rfl
 |[t],e,_=>by unfold eu;split<;>rfl
 |t::u::ts,e,h=>by
  simp[fR] at h;have key:∀(x:bo)(e':Nat),x.tag=t.tag->fg (x::eu order e' (u::ts))=true:=by
   intro x e' hx;have ih:=Rq (order:=order) (e:=e') h.2;rw[eu] at ih⊢;split at ih
   ·rename_i ho;rw[ay ho];simp[fg];exact⟨by rw[hx];exact h.1,ih⟩
   ·rename_i ho;rw[aq ho];simp[fg];exact⟨by rw[hx];exact h.1,ih⟩
  rw[eu];split<;>grind
theorem Ro:∀{r:cP}{e:Nat},nT (lD r)=true->fg (iB e r)=true
 | .nil,e,_=>rfl
 | .cons tag d .nil,e,_=>rfl
 | .cons tag d (.cons tag' d' r),e,h=>by simp[lD,nT] at h;have ih:=Ro (r:=.cons tag' d' r) (e:=bE e d) (by simp only[lD];exact h.2);simp[iB,fg] at ih⊢;simp_all
structure uU(S:bg):Prop where
 bR:∀x∈S.bR,0<=x.tag/\x.tag<65536/\fK S x.tag=false
 pair:S.at_≠0->1<=S.at_/\S.at_<S.cJ/\S.cJ<65536
theorem aaJ{S:bg}(hS:uU S){e:Nat}{blob:qr UInt8}(h:blob.length=0\/S.at_≠0):fg (hM S e blob)=true:=by
 unfold hM;split
 ·rfl
 ·have:=hS.pair (h.resolve_left (by grind));simp[fg];omega
theorem acW{S:bg}{e:Nat}{blob:qr UInt8}{x:bo}(h:blob.length=0\/S.at_≠0)(hx:x∈hM S e blob):fK S x.tag=true/\x.ty=4/\x.az=1:=by
 unfold hM at hx;split at hx
 ·grind
 ·have:=h.resolve_left (by grind);simp_all;rcases hx with rfl|rfl<;>simp[fK,this]
theorem K4{S:bg}{tag:Int}(h:fG S tag=true):∃x∈S.bR,x.tag=tag:=by
 unfold fG at h
 grind
theorem Eh{sh:qr bg}{S:bg}:∀{r:cP},jh sh S r=true->∀tag∈lD r,fG S tag=true
 | .nil,_,tag,h=>by unfold lD at h;cases h
 | .cons t d r,h,tag,ht=>by
  simp[jh] at h;simp[lD] at ht;rcases ht with rfl|ht
  ·grind
  ·exact Eh h.2.2 tag ht
theorem QQ{order:Int}{sh:qr bg}{S:bg}(hS:uU S){tags:qr aL}{subs:cP}{blob:qr UInt8}{e1 e2 e3:Nat}(ht:kx S tags=true)(hb:blob.length=0\/S.at_≠0)(hr:nT (lD subs)=true)(hs:jh sh S subs=true){E:qr bo}
 (hE:E=gu (eu order e1 tags++(iB e2 subs++hM S e3 blob))):
 fg E=true/\(E.filter λx=>!eU S x.tag)=eu order e1 tags/\(E.filter λx=>fG S x.tag)=iB e2 subs/\(E.filter λx=>fK S x.tag)=hM S e3 blob/\(∀x∈E,eU S x.tag=true->x.ty=4/\x.az=1):=by
 simp[kx] at ht;have lV:∀x∈eu order e1 tags,eU S x.tag=false:=λx hx=>by obtain⟨t,h1,h2,_⟩:=K8 hx;rw[h2];exact(ht.2 t h1).2.1
 have lS:∀x∈iB e2 subs,fG S x.tag=true/\fK S x.tag=false/\x.ty=4/\x.az=1:=λx hx=>by obtain⟨h1,h2⟩:=TJ hx;have hl:=Eh hs _ h1;obtain⟨y,y1,y2⟩:=K4 hl;exact⟨hl,by rw[<-y2];exact(hS.bR y y1).2.2,h2⟩
 have lB:∀x∈hM S e3 blob,fG S x.tag=false/\fK S x.tag=true/\x.ty=4/\x.az=1:=λx hx=>by
  obtain⟨h1,h2⟩:=acW hb hx;refine⟨?_,h1,h2⟩;cases hl:fG S x.tag with
  |false=>rfl
  |true=>obtain⟨y,y1,y2⟩:=K4 hl;have:=(hS.bR y y1).2.2;rw[y2,h1] at this;cases this
 have own_of:∀tag,eU S tag=(fG S tag||fK S tag):=λ_=>rfl;have vV:=Rq (order:=order) (e:=e1) ht.1;have vS:=Ro (e:=e2) hr;have vB:=aaJ hS (e:=e3) hb;have fall:∀(l:qr bo)(p:bo->Bool),(∀x∈l,p x=true)->l.filter p=l:=λl p h=>List.filter_eq_self.2 h;have fnone:∀(l:qr bo)(p:bo->Bool),(∀x∈l,p x=false)->l.filter p=[]:=λl p h=>List.filter_eq_nil_iff.2 λx hx=>by simp_all
 have notlink:∀x∈eu order e1 tags,fG S x.tag=false/\fK S x.tag=false:=λx hx=>by have:=lV x hx;rw[own_of,Bool.or_eq_false_iff] at this;exact this
 subst hE;refine⟨?_,?_,?_,?_,?_⟩
 ·refine KX (Jm (zU vV) (Jm (zU vS) (zU vB) ?_) ?_)
  ·intro x hx y hy e;have:=(lS x hx).2.1;rw[<-e,(lB y hy).2.1] at this;cases this
  ·intro x hx y hy e;rcases fT.1 hy with hy|hy<;>grind
 ·rw[D7,List.filter_append,List.filter_append,fall _ _ (λx hx=>by simp[lV x hx]),fnone _ _ (λx hx=>by simp[own_of,(lS x hx).1]),fnone _ _ (λx hx=>by simp_all)];simp;exact Er vV
 ·rw[D7,List.filter_append,List.filter_append,fnone _ _ (λx hx=>(notlink x hx).1),fall _ _ (λx hx=>(lS x hx).1),fnone _ _ (λx hx=>(lB x hx).1)];simp;exact Er vS
 ·rw[D7,List.filter_append,List.filter_append,fnone _ _ (λx hx=>(notlink x hx).2),fnone _ _ (λx hx=>(lS x hx).2.1),fall _ _ (λx hx=>(lB x hx).2.1)];exact Er vB
 ·intro x hx ho;rcases fT.1 (xN.1 hx) with hx|hx
  ·rw[lV x hx] at ho;cases ho
  ·rcases fT.1 hx with hx|hx
   ·exact(lS x hx).2.2
   ·exact(lB x hx).2.2
mutual
def gq:aV->Nat
 | .mk _ subs _=>jZ subs+1
def jZ:cP->Nat
 | .nil=>0
 | .cons _ d r=>max (gq d) (jZ r)
end
theorem Tc{ty:Int}(h:(kindOf ty).1 ≠0):0<=ty/\ty<65536:=by
 by_cases o:ty<1\/12<ty
 ·rw[Et o] at h;exact absurd rfl h
 grind
theorem agZ(l:qr UInt8)(order:Int):iu (gV l 0 4 order)<4294967296:=by
 have h:=Lp (gV l 0 4 order);have hl:(gV l 0 4 order).length<=4:=by unfold gV;split<;>simp<;>omega
 have:256^(gV l 0 4 order).length<=256^4:=Nat.pow_le_pow_right (by simp) hl;omega
theorem DZ{S:bg}{order:Int}:∀{ts:qr aL}{e:Nat},(∀t∈ts,nc t.tag=true/\eH t.ty t.az t.data=true)->cq e ts<4294967296->∀x∈eu order e ts,mG x
 |[],_,_,_,x,hx=>by cases hx
 |t::ts,e,h,he,x,hx=>by
  obtain⟨h1,h2⟩:=h t (by simp)
  obtain⟨k1,k2,k3,k4⟩:=vK h2
  have hs:∀t∈ts,nc t.tag=true/\eH t.ty t.az t.data=true:=λt ht=>h t (by simp[ht])
  have ht:0<=t.tag/\t.tag<65536:=by simpa[nc] using h1
  unfold eu at hx
  unfold cq at he
  split at hx
  ·rename_i ho
   rw[ay ho] at he
   rcases cZ.1 hx with rfl|hx
   ·exact⟨ht,Tc k1,by simp only;omega,agZ _ _⟩
   ·exact DZ (S:=S) hs he x hx
  ·rename_i ho
   rw[aq ho] at he
   have:=qN ts (aI e+bQ t.ty t.az)
   rcases cZ.1 hx with rfl|hx
   ·exact⟨ht,Tc k1,by simp only;omega,by simp only;omega⟩
   ·exact DZ (S:=S) hs he x hx
theorem JY{S:bg}(hS:uU S):∀{r:cP}{e:Nat},(∀tag∈lD r,fG S tag=true)->eA e r<4294967296->∀x∈iB e r,mG x
 | .nil,_,_,_,x,hx=>by unfold iB at hx;cases hx
 | .cons tag d r,e,h,he,x,hx=>by
  unfold eA at he;unfold lD at h;have h0:=tD r (bE e d);have h1:aI e<4294967296:=by
   have:aI e<=bE e d:=by
    cases d with
    |mk tags subs blob=>unfold bE;have h2:=qN tags (aI e+(6+12*bF (.mk tags subs blob)));have h3:=tD subs (cq (aI e+(6+12*bF (.mk tags subs blob))) tags);have h4:=nG (eA (cq (aI e+(6+12*bF (.mk tags subs blob))) tags) subs);split<;>omega
   omega
  rcases cZ.1 hx with rfl|hx
  ·obtain⟨y,y1,y2⟩:=K4 (h tag (by simp));have:=hS.bR y y1;exact⟨by simp only;omega,by simp only;omega,by simp only;omega,h1⟩
  ·exact JY hS (λt ht=>h t (by simp[ht])) he x hx
theorem Mr{d:aV}{e:Nat}:aI e+6<=bE e d:=by
 cases d with
 |mk tags subs blob=>
  unfold bE;have h2:=qN tags (aI e+(6+12*bF (.mk tags subs blob)));have h3:=tD subs (cq (aI e+(6+12*bF (.mk tags subs blob))) tags);have h4:=nG (eA (cq (aI e+(6+12*bF (.mk tags subs blob))) tags) subs)
  grind
mutual
theorem Wm{order:Int}(ho:order=1\/order=2){sh:qr bg}(hsh:∀s,uU (aQ sh s)):∀(d:aV)(s next e f no:Nat)(Sp:qr bq)(pre post b:qr UInt8),
 cR sh s d=true->b=pre++(jf order sh s next e d++post)->pre.length=e->bE e d<4294967296->next<4294967296->lQ Sp e->gq d<=f->
 kI b order sh f (aI e) s no Sp=.ok (d,next,no+dI d,Sp++ga no e d)/\lQ (Sp++ga no e d) (bE e d)
 | .mk tags subs blob,s,next,e,0,no,Sp,pre,post,b,h,hb,hp,hlt,hnx,hSp,hf=>by unfold gq at hf;omega
 | .mk tags subs blob,s,next,e,f+1,no,Sp,pre,post,b,h,hb,hp,hlt,hnx,hSp,hf=>by
  have hlen:=tr order sh (.mk tags subs blob) s next e h
  simp only[cR,bB,sU,cf] at h;obtain⟨⟨n1,n2⟩,ht,hbl,hr,hs⟩:=h;have htg:∀t∈tags,nc t.tag=true/\eH t.ty t.az t.data=true:=λt h=>by simp only[kx,bB,iv] at ht;exact⟨(ht.2 t h).1,(ht.2 t h).2.2⟩
  obtain⟨N,hN⟩:∃N,bF (.mk tags subs blob)=N:=⟨_,rfl⟩;obtain⟨e1,he1⟩:∃e1,aI e+(6+12*N)=e1:=⟨_,rfl⟩;obtain⟨e2,he2⟩:∃e2,cq e1 tags=e2:=⟨_,rfl⟩;obtain⟨e3,he3⟩:∃e3,eA e2 subs=e3:=⟨_,rfl⟩;obtain⟨S,hS⟩:∃S,aQ sh s=S:=⟨_,rfl⟩;have hSo:=hsh s;rw[hS] at hSo ht hbl hs;have g1:=nG e;have g2:=qN tags e1;have g3:=tD subs e2;have g4:=nG e3;rw[he2] at g2;rw[he3] at g3;have hend:bE e (.mk tags subs blob)=if blob.length=0 then e3 else aI e3+blob.length:=by rw[bE,hN,he1,he2,he3]
  rw[hend] at hlt hlen;have h3lt:e3<4294967296/\(blob.length=0\/aI e3+blob.length<4294967296):=by split at hlt<;>omega
  obtain⟨E,hE⟩:∃E,gu (eu order e1 tags++(iB e2 subs++hM S e3 blob))=E:=⟨_,rfl⟩;obtain⟨c1,c2,c3,c4,c5⟩:=QQ hSo ht hbl hr hs hE.symm;have hEn:E.length=N:=by rw[<-hE,xM,aT,aT,rT,As,DY,<-hN];show _=tags.length+cm subs+(if blob.length=0 then 0 else 2);omega
  have hEo:∀x∈E,mG x:=by
   intro x hx;rw[<-hE] at hx;rcases fT.1 (xN.1 hx) with hx|hx
   ·exact DZ (S:=S) htg (by rw[he2];omega) x hx
   ·rcases fT.1 hx with hx|hx
    ·exact JY hSo (Eh hs) (by rw[he3];omega) x hx
    ·unfold hM at hx;split at hx
     ·cases hx
     ·have hat:=hSo.pair (hbl.resolve_left (by assumption));simp only[cZ,nk,nr] at hx;rcases hx with rfl|rfl
      ·exact⟨by simp only;omega,by simp only;omega,by simp only;omega,by simp only;omega⟩
      ·exact⟨by simp only;omega,by simp only;omega,by simp only;omega,by simp only;omega⟩
  obtain⟨bl,hblob⟩:∃bl,(if blob.length=0 then[] else dU e3++blob)=bl:=⟨_,rfl⟩;have hbd:jf order sh s next e (.mk tags subs blob)=dU e++(kG order E next++(gI order e1 tags++(jM order sh S e2 subs++bl))):=by rw[jf,hN,he1,he2,he3,hS,hE,hblob]
  rw[hbd] at hlen hb;have iO:=JM order E next
  rw[hEn] at iO;have hpl:=qq e;have hvl:=IH order tags e1 λt h=>(htg t h).2;have hsl:=JB order sh subs S e2 hs;rw[he2] at hvl;rw[he3] at hsl;have hbL:b.length=e1+(gI order e1 tags).length+(jM order sh S e2 subs).length+bl.length+post.length:=by rw[hb];simp only[aT,iO];omega
  have hbll:bl.length=if blob.length=0 then 0 else aI e3 -e3+blob.length:=by
   rw[<-hblob];have:=qq e3;split
   ·rfl
   ·rw[aT];omega
  have hat:aI e=(pre++dU e).length:=by rw[aT];omega
  have hnum:ct b (aI e) 2 order=N:=by refine nO (pre:=pre++dU e) (post:=(E.flatMap (jg order)++bc next 4 order)++(gI order e1 tags++(jM order sh S e2 subs++(bl++post)))) ?_ hat (.inr (.inl rfl)) ho (by omega);rw[hb,kG,hEn];simp
  have hents:kc b order (aI e+2) N=E:=by have:=Rr ho E (pre++(dU e++bc N 2 order)) (bc next 4 order++(gI order e1 tags++(jM order sh S e2 subs++(bl++post)))) (aI e+2) (b:=b) (by rw[hb,kG,hEn];simp) (by simp only[aT,eI];omega) hEo;rwa[hEn] at this
  have hnext:ct b (aI e+2+12*N) 4 order=next:=by refine nO (pre:=pre++(dU e++(bc N 2 order++E.flatMap (jg order)))) (post:=gI order e1 tags++(jM order sh S e2 subs++(bl++post))) (by rw[hb,kG,hEn];simp) ?_ (.inr (.inr rfl)) ho (by omega);simp only[aT,eI,xB,hEn];omega
  have hee:=Kc e;have htk:lE b.length Sp ⟨2,no,0,aI e,6+12*N⟩=.ok (Sp++[⟨2,no,0,aI e,6+12*N⟩]):=PK hSp g1 hee (by simp only;omega);have hS1:lQ (Sp++[⟨2,no,0,aI e,6+12*N⟩]) e1:=hSp.add (by omega) (by simp only;omega);obtain⟨v1,v2⟩:=MO (b:=b) (order:=order) (no:=no) tags (pre++(dU e++kG order E next)) (jM order sh S e2 subs++(bl++post)) e1 _ (λt h=>(htg t h).2) (by rw[hb];simp) (by simp only[aT,iO];omega) hS1;rw[he2] at v2;have hT:ko (eU S) b order no E (Sp++[⟨2,no,0,aI e,6+12*N⟩])=.ok (tags,Sp++[⟨2,no,0,aI e,6+12*N⟩]++dr no e1 tags):=by rw[Wk E _ c5,c2];exact v1
  have kg:jZ subs<=f:=by unfold gq at hf;omega
  obtain⟨s1,s2⟩:=Wn ho hsh subs S e2 f (no+1) (Sp++[⟨2,no,0,aI e,6+12*N⟩]++dr no e1 tags) (pre++(dU e++(kG order E next++gI order e1 tags))) (bl++post) b hs (by rw[hb];simp) (by simp only[aT,iO];omega) (by rw[he3];omega) v2 kg;rw[he3] at s2;have tK:no+dI (.mk tags subs blob)=no+1+iA subs:=by unfold dI;omega
  have hsp:ga no e (.mk tags subs blob)=⟨2,no,0,aI e,6+12*N⟩::(dr no e1 tags++(kM (no+1) e2 subs++(if blob.length=0 then[] else[⟨4,no,0,aI e3,blob.length⟩]))):=by rw[ga,hN,he1,he2,he3]
  rw[tK,hsp,hend];unfold kI;rw[ay ⟨hee,by omega⟩,hnum,aq (by omega)];simp only[htk];rw[hents,ay c1,hS];simp only[hT];rw[c4,c3];by_cases hz:blob.length=0
  ·have hB:hM S e3 blob=[]:=by unfold hM;rw[ay hz]
   have hbl0:blob=[]:=kP hz;rw[hB,aq (by simp)];simp only[s1,hnext,ay hz,ea];subst hbl0;refine⟨by simp,by simpa using s2⟩
  ·have hB:hM S e3 blob=[⟨S.at_,4,1,aI e3⟩,⟨S.cJ,4,1,blob.length⟩]:=by unfold hM;rw[aq hz]
   rw[aq hz] at hblob hbll;rw[hB,aq (by simp)];simp only[s1];rw[aq hz];have htb:lE b.length (Sp++[⟨2,no,0,aI e,6+12*N⟩]++dr no e1 tags++kM (no+1) e2 subs) ⟨4,no,0,aI e3,blob.length⟩=.ok (Sp++[⟨2,no,0,aI e,6+12*N⟩]++dr no e1 tags++kM (no+1) e2 subs++[⟨4,no,0,aI e3,blob.length⟩]):=
    PK s2 g4 (Kc e3) (by simp only;omega)
   simp only[htb];have hdrop:(b.drop (aI e3)).take blob.length=blob:=by
    have hp3:=qq e3;have e':b=(pre++(dU e++(kG order E next++(gI order e1 tags++(jM order sh S e2 subs++dU e3)))))++(blob++post):=by rw[hb,<-hblob];simp
    have el:(pre++(dU e++(kG order E next++(gI order e1 tags++(jM order sh S e2 subs++dU e3))))).length=aI e3:=by simp only[aT,iO];omega
    rw[e',<-el,List.drop_left,List.take_left]
   rw[hdrop,hnext,aq hz,aq hz];refine⟨by simp,?_⟩;have:=s2.add (x:=⟨4,no,0,aI e3,blob.length⟩) (e':=aI e3+blob.length) (by omega) (aM _);simpa using this
theorem Wn{order:Int}(ho:order=1\/order=2){sh:qr bg}(hsh:∀s,uU (aQ sh s)):∀(r:cP)(S:bg)(e f no:Nat)(Sp:qr bq)(pre post b:qr UInt8),
 jh sh S r=true->b=pre++(jM order sh S e r++post)->pre.length=e->eA e r<4294967296->lQ Sp e->jZ r<=f->
 mu (kI b order sh f) S (iB e r) no Sp=.ok (r,no+iA r,Sp++kM no e r)/\lQ (Sp++kM no e r) (eA e r)
 | .nil,S,e,f,no,Sp,pre,post,b,h,hb,hp,hlt,hSp,hf=>by unfold iB kM eA iA;refine⟨by simp[mu],by simpa using hSp⟩
 | .cons tag d r,S,e,f,no,Sp,pre,post,b,h,hb,hp,hlt,hSp,hf=>by simp only[jh,bB] at h;unfold eA at hlt;unfold jZ at hf;have g:=tD r (bE e d);rw[jM,dM] at hb;have hl:=tr order sh d ((lN S tag).getD 0) 0 e h.2.1;obtain⟨d1,d2⟩:=Wm ho hsh d ((lN S tag).getD 0) 0 e f no Sp pre (jM order sh S (bE e d) r++post) b h.2.1 hb hp (by omega) (by omega) hSp (by omega);obtain⟨r1,r2⟩:=Wn ho hsh r S (bE e d) f (no+dI d) _ (pre++jf order sh ((lN S tag).getD 0) 0 e d) post b h.2.2 (by rw[hb];simp) (by rw[aT];omega) hlt d2 (by omega);unfold iB kM eA iA;refine⟨?_,by simpa using r2⟩;rw[mu];simp only[d1,r1];simp[o5]
end
structure jd(sh:List bg):Prop where
 ok:∀s,uU (aQ sh s)
 bR:∀s,s<sh.length->∀x∈(aQ sh s).bR,(s:Int)<x.shape/\x.shape<sh.length
 next:∀s,s<sh.length->(aQ sh s).next<0\/((s:Int)<(aQ sh s).next/\(aQ sh s).next<sh.length)
theorem acG{S:bg}{tag:Int}(h:fG S tag=true):∃x∈S.bR,(lN S tag).getD 0=x.shape.toNat:=by
 unfold fG at h;unfold lN;cases hf:S.bR.find? (λx=>x.tag==tag) with
 |none=>grind
 |some x=>grind
mutual
theorem QZ{sh:qr bg}(hsh:jd sh):∀(d:aV)(s:Nat),cR sh s d=true->s<sh.length->gq d+s<=sh.length
 | .mk tags subs blob,s,h,hs=>by simp[cR] at h;have:=Q0 hsh subs s h.2.2.2.2 hs;unfold gq;omega
theorem Q0{sh:qr bg}(hsh:jd sh):∀(r:cP)(s:Nat),jh sh (aQ sh s) r=true->s<sh.length->jZ r+s+1<=sh.length
 | .nil,s,_,hs=>by unfold jZ;omega
 | .cons tag d r,s,h,hs=>by simp[jh] at h;obtain⟨x,hx,e⟩:=acG h.1;have hl:=hsh.bR s hs x hx;have h1:=QZ hsh d ((lN (aQ sh s) tag).getD 0) h.2.1 (by grind);have h2:=Q0 hsh r s h.2.2 hs;unfold jZ;omega
end
def eG(e:Nat):qr aV->Nat
 |[]=>e
 |d::ds=>eG (bE e d) ds
def ig:qr aV->Nat
 |[]=>0
 |d::ds=>dI d+ig ds
def jn(no e:Nat):qr aV->qr bq
 |[]=>[]
 |d::ds=>ga no e d++jn (no+dI d) (bE e d) ds
def pG(e:Nat)(d:aV)(ds:qr aV):Nat:=if ds.isEmpty then 0 else aI (bE e d)
def chainB(order:Int)(sh:qr bg)(s:Int)(e:Nat):qr aV->qr UInt8
 |[]=>[]
 |d::ds=>jf order sh s.toNat (pG e d ds) e d++chainB order sh (aQ sh s.toNat).next (bE e d) ds
def gG(sh:qr bg)(s:Int):qr aV->Bool
 |[]=>true
 |d::ds=>decide (0<=s)&&(cR sh s.toNat d&&gG sh (aQ sh s.toNat).next ds)
def eC(t:mH)(sh:qr bg):qr UInt8:=
 (if t.order=1 then[73,73] else[77,77])++(bc 42 2 t.order++(bc 8 4 t.order++chainB t.order sh 0 8 t.dJ))
def eJ(t:mH):qr bq:=⟨1,-1,0,0,8⟩::jn 0 8 t.dJ
def gX(t:mH):Nat:=eG 8 t.dJ
def oM(b:qr UInt8)(order:Int)(sh:qr bg):Nat->Bool->Nat->Int->Nat->qr bq->Except Int (qr aV×qr bq)
 |0,_,_,_,_,_=>.error 0
 |f+1,first,at_,s,no,Sp=>
  if at_=0/\first=false then .ok ([],Sp)
  else if s<0 then .error 2
  else match kI b order sh sh.length at_ s.toNat no Sp with
   | .error e=>.error e
   | .ok (d,next,no1,S1)=>match oM b order sh f false next (aQ sh s.toNat).next no1 S1 with
    | .error e=>.error e
    | .ok (ds,S2)=>.ok (d::ds,S2)
def lO(b:qr UInt8):Int:=if b.take 2=[73,73] then 1 else if b.take 2=[77,77] then 2 else 0
def uH(b:qr UInt8)(sh:qr bg):Except Int (mH×qr bq):=
 if b.length<8 then .error 3
 else if lO b=0\/ct b 2 2 (lO b)≠42 then .error 2
 else match oM b (lO b) sh (sh.length+2) true (ct b 4 4 (lO b)) 0 0 [⟨1,-1,0,0,8⟩] with
  | .error e=>.error e
  | .ok (ds,S)=>.ok (⟨lO b,ds⟩,S)
theorem QO{order:Int}{sh:qr bg}:∀(ds:qr aV)(s:Int)(e:Nat),gG sh s ds=true->e+(chainB order sh s e ds).length=eG e ds
 |[],_,_,_=>rfl
 |d::ds,s,e,h=>by
  simp[gG] at h
  have h1:=tr order sh d s.toNat (pG e d ds) e h.2.1
  have h2:=QO (order:=order) ds (aQ sh s.toNat).next (bE e d) h.2.2
  rw[chainB,eG,aT]
  omega
theorem ql:∀(ds:qr aV)(e:Nat),e<=eG e ds
 |[],e=>aM _
 |d::ds,e=>by have:=An d e;have:=ql ds (bE e d);rw[eG];omega
theorem Wl{order:Int}(ho:order=1\/order=2){sh:qr bg}(hsh:jd sh):∀(ds:qr aV)(s:Int)(e f no:Nat)(first:Bool)(Sp:qr bq)(pre b:qr UInt8),
 gG sh s ds=true->(first=true->ds≠[])->s<sh.length->b=pre++chainB order sh s e ds->pre.length=e->0<e->eG e ds<4294967296->lQ Sp e->((sh.length:Int) -s).toNat+2<=f->
 oM b order sh f first (if ds.isEmpty then 0 else aI e) s no Sp=.ok (ds,Sp++jn no e ds)
 |[],s,e,f+1,no,first,Sp,pre,b,h,hfi,hs,hb,hp,he,hlt,hSp,hf=>by
  have:first=false:=by cases first with
   |false=>rfl
   |true=>exact absurd rfl (hfi rfl)
  subst this;rw[oM];simp[jn]
 |d::ds,s,e,f+1,no,first,Sp,pre,b,h,hfi,hs,hb,hp,he,hlt,hSp,hf=>by
  simp[gG] at h;obtain⟨h0,h1,h2⟩:=h;have g1:=nG e;have g3:=ql ds (bE e d);rw[eG] at hlt;rw[chainB] at hb;have hl:=tr order sh d s.toNat (pG e d ds) e h1;have hnx:pG e d ds<4294967296:=by
   unfold pG;split
   ·decide
   ·cases ds with
    |nil=>rename_i hh;exact absurd rfl hh
    |cons d' ds=>have:=Mr (d:=d') (e:=bE e d);have:=ql ds (bE (bE e d) d');rw[eG] at hlt g3;omega
  obtain⟨d1,d2⟩:=Wm ho hsh.ok d s.toNat (pG e d ds) e sh.length no Sp pre (chainB order sh (aQ sh s.toNat).next (bE e d) ds) b h1 hb hp (by omega) hnx hSp (by have:=QZ hsh d s.toNat h1 (by omega);omega);have hnext:=hsh.next s.toNat (by omega);have hr:oM b order sh f false (pG e d ds) (aQ sh s.toNat).next (no+dI d) (Sp++ga no e d)=.ok (ds,Sp++ga no e d++jn (no+dI d) (bE e d) ds):=by
   cases ds with
   |nil=>
    cases f with
    |zero=>omega
    |succ f=>rw[oM,ay ⟨rfl,rfl⟩];simp[jn]
   |cons d' ds=>
    have hn:0<=(aQ sh s.toNat).next:=by simp[gG] at h2;exact h2.1
    have:=Wl ho hsh (d'::ds) (aQ sh s.toNat).next (bE e d) f (no+dI d) false (Sp++ga no e d) (pre++jf order sh s.toNat (pG e d (d'::ds)) e d) b h2 (by intro h;cases h) (by omega) (by rw[hb];simp) (by rw[aT];omega) (by omega) hlt d2 (by omega);exact this
  rw[oM,aq (by simp;omega),aq (by omega)];simp_all;simp[jn]
 |_,s,e,0,no,first,Sp,pre,b,h,hfi,hs,hb,hp,he,hlt,hSp,hf=>by omega
theorem wN{t:mH}{sh:qr bg}(h:gG sh 0 t.dJ=true):(eC t sh).length=gX t:=by
 have:=QO (order:=t.order) t.dJ 0 8 h;simp[eC,gX,eI]
 grind
theorem PY{t:mH}{sh:qr bg}(ho:t.order=1\/t.order=2)(hsh:jd sh)(hl:0<sh.length)(cL:t.dJ≠[])(h:gG sh 0 t.dJ=true)(hlt:gX t<4294967296):uH (eC t sh) sh=.ok (t,eJ t):=by
 have h8:=ql t.dJ 8;have hord:lO (eC t sh)=t.order:=by unfold lO eC;rcases ho with e|e<;>rw[e]<;>simp
 obtain⟨sg,hsg⟩:∃sg,(if t.order=1 then[73,73] else[77,77]:qr UInt8)=sg:=⟨_,rfl⟩;have hsl:sg.length=2:=by rw[<-hsg];split<;>rfl
 have hb:eC t sh=sg++(bc 42 2 t.order++(bc 8 4 t.order++chainB t.order sh 0 8 t.dJ)):=by unfold eC;rw[hsg]
 have hat:ct (eC t sh) 4 4 t.order=8:=nO (pre:=sg++bc 42 2 t.order) (post:=chainB t.order sh 0 8 t.dJ) (by rw[hb];simp) (by simp[hsl,eI]) (.inr (.inr rfl)) ho (by decide);have hr:=Wl ho hsh t.dJ 0 8 (sh.length+2) 0 true [⟨1,-1,0,0,8⟩] (sg++(bc 42 2 t.order++bc 8 4 t.order)) (eC t sh) h (λ_=>cL) (by omega) (by rw[hb];simp) (by simp[hsl,eI]) (by decide) hlt (by intro x hx;rw[nj.1 hx];decide) (by omega);have hem:t.dJ.isEmpty=false:=by
  cases hd:t.dJ with
  |nil=>exact absurd hd cL
  |cons _ _=>rfl
 rw[hem] at hr;unfold uH;rw[aq (by rw[(wN h)];unfold gX;omega),hord,(nO hb hsl.symm (.inr (.inl rfl)) ho (by decide)),aq (by rcases ho with e|e<;>rw[e]<;>simp)];rw[(show(if false=true then 0 else aI 8)=8 from rfl)] at hr;simp_all;rfl
def Su(d:Int):qr ((Int×Int)×qr Int×Int):=
 ([0x0100,0x0101].map λt=>((d,t),[3,4],1))++([0x0103,0x0112,0x0128,0x0213].map λt=>((d,t),[3],1))++
 ([0x010e,0x010f,0x0110,0x0131,0x013b,0x8298].map λt=>((d,t),[2],0))++[((d,0x0132),[2],20),((d,0x011a),[5],1),((d,0x011b),[5],1)]
def agX(d:Int):qr ((Int×Int)×qr Int×Int):=
 ([0x829a,0x829d,0x9202,0x920a].map λt=>((d,t),[5],1))++([0x8822,0x9207,0x9208,0x9209,0xa001,0xa402].map λt=>((d,t),[3],1))++
 ([0x9000,0x9101,0xa000].map λt=>((d,t),[7],4))++([0x9201,0x9204].map λt=>((d,t),[10],1))++([0x9003,0x9004].map λt=>((d,t),[2],20))++
 ([0xa002,0xa003].map λt=>((d,t),[3,4],1))++[((d,0x8827),[3],0),((d,0x9286),[7],0),((d,0x9290),[2],0),((d,0xa300),[7],1),((d,0xa420),[2],33),((d,0xa432),[5],4)]
def abl(d:Int):qr ((Int×Int)×qr Int×Int):=
 [((d,0x00),[1],4),((d,0x05),[1],1),((d,0x06),[5],1)]++([0x01,0x03].map λt=>((d,t),[2],2))++([0x02,0x04,0x07].map λt=>((d,t),[5],3))++
 [((d,0x12),[2],0),((d,0x1d),[2],11)]
def amg(d:Int):qr ((Int×Int)×qr Int×Int):=
 [((d,0xb000),[7],4)]++([0xb101,0xb201,0xb202].map λt=>((d,t),[4],1))++([0xb204,0xb206].map λt=>((d,t),[5],1))++([0xb205,0xb208].map λt=>((d,t),[10],1))
def WI:qr ((Int×Int)×qr Int×Int):=
 Su 0++Su 1++agX 2++abl 3++[((4,1),[2],4),((4,2),[7],4)]++amg 5
def M5(d t:Int):Hx (qr Int×Int):=WI.lookup (d,t)
def pM:qr (Int×Int):=[(0,0x8769),(0,0x8825),(1,0x0201),(1,0x0202),(2,0x927c),(2,0xa005),(5,0xb001),(5,0xb002)]
def sd(d:Int)(x:aL):Bool:=
 decide (0<=d/\d<6/\0<=x.tag/\x.tag<=65535)&&!pM.contains (d,x.tag)&&eH x.ty x.az x.data&&
  (match M5 d x.tag with
   |none=>true
   |some (l,c)=>l.contains x.ty&&(c==0||c==x.az))
def db(d:Int)(l:qr aL):Bool:=fR l&&l.all (sd d)&&decide (0<=d/\d<6)
structure dF where
 order:Int
 cn:List aL
 bD:List aL
 bG:List aL
 bj:List aL
 first:List aL
 bC:List UInt8
 cF:List UInt8
 deriving DecidableEq
def iT(x:dF):Int:=
 if¬(x.order=1\/x.order=2) then 1
 else if(db 0 x.cn&&(db 2 x.bD&&(db 3 x.bG&&(db 4 x.bj&&db 1 x.first))))=false then 6
 else if 65536<x.bC.length\/(x.cn.length=0/\x.bD.length=0/\x.bG.length=0/\x.bj.length=0/\x.bC.length=0) then 6
 else 0
theorem tw{x:dF}(h:iT x=0):(x.order=1\/x.order=2)/\db 0 x.cn=true/\db 2 x.bD=true/\db 3 x.bG=true/\db 4 x.bj=true/\db 1 x.first=true/\x.bC.length<=65536/\
 ¬(x.cn.length=0/\x.bD.length=0/\x.bG.length=0/\x.bj.length=0/\x.bC.length=0):=by
 unfold iT at h
 grind
def iN(l:qr aL)(tag:Int):Hx aL:=l.find? λx=>x.tag==tag
def pw(l:qr aL)(tag:Int):qr aL:=l.filter λx=>x.tag !=tag
def ku(l:qr aL)(x:aL):qr aL:=(l.filter λy=>decide (y.tag<x.tag))++x::l.filter λy=>decide (x.tag<y.tag)
theorem FC:∀{a:aL}{l:qr aL},fR (a::l)=true->fR l=true/\∀y∈l,a.tag<y.tag
 |a,[],_=>⟨rfl,λy h=>by cases h⟩
 |a,b::l,h=>by
  simp[fR] at h;obtain⟨h1,h2⟩:=FC h.2
  grind
theorem MS{a:aL}:∀{l:qr aL},fR l=true->(∀y∈l,a.tag<y.tag)->fR (a::l)=true
 |[],_,_=>rfl
 |b::l,h,g=>by simp[fR];simp_all
theorem xD{α:Type}{p:α->Bool}:∀{l:qr α},(∀y∈l,p y=true)->l.filter p=l
 |[],_=>rfl
 |a::l,h=>by simp_all
theorem filter_nil{α:Type}{p:α->Bool}:∀{l:qr α},(∀y∈l,p y=false)->l.filter p=[]
 |[],_=>rfl
 |a::l,h=>by simp_all
theorem YE(t:Int):∀{l:qr aL},fR l=true->(∀y∈l,y.tag≠t)->(l.filter λy=>decide (y.tag<t))++(l.filter λy=>decide (t<y.tag))=l
 |[],_,_=>rfl
 |a::l,h,hn=>by
  obtain⟨h1,h2⟩:=FC h;have h0:=hn a (by simp);by_cases c:a.tag<t
  ·rw[kA,ay (by grind),kA,aq (by simp;omega),ec,(YE t h1 λy hy=>hn y (by simp[hy]))]
  ·rw[kA,aq (by grind),kA,ay (by simp;omega)];rw[filter_nil (λy hy=>by have:=h2 y hy;simp;omega),xD (λy hy=>by have:=h2 y hy;simp;omega)];rfl
theorem XA(x:aL):∀{l:qr aL},fR l=true->fR (ku l x)=true
 |[],_=>rfl
 |a::l,h=>by
  obtain⟨h1,h2⟩:=FC h;have ih:=XA x h1;unfold ku at ih⊢;by_cases c:a.tag<x.tag
  ·rw[kA,ay (by simpa using c),kA,aq (by simp;omega)];refine MS ih λy hy=>?_;rcases fT.1 hy with hy|hy
   ·exact h2 y (oX.1 hy).1
   ·rcases cZ.1 hy with rfl|hy
    ·exact c
    ·exact h2 y (oX.1 hy).1
  ·have e:((a::l).filter λy=>decide (y.tag<x.tag))=[]:=filter_nil λy hy=>by
    rcases cZ.1 hy with rfl|hy<;>grind
   rw[e];refine MS ?_ (λy hy=>by simpa using(oX.1 hy).2);rw[kA];split
   ·rename_i q;refine MS ?_ λy hy=>h2 y (oX.1 hy).1;rw[xD λy hy=>by have:=h2 y hy;simp at q⊢;omega];exact h1
   ·rename_i q;rw[xD λy hy=>by have:=h2 y hy;simp at q⊢;omega];exact h1
theorem Xz{x y:aL}{l:qr aL}(h:y∈ku l x):y=x\/y∈l:=by
 rcases fT.1 h with h|h
 ·grind
 grind
theorem Xy(l:qr aL)(x:aL):(ku l x).length<=l.length+1:=by
 unfold ku;have h1:∀l:qr aL,(l.filter λy=>decide (y.tag<x.tag)).length+(l.filter λy=>decide (x.tag<y.tag)).length<=l.length:=by
  intro l;induction l with
  |nil=>simp
  |cons a l ih=>grind
 grind
theorem drop_set{x:aL}{l:qr aL}(h:fR l=true)(hn:∀y∈l,y.tag≠x.tag):pw (ku l x) x.tag=l:=by unfold pw ku;rw[List.filter_append,kA,aq (by simp),xD λy hy=>by simpa using hn y (oX.1 hy).1,xD (p:=λy:aL=>y.tag !=x.tag) λy hy=>by simpa using hn y (oX.1 hy).1];exact YE x.tag h hn
theorem aa0(x:aL)(l:qr aL):iN (ku l x) x.tag=some x:=by
 unfold iN ku
 grind
theorem aaY{l:qr aL}{t:Int}(hn:∀y∈l,y.tag≠t):iN l t=none:=by
 unfold iN
 grind
theorem aaB{l:qr aL}{t:Int}(hn:∀y∈l,y.tag≠t):pw l t=l:=xD λy hy=>by simpa using hn y hy
def dC:qr bg:=[⟨[⟨34665,2⟩,⟨34853,3⟩],0,0,1⟩,⟨[],513,514,-1⟩,⟨[⟨40965,4⟩],0,0,-1⟩,⟨[],0,0,-1⟩,⟨[],0,0,-1⟩]
def jQ(b:qr UInt8):aL:=⟨37500,7,b.length,b⟩
def jV(x:dF):aV:=.mk (if x.bC.length=0 then x.bD else ku x.bD (jQ x.bC)) (if x.bj.length=0 then .nil else .cons 40965 (.mk x.bj .nil []) .nil) []
def nJ(x:dF):cP:=if x.bG.length=0 then .nil else .cons 34853 (.mk x.bG .nil []) .nil
def jT(x:dF):cP:=if x.bD.length=0/\x.bj.length=0/\x.bC.length=0 then nJ x else .cons 34665 (jV x) (nJ x)
def fj(x:dF):mH:=⟨x.order,.mk x.cn (jT x) []::(if x.first.length=0/\x.cF.length=0 then[] else[.mk x.first .nil x.cF])⟩
theorem Ki:jd dC:=by
 have key:∀s,aQ dC s=TW\/s<5:=by
  intro s;by_cases h:s<5
  ·exact .inr h
  ·left;unfold aQ;rw[kQ (by simp[dC];omega)];rfl
 refine⟨λs=>?_,λs hs x hx=>?_,λs hs=>?_⟩
 ·rcases key s with h|h
  ·rw[h];exact⟨λx hx=>(by cases hx),λh=>absurd rfl h⟩
  ·have:s=0\/s=1\/s=2\/s=3\/s=4:=by omega
   rcases this with rfl|rfl|rfl|rfl|rfl
   ·refine⟨λx hx=>?_,λh=>absurd rfl h⟩;have hx:x∈[(⟨34665,2⟩:iJ),⟨34853,3⟩]:=hx;simp_all;rcases hx with rfl|rfl<;>exact⟨by decide,by decide,rfl⟩
   ·refine⟨λx hx=>(by cases hx),λ_=>⟨by decide,by decide,by decide⟩⟩
   ·refine⟨λx hx=>?_,λh=>absurd rfl h⟩;have hx:x∈[(⟨40965,4⟩:iJ)]:=hx;simp at hx;rcases hx with rfl
    exact⟨by decide,by decide,rfl⟩
   ·exact⟨λx hx=>(by cases hx),λh=>absurd rfl h⟩
   ·exact⟨λx hx=>(by cases hx),λh=>absurd rfl h⟩
 ·have:s=0\/s=1\/s=2\/s=3\/s=4:=by simp[dC] at hs;omega
  rcases this with rfl|rfl|rfl|rfl|rfl
  ·have hx:x∈[(⟨34665,2⟩:iJ),⟨34853,3⟩]:=hx;simp_all;rcases hx with rfl|rfl<;>exact⟨by decide,by decide⟩
  ·cases hx
  ·have hx:x∈[(⟨40965,4⟩:iJ)]:=hx;simp at hx;rcases hx with rfl;exact⟨by decide,by decide⟩
  ·cases hx
  ·cases hx
 ·have:s=0\/s=1\/s=2\/s=3\/s=4:=by simp[dC] at hs;omega
  rcases this with rfl|rfl|rfl|rfl|rfl
  ·right;exact⟨by decide,by decide⟩
  all_goals left;decide
theorem ED{d:Int}{x:aL}(h:sd d x=true):0<=x.tag/\x.tag<=65535/\pM.contains (d,x.tag)=false/\eH x.ty x.az x.data=true:=by
 unfold sd at h
 grind
theorem yq{d:Int}{l:qr aL}(h:db d l=true):fR l=true/\∀x∈l,sd d x=true:=by
 unfold db at h
 grind
theorem zu{d:Int}{l:qr aL}{S:bg}(h:db d l=true)(ho:∀t,eU S t=true->pM.contains (d,t)=true):kx S l=true:=by
 obtain⟨h1,h2⟩:=yq h;unfold kx;rw[bB,iv];refine⟨h1,λt ht=>?_⟩;obtain⟨a,b,c,e⟩:=ED (h2 t ht);have:eU S t.tag=false:=by grind
 rw[this,e];simp[nc];omega
theorem EH{S:bg}(h:S.bR=[])(ha:S.at_=0)(t:Int):eU S t=false:=by
 unfold eU fG fK
 grind
theorem Fe(t:Int)(h:eU (aQ dC 0) t=true):pM.contains (0,t)=true:=by
 have:t=34665\/t=34853:=by
  have h:(([(⟨34665,2⟩:iJ),⟨34853,3⟩].any λx=>x.tag==t)||(decide ((0:Int)≠0)&&(decide (t=0)||decide (t=0))))=true:=h
  grind
 rcases this with rfl|rfl<;>rfl
theorem agH(t:Int)(h:eU (aQ dC 1) t=true):pM.contains (1,t)=true:=by
 have:t=513\/t=514:=by have h:(([]:qr iJ).any (λx=>x.tag==t)||(decide ((513:Int)≠0)&&(decide (t=513)||decide (t=514))))=true:=h;simp_all
 rcases this with rfl|rfl<;>rfl
theorem Vp(t:Int)(h:eU (aQ dC 2) t=true):t=40965:=by
 have h:(([(⟨40965,4⟩:iJ)].any λx=>x.tag==t)||(decide ((0:Int)≠0)&&(decide (t=0)||decide (t=0))))=true:=h
 grind
theorem agI(t:Int):eU (aQ dC 3) t=false:=EH rfl rfl t
theorem agJ(t:Int):eU (aQ dC 4) t=false:=EH rfl rfl t
theorem ac8{b:qr UInt8}(h1:b.length≠0)(h2:b.length<=65536):eH (jQ b).ty (jQ b).az (jQ b).data=true:=by
 unfold eH jQ;have:(kindOf 7).1 =1:=rfl
 grind
def q9(x:dF)(m:Nat):Prop:=x.cn.length<=m/\x.bD.length<=m/\x.bG.length<=m/\x.bj.length<=m/\x.first.length<=m
theorem Mj{x:dF}(h:db 2 x.bD=true):∀y∈x.bD,y.tag≠37500:=by intro y hy e;have:=(ED ((yq h).2 y hy)).2.2.1;rw[e] at this;cases this
theorem YU{x:dF}(h:iT x=0)(hm:q9 x 65000)(hp:¬(x.bD.length=0/\x.bj.length=0/\x.bC.length=0)):cR dC 2 (jV x)=true:=by
 obtain⟨-,-,h2,-,h4,-,hmk,-⟩:=tw h;obtain⟨-,m2,-,m4,-⟩:=hm;have hl:=Xy x.bD (jQ x.bC);have ht:kx (aQ dC 2) (if x.bC.length=0 then x.bD else ku x.bD (jQ x.bC))=true:=by
  have h0:=zu h2 λt q=>by rw[Vp t q];rfl
  split
  ·exact h0
  ·rename_i hmk0;unfold kx at h0⊢;rw[bB,iv] at h0⊢;refine⟨XA _ h0.1,λt ht=>?_⟩;rcases Xz ht with rfl|ht
   ·rw[ac8 hmk0 hmk];have:eU (aQ dC 2) (jQ x.bC).tag=false:=by
     cases q:eU (aQ dC 2) (jQ x.bC).tag with
     |false=>rfl
     |true=>exact absurd (Vp _ q) (show¬((37500:Int)=40965) by decide)
    rfl
   ·exact h0.2 t ht
 unfold jV cR;rw[ht];have hn:1<=bF (.mk (if x.bC.length=0 then x.bD else ku x.bD (jQ x.bC)) (if x.bj.length=0 then .nil else .cons 40965 (.mk x.bj .nil []) .nil) [])/\
  bF (.mk (if x.bC.length=0 then x.bD else ku x.bD (jQ x.bC)) (if x.bj.length=0 then .nil else .cons 40965 (.mk x.bj .nil []) .nil) [])<=65535:=by
  have hl0:1<=(ku x.bD (jQ x.bC)).length:=by unfold ku;simp;omega
  by_cases a:x.bC.length=0
  ·by_cases b:x.bj.length=0
   ·rw[ay a,ay b];simp only[bF,cm,List.length_nil,dW];omega
   ·rw[ay a,aq b];simp only[bF,cm,List.length_nil,dW];omega
  ·by_cases b:x.bj.length=0
   ·rw[aq a,ay b];simp only[bF,cm,List.length_nil,dW];omega
   ·rw[aq a,aq b];simp only[bF,cm,List.length_nil,dW];omega
 rw[eY hn];by_cases b:x.bj.length=0
 ·rw[ay b];rfl
 ·rw[aq b];have hi:cR dC 4 (.mk x.bj .nil [])=true:=by
   unfold cR;rw[zu h4 λt q=>by rw[agJ] at q;cases q];have:1<=bF (.mk x.bj .nil [])/\bF (.mk x.bj .nil [])<=65535:=by simp only[bF,cm,List.length_nil,dW];omega
   rw[eY this];rfl
  show((nT [40965]&&(true&&(cR dC 4 (.mk x.bj .nil [])&&true))))=true;rw[hi];rfl
theorem RZ{x:dF}(h:iT x=0)(hm:q9 x 65000)(hp:x.bG.length≠0):cR dC 3 (.mk x.bG .nil [])=true:=by
 obtain⟨-,-,-,h3,-,-,-,-⟩:=tw h;obtain⟨-,-,m3,-,-⟩:=hm;unfold cR;rw[zu h3 λt q=>by rw[agI] at q;cases q];have:1<=bF (.mk x.bG .nil [])/\bF (.mk x.bG .nil [])<=65535:=by simp[bF,cm];omega
 rw[eY this];rfl
theorem YZ{x:dF}(h:iT x=0)(hm:q9 x 65000):gG dC 0 (fj x).dJ=true:=by
 obtain⟨-,h0,-,-,-,h1,-,cL⟩:=tw h;have hm':=hm;obtain⟨m0,m2,m3,m4,m1⟩:=hm';have hsub:(nT (lD (jT x))&&jh dC (aQ dC 0) (jT x))=true:=by
  unfold jT nJ;by_cases a:x.bD.length=0/\x.bj.length=0/\x.bC.length=0
  ·rw[ay a];by_cases b:x.bG.length=0
   ·rw[ay b];rfl
   ·rw[aq b];show((nT [34853]&&(true&&(cR dC 3 (.mk x.bG .nil [])&&true))))=true;rw[RZ h hm b];rfl
  ·rw[aq a];by_cases b:x.bG.length=0
   ·rw[ay b];show((nT [34665]&&(true&&(cR dC 2 (jV x)&&true))))=true;rw[YU h hm a];rfl
   ·rw[aq b];show((nT [34665,34853]&&(true&&(cR dC 2 (jV x)&&(true&&(cR dC 3 (.mk x.bG .nil [])&&true))))))=true;rw[YU h hm a,RZ h hm b];rfl
 have hs2:cm (jT x)<=2/\(x.cn.length=0->1<=cm (jT x)):=by
  unfold jT nJ;by_cases a:x.bD.length=0/\x.bj.length=0/\x.bC.length=0
  ·rw[ay a];by_cases b:x.bG.length=0
   ·rw[ay b];simp only[cm];omega
   ·rw[aq b];simp only[cm];omega
  ·rw[aq a];by_cases b:x.bG.length=0
   ·rw[ay b];simp only[cm];omega
   ·rw[aq b];simp only[cm];omega
 have hd0:cR dC 0 (.mk x.cn (jT x) [])=true:=by
  unfold cR;rw[zu h0 Fe,hsub];have:1<=bF (.mk x.cn (jT x) [])/\bF (.mk x.cn (jT x) [])<=65535:=by simp[bF];omega
  rw[eY this];rfl
 unfold fj;have hx:∀ds,gG dC 0 (.mk x.cn (jT x) []::ds)=(decide ((0:Int)<=0)&&(cR dC 0 (.mk x.cn (jT x) [])&&gG dC 1 ds)):=λds=>rfl;simp only;rw[hx,hd0];by_cases a:x.first.length=0/\x.cF.length=0
 ·rw[ay a];rfl
 ·rw[aq a];have hd1:cR dC 1 (.mk x.first .nil x.cF)=true:=by
   unfold cR;rw[zu h1 agH];have:1<=bF (.mk x.first .nil x.cF)/\bF (.mk x.first .nil x.cF)<=65535:=by simp only[bF,cm];split<;>omega
   rw[eY this];have:decide ((aQ dC 1).at_≠0)=true:=rfl;rw[this];simp[jh,nT,lD]
  have hx:gG dC 1 [.mk x.first .nil x.cF]=(decide ((0:Int)<=1)&&(cR dC 1 (.mk x.first .nil x.cF)&&true)):=rfl;rw[hx,hd1];rfl
def xP(l:qr aL):cP->qr aL
 | .nil=>l
 | .cons _ (.mk tags _ _) r=>xP tags r
def qZ(r:dF):aV->Hx dF
 | .mk tags subs _=>match iN tags 37500 with
  |some v=>if v.ty=7 then some {r with bD:=pw tags 37500,bC:=v.data,bj:=xP r.bj subs} else none
  |none=>some {r with bD:=pw tags 37500,bC:=[],bj:=xP r.bj subs}
def rA(r:dF):cP->Hx dF
 | .nil=>some r
 | .cons tag d s=>if tag=34853 then rA {r with bG:=(match d with| .mk tags _ _=>tags)} s else(qZ r d).bind λr=>rA r s
def vq(r:dF):qr aV->dF
 |[]=>r
 | .mk tags _ blob::ds=>vq {r with first:=tags,cF:=blob} ds
def xV(t:mH):Hx dF:=match t.dJ with
 |[]=>none
 | .mk tags subs _::ds=>(rA ⟨t.order,tags,[],[],[],[],[],[]⟩ subs).bind λr=>if iT (vq r ds)=0 then some (vq r ds) else none
theorem mO{α:Type}{l:qr α}(h:l.length=0):l=[]:=qF.1 h
theorem agY{x:dF}(h:db 2 x.bD=true)(r:dF)(hi:r.bj=[]):qZ r (jV x)=some {r with bD:=x.bD,bC:=x.bC,bj:=x.bj}:=by
 have hl:xP r.bj (if x.bj.length=0 then .nil else .cons 40965 (.mk x.bj .nil []) .nil)=x.bj:=by
  split
  ·rename_i q;rw[mO q];exact hi
  ·rfl
 unfold jV qZ;simp only;rw[hl];by_cases a:x.bC.length=0
 ·rw[ay a,aaY (Mj h),aaB (Mj h),mO a]
 ·rw[aq a];have e1:=aa0 (jQ x.bC) x.bD;have e2:=drop_set (x:=jQ x.bC) (yq h).1 (Mj h);rw[(show(jQ x.bC).tag=37500 from rfl)] at e1 e2;rw[e1,e2];rfl
theorem Ub{x:dF}(h:iT x=0):xV (fj x)=some x:=by
 obtain⟨-,-,h2,-,-,-,-,-⟩:=tw h;have hs:rA ⟨x.order,x.cn,[],[],[],[],[],[]⟩ (jT x)=some {x with first:=[],cF:=[]}:=by
  have hg:∀r:dF,r.bG=[]->rA r (nJ x)=some {r with bG:=x.bG}:=by
   intro r hr;unfold nJ;split
   ·rename_i q;rw[mO q,<-hr];rfl
   ·rfl
  unfold jT;split
  ·rename_i q;rw[hg _ rfl,mO q.1,mO q.2.1,mO q.2.2]
  ·show(if(34665:Int)=34853 then rA _ (nJ x) else(qZ _ (jV x)).bind λr=>rA r (nJ x))=_;rw[agY h2 _ rfl];exact hg _ rfl
 have hf:vq {x with first:=[],cF:=[]} (if x.first.length=0/\x.cF.length=0 then[] else[.mk x.first .nil x.cF])=x:=by
  split
  ·rename_i q;show dF.mk _ _ _ _ _ [] _ []=x;rw[<-mO q.1,<-mO q.2]
  ·rfl
 unfold xV fj;simp only;rw[hs];simp only[Option.bind];rw[hf,ay h]
structure cK where
 attr:Int
 size:Int
 at_:Int
 dO:Int
 dP:Int
 deriving DecidableEq
def km(p:cK):Bool:=decide ((0<=p.attr/\p.attr<4294967296)/\(0<=p.size/\p.size<4294967296)/\(0<=p.at_/\p.at_<4294967296)/\(0<=p.dO/\p.dO<65536)/\(0<=p.dP/\p.dP<65536))
def dV(o:Int)(p:cK):qr UInt8:=bc p.attr.toNat 4 o++(bc p.size.toNat 4 o++(bc p.at_.toNat 4 o++(bc p.dO.toNat 2 o++bc p.dP.toNat 2 o)))
theorem Fp(o:Int)(p:cK):(dV o p).length=16:=by simp[dV,eI]
theorem pK(o:Int):∀l:qr cK,(l.flatMap (dV o)).length=16*l.length
 |[]=>rfl
 |p::l=>by rw[dN,aT,Fp,pK o l,bW];omega
def nR(b:qr UInt8)(p:Nat)(o:Int):cK:=⟨ct b p 4 o,ct b (p+4) 4 o,ct b (p+8) 4 o,ct b (p+12) 2 o,ct b (p+14) 2 o⟩
def placesOf(b:qr UInt8)(o:Int):Nat->Nat->qr cK
 |_,0=>[]
 |p,n+1=>nR b p o::placesOf b o (p+16) n
theorem ag3{b pre post:qr UInt8}{k:Nat}{o:Int}{p:cK}(e:b=pre++(dV o p++post))(hk:k=pre.length)(ho:o=1\/o=2)(h:km p=true):nR b k o=p:=by
 unfold km at h;simp at h;obtain⟨a1,a2,a3,a4,a5⟩:=h;have e0:b=pre++(bc p.attr.toNat 4 o++(bc p.size.toNat 4 o++(bc p.at_.toNat 4 o++(bc p.dO.toNat 2 o++(bc p.dP.toNat 2 o++post))))):=by rw[e];simp[dV]
 have e1:b=(pre++bc p.attr.toNat 4 o)++(bc p.size.toNat 4 o++(bc p.at_.toNat 4 o++(bc p.dO.toNat 2 o++(bc p.dP.toNat 2 o++post)))):=by rw[e0];simp
 have e2:b=(pre++bc p.attr.toNat 4 o++bc p.size.toNat 4 o)++(bc p.at_.toNat 4 o++(bc p.dO.toNat 2 o++(bc p.dP.toNat 2 o++post))):=by rw[e0];simp
 have h3:=nO (p:=k+8) e2 (by simp[eI,hk]) (.inr (.inr rfl)) ho (by omega);have e3:b=(pre++bc p.attr.toNat 4 o++bc p.size.toNat 4 o++bc p.at_.toNat 4 o)++(bc p.dO.toNat 2 o++(bc p.dP.toNat 2 o++post)):=by rw[e0];simp
 have h4:=nO (p:=k+12) e3 (by simp[eI,hk]) (.inr (.inl rfl)) ho (by omega);have e4:b=(pre++bc p.attr.toNat 4 o++bc p.size.toNat 4 o++bc p.at_.toNat 4 o++bc p.dO.toNat 2 o)++(bc p.dP.toNat 2 o++post):=by rw[e0];simp
 have h5:=nO (p:=k+14) e4 (by simp[eI,hk]) (.inr (.inl rfl)) ho (by omega);unfold nR;rw[(nO e0 hk (.inr (.inr rfl)) ho (by omega)),(nO (p:=k+4) e1 (by simp[eI,hk]) (.inr (.inr rfl)) ho (by omega)),h3,h4,h5];rw[mD a1.1,mD a2.1,mD a3.1,mD a4.1,mD a5.1]
theorem Ml{b:qr UInt8}{o:Int}(ho:o=1\/o=2):∀(l:qr cK)(pre post:qr UInt8)(k:Nat),b=pre++(l.flatMap (dV o)++post)->k=pre.length->(∀p∈l,km p=true)->placesOf b o k l.length=l
 |[],_,_,_,_,_,_=>rfl
 |p::l,pre,post,k,e,hk,h=>by
  rw[dN,dM] at e;rw[bW,placesOf,ag3 e hk ho (h p (by simp))]
  congr 1
  exact Ml ho l (pre++dV o p) post (k+16) (by grind) (by simp[Fp,hk]) λy hy=>h y (by grind)
def fJ:qr bg:=[⟨[],0,0,1⟩,⟨[],0,0,-1⟩]
def kT:qr bg:=[⟨[],0,0,-1⟩]
theorem VC{sh:qr bg}(h:∀s∈sh,s.bR=[]/\s.at_=0)(hn:∀s,s<sh.length->(aQ sh s).next<0\/((s:Int)<(aQ sh s).next/\(aQ sh s).next<sh.length)):jd sh:=by
 have key:∀s,(aQ sh s).bR=[]/\(aQ sh s).at_=0:=by
  intro s;unfold aQ;cases q:sh[s]? with
  |none=>exact⟨rfl,rfl⟩
  |some x=>grind
 refine⟨λs=>⟨λx hx=>?_,λq=>absurd (key s).2 q⟩,λs _ x hx=>?_,hn⟩<;>grind
theorem DF:jd fJ:=by
 refine VC (λs hs=>?_) λs hs=>?_
 ·simp[fJ] at hs
  grind
 ·have:s=0\/s=1:=by simp[fJ] at hs;omega
  rcases this with rfl|rfl<;>decide
theorem Jl:jd kT:=by
 refine VC (λs hs=>?_) λs hs=>?_
 ·simp[kT] at hs
  grind
 ·have:s=0:=by simp[kT] at hs;omega
  rcases this with rfl
  decide
def fe(o:Int)(l:qr cK):aV:=.mk [⟨45056,7,4,[48,49,48,48]⟩,⟨45057,4,1,eE l.length 4⟩,⟨45058,7,((16*l.length:Nat):Int),l.flatMap (dV o)⟩] .nil []
def cT(o:Int)(l:qr cK)(view:qr aL):mH:=⟨o,fe o l::(if view.length=0 then[] else[.mk view .nil []])⟩
def gC(o:Int)(view:qr aL):mH:=⟨o,[.mk view .nil []]⟩
def fC:qr UInt8:=[77,80,70,0]
def gT(o:Int)(l:qr cK)(view:qr aL):Except Int (qr UInt8):=
 if¬(o=1\/o=2)\/l.length<2 then .error 1
 else if l.all km=false then .error 1
 else if db 5 view=false then .error 6
 else if 65536<16*l.length then .error 7
 else if 65533<4+gX (cT o l view) then .error 7
 else .ok (fC++eC (cT o l view) fJ)
def rE(o:Int)(view:qr aL):Except Int (qr UInt8):=
 if¬(o=1\/o=2)\/view.length=0 then .error 1
 else if db 5 view=false then .error 6
 else if 65533<4+gX (gC o view) then .error 7
 else .ok (fC++eC (gC o view) kT)
theorem ZE{n:Nat}:eH 4 1 (eE n 4)=true:=by unfold eH;have:(kindOf 4).1 =4:=rfl;simp[this,pj]
theorem Zi{view:qr aL}{S:bg}{sh:qr bg}{s:Nat}(hS:aQ sh s=S)(hl:S.bR=[])(ha:S.at_=0)(h:db 5 view=true)(h0:view.length≠0)(hm:view.length<=65000):cR sh s (.mk view .nil [])=true:=by
 unfold cR;rw[hS,zu h λt q=>by rw[EH hl ha] at q;cases q];have:1<=bF (.mk view .nil [])/\bF (.mk view .nil [])<=65535:=by simp[bF,cm];omega
 rw[eY this];rfl
theorem SD{o:Int}{l:qr cK}{view:qr aL}(hl:2<=l.length/\16*l.length<=65536)(hv:db 5 view=true)(hm:view.length<=65000):gG fJ 0 (cT o l view).dJ=true:=by
 have hd:cR fJ 0 (fe o l)=true:=by
  unfold fe cR;have ht:kx (aQ fJ 0) [⟨45056,7,4,[48,49,48,48]⟩,⟨45057,4,1,eE l.length 4⟩,⟨45058,7,((16*l.length:Nat):Int),l.flatMap (dV o)⟩]=true:=by
   unfold kx;have m3:eH 7 ((16*l.length:Nat):Int) (l.flatMap (dV o))=true:=by unfold eH;have:(kindOf 7).1 =1:=rfl;rw[pK];simp_all;omega
   rw[bB,iv];refine⟨by simp[fR],λt ht=>?_⟩;simp at ht;rw[(λt=>EH rfl rfl t)];rcases ht with rfl|rfl|rfl
   ·rfl
   ·rfl
   ·simp_all;rfl
  rw[ht];rfl
 unfold cT;have hx:∀ds,gG fJ 0 (fe o l::ds)=(decide ((0:Int)<=0)&&(cR fJ 0 (fe o l)&&gG fJ 1 ds)):=λds=>rfl;rw[hx,hd];by_cases a:view.length=0
 ·rw[ay a];rfl
 ·rw[aq a];have hx:gG fJ 1 [.mk view .nil []]=(decide ((0:Int)<=1)&&(cR fJ 1 (.mk view .nil [])&&true)):=rfl;rw[hx,Zi rfl rfl rfl hv a hm];rfl
theorem PX{o:Int}{view:qr aL}(hv:db 5 view=true)(h0:view.length≠0)(hm:view.length<=65000):gG kT 0 (gC o view).dJ=true:=by have hx:gG kT 0 [.mk view .nil []]=(decide ((0:Int)<=0)&&(cR kT 0 (.mk view .nil [])&&true)):=rfl;show gG kT 0 [.mk view .nil []]=true;rw[hx,Zi rfl rfl rfl hv h0 hm];rfl
def indexOf(t:mH):Hx (Int×qr cK×qr aL):=match t.dJ with
 | .mk [a,b,c] _ _::ds=>
  if a.tag=45056/\a.ty=7/\a.data=[48,49,48,48]/\b.tag=45057/\b.ty=4/\b.data.length=4/\c.tag=45058/\c.ty=7/\2<=iu b.data/\c.data.length=16*iu b.data then
   match ds with
   |[]=>some (t.order,placesOf c.data t.order 0 (iu b.data),[])
   | .mk view _ _::_=>if db 5 view=true then some (t.order,placesOf c.data t.order 0 (iu b.data),view) else none
  else none
 |_=>none
theorem abF{o:Int}(ho:o=1\/o=2){l:qr cK}{view:qr aL}(hl:2<=l.length/\16*l.length<=65536)(hp:l.all km=true)(hv:db 5 view=true):indexOf (cT o l view)=some (o,l,view):=by
 have hb:iu (eE l.length 4)=l.length:=Lo 4 _ (by omega);unfold cT fe indexOf;simp only;rw[ay ⟨trivial,trivial,trivial,trivial,trivial,pj _ _,trivial,trivial,by rw[hb];exact hl.1,by rw[pK,hb]⟩,hb,(Ml ho l [] [] 0 (by simp) rfl λp hp'=>iv.1 hp p hp')]
 grind
theorem Yy{t:mH}(h:¬65533<4+gX t):gX t<4294967296:=by omega
theorem Em{o:Int}{l:qr cK}{view:qr aL}{b:qr UInt8}(h:gT o l view=.ok b)(hm:view.length<=65000):
 ∃r,b=fC++r/\r=eC (cT o l view) fJ/\uH r fJ=.ok (cT o l view,eJ (cT o l view))/\indexOf (cT o l view)=some (o,l,view)/\b.length<=65533:=by
 unfold gT at h;split at h
 ·cases h
 ·rename_i h1;split at h
  ·cases h
  ·rename_i h2;split at h
   ·cases h
   ·rename_i h3;split at h
    ·cases h
    ·rename_i h4;split at h
     ·cases h
     ·rename_i h5;cases h;have ho:o=1\/o=2:=by omega
      have hv:db 5 view=true:=by simpa using h3
      have hh:=SD (o:=o) (l:=l) ⟨by omega,by omega⟩ hv hm;refine⟨_,rfl,rfl,PY ho DF (by decide) (by simp[cT]) hh (Yy h5),abF ho ⟨by omega,by omega⟩ (by simpa using h2) hv,?_⟩;rw[aT,(wN hh)];have:fC.length=4:=rfl;omega
theorem Y4(a b:UInt8):UInt8.ofNat ((a.toNat*256+b.toNat)/256)=a/\UInt8.ofNat ((a.toNat*256+b.toNat)%256)=b:=by have hb:=b.toNat_lt;rw[(show(a.toNat*256+b.toNat)/256=a.toNat from by omega)];simp
theorem amc(m:UInt8):UInt8.ofNat ((m.toNat:Int)).toNat=m:=by simp
theorem BQ{b:UInt8}{t:qr UInt8}(h:b≠255):gx (b::t)=gx t+1:=by
 conv=>lhs;unfold gx
 grind
theorem aiE:gx [255]=0:=rfl
theorem NM(c:UInt8)(r:qr UInt8):gx (255::c::r)=if c≠0/\oN c.toNat=false then 0 else gx (c::r)+1:=by rw[gx,ay rfl]
theorem Xf:∀l:qr UInt8,gx (l.take (gx l))=gx l
 |[]=>rfl
 |b::t=>by
  have ih:=Xf t;by_cases hb:b=255
  ·subst hb;cases t with
   |nil=>rfl
   |cons c r=>
    rw[NM];by_cases hc:c≠0/\oN c.toNat=false
    ·rw[ay hc];rfl
    ·rw[aq hc,oa];have h5:c≠255:=by
      intro h5;apply hc;rw[h5];exact⟨by decide,rfl⟩
     rw[BQ h5] at ih⊢;rw[oa] at ih⊢;rw[NM,aq hc,ih]
  ·rw[BQ hb,oa,BQ hb,ih]
theorem Xq{l:qr UInt8}{s:bM}{t:qr UInt8}(h:lu true l=.more s t):lW s 216=true/\l=cV s++t:=by
 cases l with
 |nil=>cases h
 |cons x l=>
  cases l with
  |nil=>dsimp only[lu] at h;split at h<;>grind
  |cons m l=>
   dsimp only[lu] at h;split at h
   ·cases h
   ·rename_i h1;split at h
    ·cases h
    ·rename_i h2;split at h
     ·cases h
     ·rename_i h3;split at h
      ·rename_i h4;injection h with h5 h6;subst h5 h6 h4;refine⟨rfl,?_⟩;have:x=255:=qE.1 h1;subst this;rfl
      ·rename_i h4;exfalso;apply h2;rw[fI h4];rfl
theorem Xp{f:Bool}{l:qr UInt8}{s:bM}{t:qr UInt8}(h:lu f l=.last s t):lW s 217=true/\l=cV s++t:=by
 cases l with
 |nil=>cases h
 |cons x l=>
  cases l with
  |nil=>dsimp only[lu] at h;split at h<;>grind
  |cons m l=>
   dsimp only[lu] at h;split at h
   ·cases h
   ·rename_i h1;split at h
    ·cases h
    ·rename_i h2;split at h
     ·rename_i h3;injection h with h5 h6;subst h5 h6 h3;refine⟨rfl,?_⟩;have:x=255:=qE.1 h1;subst this;rfl
     ·split at h
      ·cases h
      ·split at h
       ·split at h
        ·cases h
        ·split at h
         ·cases h
         ·cases h
       ·cases h
theorem Xr{l:qr UInt8}{s:bM}{t:qr UInt8}(h:lu false l=.more s t):mX s=true/\l=cV s++t:=by
 cases l with
 |nil=>cases h
 |cons x l=>
  cases l with
  |nil=>
   dsimp only[lu] at h;split at h
   ·cases h
   ·cases h
  |cons m l=>
   dsimp only[lu] at h;split at h
   ·cases h
   ·rename_i h1;split at h
    ·cases h
    ·rename_i h2;split at h
     ·cases h
     ·rename_i h3;split at h
      ·rename_i h4;exfalso;apply h2;rw[eY h4];rfl
      ·rename_i h4;have hx:x=255:=qE.1 h1;have hm:lL (m.toNat:Int)=true:=by
        cases q:lL (m.toNat:Int) with
        |true=>rfl
        |false=>
         exfalso;apply h2;rw[q,fI h4];have:je (m.toNat:Int)=false:=by
          unfold je;rw[fI]
          rintro (e|e)
          ·exact h4 (oe.1 (by have:(216:UInt8).toNat=216:=rfl;omega))
          ·exact h3 (oe.1 (by have:(217:UInt8).toNat=217:=rfl;omega))
         rw[this];rfl
       cases l with
       |nil=>cases h
       |cons a l=>
        cases l with
        |nil=>cases h
        |cons b l=>
         dsimp only at h;split at h
         ·cases h
         ·rename_i h5;split at h
          ·cases h
          ·rename_i h6;injection h with h7 h8;have hb:=b.toNat_lt;have ha:=a.toNat_lt;have hs:=Gd ((a::b::l).drop (a.toNat*256+b.toNat));have e0:(a::b::l).drop (a.toNat*256+b.toNat)=l.drop (a.toNat*256+b.toNat -2):=by
            obtain⟨k,hk⟩:∃k,a.toNat*256+b.toNat=k+2:=⟨a.toNat*256+b.toNat -2,by omega⟩;rw[hk];rfl
           have hlen:l.length+2>=a.toNat*256+b.toNat:=by simpa using h6
           rw[e0] at hs h7 h8;have hd:((a::b::l).drop 2)=l:=rfl;rw[hd] at h7;have iO:(l.take (a.toNat*256+b.toNat -2)).length+2=a.toNat*256+b.toNat:=by rw[dE];omega
           have hal:je (m.toNat:Int)=false:=by simp only[lL,bB,uI] at hm;exact hm.2
           subst h7 h8;constructor
           ·unfold mX;simp only[hm,eV,bB,cf,sU,List.isEmpty_iff];refine⟨by omega,?_⟩;by_cases hq:m=218
            ·right;rw[ay hq];refine⟨by rw[hq];rfl,?_⟩;rw[Xf,dE];omega
            ·left;rw[aq hq];rfl
           ·unfold cV;rw[aq (by simp[hal])];simp only[iO,amc,(Y4 a b).1,(Y4 a b).2,hx,ec,eK,dM];rw[lI,lI]
theorem T9(L:Nat):∀(f:Nat)(r:qr UInt8)(l:qr bM)(e:Nat),r.length<=L->mn L f false r=.ok l e->jC l=true/\∃x,r=dt l++x/\e=L -x.length
 |0,_,_,_,_,h=>by cases h
 |f+1,r,l,e,hr,h=>by
  unfold mn at h;split at h
  ·cases h
  ·cases h
  ·rename_i s t hs;cases h;obtain⟨h1,h2⟩:=Xp hs;exact⟨h1,t,by rw[h2];simp[dt],rfl⟩
  ·rename_i s t hs;obtain⟨h1,h2⟩:=Xr hs;split at h
   ·rename_i l' e' h3;cases h;obtain⟨a,x,b,c⟩:=T9 L f t l' _ (by rw[h2] at hr;simp at hr;omega) h3;refine⟨?_,x,by rw[kN,dM,<-b,h2],c⟩;cases l' with
    |nil=>cases a
    |cons s' l'=>simp[jC,h1,a]
   ·rename_i q;rw[h] at q;exact absurd rfl (q _ _)
theorem Ua{b:qr UInt8}{l:qr bM}{e:Nat}(h:ofM b=.ok l e):mS l=true/\e<=b.length/\dt l=b.take e/\∃r,l=⟨216,[],[]⟩::r/\jC r=true:=by
 unfold ofM at h;unfold mn at h;split at h
 ·cases h
 ·cases h
 ·rename_i s t hs;obtain⟨h1,h2⟩:=Xp hs;rw[h2] at hs;have:s=⟨217,[],[]⟩:=by
   obtain⟨m,d,c⟩:=s;simp[lW] at h1;obtain⟨⟨rfl,rfl⟩,rfl⟩:=h1;rfl
  rw[this] at hs;cases hs
 ·rename_i s t hs;obtain⟨h1,h2⟩:=Xq hs;have hs0:s=⟨216,[],[]⟩:=by
   obtain⟨m,d,c⟩:=s;simp[lW] at h1;obtain⟨⟨rfl,rfl⟩,rfl⟩:=h1;rfl
  split at h
  ·rename_i l' e' h3;cases h;obtain⟨a,x,k,c⟩:=T9 b.length b.length t l' _ (by rw[h2];simp) h3;have hb:b=(cV s++dt l')++x:=by rw[dM,<-k,<-h2]
   have hl:b.length=(cV s++dt l').length+x.length:=by rw[hb,aT]
   refine⟨by simp[mS,h1,a],by omega,?_,l',by rw[hs0],a⟩;rw[kN,(show e=(cV s++dt l').length from by omega)];rw[hb,List.take_left]
  ·rename_i q;rw[h] at q;exact absurd rfl (q _ _)
def qd(m:Int):Bool:=decide (224<=m/\m<=239)
def nE(b:qr UInt8):Bool:=match ofM b with
 | .ok l e=>decide (e=b.length)&&(l.any (λs=>s.cg==218)&&l.all λs=>!qd s.cg)
 |_=>false
def nH:qr UInt8:=[69,120,105,102,0,0]
def fX:qr UInt8:=[73,67,67,95,80,82,79,70,73,76,69,0]
def iS(x:dF):Except Int (qr UInt8):=
 if iT x≠0 then .error (iT x) else if 65533<6+gX (fj x) then .error 7 else .ok (nH++eC (fj x) dC)
def Qv(b:qr UInt8):Hx dF:=
 if 65533<b.length then none else if nH.isPrefixOf b=true then(match uH (b.drop 6) dC with| .ok (t,_)=>xV t| .error _=>none) else none
theorem zZ{x:dF}{b:qr UInt8}(h:iS x=.ok b)(hm:q9 x 65000):Qv b=some x/\nH.isPrefixOf b=true/\b.length<=65533/\b=nH++eC (fj x) dC/\uH (eC (fj x) dC) dC=.ok (fj x,eJ (fj x)):=by
 unfold iS at h;split at h
 ·cases h
 ·rename_i h1;have h1:=qE.1 h1;split at h
  ·cases h
  ·rename_i h2;injection h with h;have hh:=YZ h1 hm;have hw:=PY (tw h1).1 Ki (by decide) (by simp[fj]) hh (by omega);have hl:b.length<=65533:=by rw[<-h,aT,(wN hh)];have:nH.length=6:=rfl;omega
   refine⟨?_,(by rw[<-h];rw[pY];exact rI _ _),hl,h.symm,hw⟩;unfold Qv;rw[aq (by omega),<-h];have:(nH++eC (fj x) dC).drop 6=eC (fj x) dC:=rfl;rw[this,hw];exact Ub h1
def gp(b:qr UInt8):qr (qr UInt8):=if b.length=0 then[] else[fX++1::1::b]
structure nv where
 aC:dF
 bZ:List UInt8
 core:List UInt8
 cy:List UInt8
 at_:Nat
 cJ:Nat
def Ai(b:qr UInt8):qr bM:=match ofM b with
 | .ok l _=>l
 |_=>[]
def jB(x:nv)(aO:qr UInt8):qr bM:=
 ⟨216,[],[]⟩::⟨225,aO,[]⟩::((if x.cy.length=0 then[] else[⟨226,x.cy,[]⟩])++((gp x.bZ).map (λc=>⟨226,c,[]⟩)++(Ai x.core).tail))
theorem DJ{b:qr UInt8}(h:nE b=true):∃r,ofM b=.ok (⟨216,[],[]⟩::r) b.length/\Ai b=⟨216,[],[]⟩::r/\jC r=true/\dt (⟨216,[],[]⟩::r)=b/\(∃s∈r,s.cg=218)/\∀s∈r,qd s.cg=false:=by
 unfold nE at h;split at h
 ·rename_i l e q;simp at h;obtain⟨h1,⟨s,hs,hm⟩,h3⟩:=h;obtain⟨a,b1,c,r,hr,hmid⟩:=Ua q;subst hr;refine⟨r,by rw[q,h1],by unfold Ai;rw[q],hmid,by rw[c,h1,oY],?_,λs hs=>h3 s (by grind)⟩
  grind
 grind
theorem Lg{s:bM}{l:qr bM}(h:mX s=true)(hl:jC l=true):jC (s::l)=true:=by
 cases l with
 |nil=>cases hl
 |cons s' l=>simp[jC,h,hl]
theorem MR{m:Int}{d:qr UInt8}(hm:m=225\/m=226)(h:d.length<=65533):mX ⟨m,d,[]⟩=true:=by
 unfold mX;rcases hm with rfl|rfl
 ·simp;exact⟨rfl,h⟩
 ·simp;exact⟨rfl,h⟩
theorem QX{b c:qr UInt8}(hb:b.length<=65519)(h:c∈gp b):c.length<=65533:=by
 unfold gp at h;split at h
 ·grind
 ·rw[nj.1 h];have:fX.length=12:=rfl
  grind
theorem KM{x:nv}{aO:qr UInt8}(hc:nE x.core=true)(hcam:aO.length<=65533)(hi:x.bZ.length<=65519)(hm:x.cy.length<=65533):mS (jB x aO)=true:=by
 obtain⟨r,-,h1,h2,-⟩:=DJ hc;unfold jB;rw[h1];refine Lg (MR (.inl rfl) hcam) ?_;have k:jC ((gp x.bZ).map (λc=>⟨226,c,[]⟩)++r)=true:=by
  have hl:=λc=>QX (c:=c) hi;generalize gp x.bZ=cs at hl⊢;induction cs with
  |nil=>grind
  |cons c cs ih=>exact Lg (MR (.inr rfl) (hl c (by simp))) (ih λc hc=>hl c (by grind))
 split
 ·grind
 ·exact Lg (MR (.inr rfl) hm) k
def eR(x:nv)(aO:qr UInt8):qr UInt8:=dt (jB x aO)
structure xb(x:nv)(aO:List UInt8):Prop where
 app:iS x.aC=.ok aO
 rows:q9 x.aC 65000
 bZ:x.bZ.length<=65519
 core:nE x.core=true
 cy:x.cy.length=0\/(fC.isPrefixOf x.cy=true/\x.cy.length<=65533)
theorem al7(l:qr UInt8)(o:Int):iY l 1 o=l:=by
 unfold iY;split
 ·refine rH λi=>?_;by_cases h:i<l.length
  ·rw[C0 _ _ _ _ h,ay h];simp[Nat.mod_one,h]
  ·rw[kQ (by rw[pR];omega),kQ (by omega)]
 ·rfl
theorem Be{n:Nat}(h:2<=n/\16*n<=65536):bQ 7 ((16*n:Nat):Int)=16*n:=by
 have e:jk 7 ((16*n:Nat):Int)=((16*n:Nat):Int):=by unfold jk;rw[aq (by omega),show(kindOf 7).1 =1 from rfl];omega
 unfold bQ;rw[e,ay (by omega)];omega
theorem abJ(o:Int){n:Nat}(h:2<=n/\16*n<=65536)(e:Nat):∃E,∀l:qr cK,l.length=n->eu o e [⟨45056,7,4,[48,49,48,48]⟩,⟨45057,4,1,eE l.length 4⟩,⟨45058,7,((16*l.length:Nat):Int),l.flatMap (dV o)⟩]=E:=
 ⟨_,λl hl=>by simp only[hl,eu,show bQ 7 4=0 from rfl,show bQ 4 1=0 from rfl,dW,Be h];rw[aq (by omega)]⟩
theorem SF(o:Int){n:Nat}(h:2<=n/\16*n<=65536)(e:Nat)(l:qr cK)(hl:l.length=n):gI o e [⟨45056,7,4,[48,49,48,48]⟩,⟨45057,4,1,eE l.length 4⟩,⟨45058,7,((16*l.length:Nat):Int),l.flatMap (dV o)⟩]=dU e++l.flatMap (dV o):=by
 simp only[hl,gI,show bQ 7 4=0 from rfl,show bQ 4 1=0 from rfl,dW,Be h];rw[aq (by omega),ea]
 congr 1
 exact al7 _ o
theorem abG(o:Int){n:Nat}(h:2<=n/\16*n<=65536)(view:qr aL):∃A B,∀l:qr cK,l.length=n->eC (cT o l view) fJ=A++(l.flatMap (dV o)++B):=by
 obtain⟨E,hE⟩:=abJ o h (aI 8+(6+12*3));have hend:∀(l:qr cK),l.length=n->bE 8 (fe o l)=aI (aI 8+(6+12*3))+16*n:=by intro l hl;unfold fe bE eA;simp only[bF,bW,List.length_nil,cm,dW,cq,hl,show bQ 7 4=0 from rfl,show bQ 4 1=0 from rfl,Be h];rw[aq (by omega)]
 suffices H:∃X Y,∀l:qr cK,l.length=n->eC (cT o l view) fJ=X++(dU (aI 8+(6+12*3))++(l.flatMap (dV o)++Y)) by obtain⟨X,Y,H⟩:=H;exact⟨X++dU (aI 8+(6+12*3)),Y,λl hl=>by rw[H l hl,dM]⟩
 refine⟨(if o=1 then[73,73] else[77,77])++(bc 42 2 o++(bc 8 4 o++(dU 8++kG o (gu E) (pG 8 (fe o (List.replicate n ⟨0,0,0,0,0⟩)) (if view.length=0 then[] else[.mk view .nil []]))))),chainB o fJ 1 (aI (aI 8+(6+12*3))+16*n) (if view.length=0 then[] else[.mk view .nil []]),λl hl=>?_⟩;unfold eC cT;have hd:=hend l hl;have hd':=hend (List.replicate n ⟨0,0,0,0,0⟩) (by simp);simp only[chainB,pG,hd,hd'];unfold fe;simp only[jf,jM,iB,hM,eA,bF,bW,List.length_nil,cm,dW,ea,dM];rw[hE l hl,SF o h _ l hl];simp only[dM];rfl
theorem aby(o:Int){n:Nat}(h:2<=n/\16*n<=65536)(view:qr aL):∃N,∀l:qr cK,l.length=n->gX (cT o l view)=N:=by
 refine⟨eG (aI (aI 8+(6+12*3))+16*n) (if view.length=0 then[] else[.mk view .nil []]),λl hl=>?_⟩;unfold gX cT;rw[eG]
 congr 1
 unfold fe bE eA;simp only[bF,bW,List.length_nil,cm,dW,cq,hl,show bQ 7 4=0 from rfl,show bQ 4 1=0 from rfl,Be h];rw[aq (by omega)]
theorem KR{o:Int}{l:qr cK}{view:qr aL}{b:qr UInt8}(h:gT o l view=.ok b):b=fC++eC (cT o l view) fJ/\2<=l.length/\16*l.length<=65536/\l.all km=true:=by
 unfold gT at h
 repeat(split at h;· cases h)
 injection h with h;exact⟨h.symm,by omega,by omega,by simp_all⟩
theorem abK(o:Int){l:qr cK}(h:2<=l.length/\16*l.length<=65536)(view:qr aL):∃S,eJ (cT o l view)=⟨1,-1,0,0,8⟩::⟨2,0,0,8,42⟩::⟨3,0,45058,50,16*l.length⟩::S:=by unfold eJ cT fe;simp only[jn,ga,dr,bF,bW,List.length_nil,cm,show bQ 7 4=0 from rfl,show bQ 4 1=0 from rfl,dW,Be h];rw[aq (by omega)];exact⟨_,rfl⟩
theorem abH(o:Int){l:qr cK}(h:2<=l.length/\16*l.length<=65536)(view:qr aL):∃A B,A.length=50/\eC (cT o l view) fJ=A++(l.flatMap (dV o)++B):=by
 have hE:∀e,(eu o e [⟨45056,7,4,[48,49,48,48]⟩,⟨45057,4,1,eE l.length 4⟩,⟨45058,7,((16*l.length:Nat):Int),l.flatMap (dV o)⟩]).length=3:=λe=>rT ..;unfold eC cT;simp only[chainB];generalize pG 8 (fe o l) _=nx;unfold fe;simp only[jf,jM,iB,hM,eA,bF,bW,List.length_nil,cm,dW,ea,dM];rw[SF o h _ l rfl];simp only[dM];generalize chainB _ _ _ _ _=B;refine⟨(if o=1 then[73,73] else[77,77])++(bc 42 2 o++(bc 8 4 o++(dU 8++(kG o (gu (eu o (aI 8+(6+12*(0+1+1+1+0+0))) [⟨45056,7,4,[48,49,48,48]⟩,⟨45057,4,1,eE l.length 4⟩,⟨45058,7,((16*l.length:Nat):Int),l.flatMap (dV o)⟩])) nx++dU (aI 8+(6+12*(0+1+1+1+0+0))))))),B,?_,?_⟩
 ·have q:=JM o (gu (eu o (aI 8+(6+12*(0+1+1+1+0+0))) [⟨45056,7,4,[48,49,48,48]⟩,⟨45057,4,1,eE l.length 4⟩,⟨45058,7,((16*l.length:Nat):Int),l.flatMap (dV o)⟩])) nx;rw[xM,hE] at q;have p1:(dU 8).length=0:=rfl;have p2:(dU (aI 8+(6+12*(0+1+1+1+0+0)))).length=0:=rfl;simp only[aT,eI,q,p1,p2];split<;>rfl
 ·simp only[dM]
theorem abC(x:nv)(aO:qr UInt8)(h:x.cy.length≠0):∃A B,A.length=aO.length+10/\eR x aO=A++(x.cy++B):=by
 refine⟨cV ⟨216,[],[]⟩++(cV ⟨225,aO,[]⟩++[255,UInt8.ofNat (226:Int).toNat,UInt8.ofNat ((x.cy.length+2)/256),UInt8.ofNat ((x.cy.length+2)%256)]),dt ((gp x.bZ).map (λc=>⟨226,c,[]⟩)++(Ai x.core).tail),?_,?_⟩
 ·have a1:(cV ⟨216,[],[]⟩).length=2:=rfl;have a2:(cV ⟨225,aO,[]⟩).length=aO.length+4:=by
   rw[show cV ⟨225,aO,[]⟩=[255,UInt8.ofNat (225:Int).toNat,UInt8.ofNat ((aO.length+2)/256),UInt8.ofNat ((aO.length+2)%256)]++aO++[] from rfl];simp
  simp only[aT,a1,a2,bW,List.length_nil];omega
 ·unfold eR jB;rw[aq h,kN,kN,List.singleton_append,kN];rw[show cV ⟨226,x.cy,[]⟩=[255,UInt8.ofNat (226:Int).toNat,UInt8.ofNat ((x.cy.length+2)/256),UInt8.ofNat ((x.cy.length+2)%256)]++x.cy++[] from rfl];simp only[dM,eK]
namespace Lt
section
open Tryz
def ints(t:Nat):Bool:=[3,36].any (Nat.beq t)
theorem abV:∀t,ints t=true->C9 Tryz.prog t:=by
 intro t h;have h:t∈([3,36]:qr Nat):=by unfold ints at h;rw[List.any_eq_true] at h;obtain⟨x,hx,e⟩:=h;rw[bX e];exact hx
 simp only[cZ,nk,nr] at h;rcases h with rfl|rfl
 ·exact⟨⟨_,Tryz.underlying3⟩,Tryz.t3,AG Tryz.type3,by kernel_rfl⟩
 ·exact⟨⟨_,Tryz.underlying36⟩,Tryz.t36,AG Tryz.type36,by kernel_rfl⟩
structure TE where
 t:Nat
 i:jw
 h:Qe Tryz.prog t i
noncomputable def tx{t:Nat}{n:TypeInfo}{d:TypeDesc}(h:Tryz.prog.types[t]? =some n)(u:Tryz.prog.underlying t=some d):TE:=
 ⟨t,⟨d,n.size,n.bytes,n.zero,false,[]⟩,u,⟨n,AG h,rfl,rfl,λ_ h=>h⟩,λh=>by cases h⟩
noncomputable def tn{t:Nat}{n:TypeInfo}{d:TypeDesc}(h:Tryz.prog.types[t]? =some n)(u:Tryz.prog.underlying t=some d):TE:=
 ⟨t,⟨d,n.size,n.bytes,none,false,[]⟩,u,⟨n,AG h,rfl,rfl,λ_ h=>by cases h⟩,λh=>by cases h⟩
noncomputable def tf{t:Nat}{n:TypeInfo}{d:TypeDesc}(h:Tryz.prog.types[t]? =some n)(u:Tryz.prog.underlying t=some d)(e:Tryz.prog.eqGuardType Tryz.prog.depth t=false)(s:Tryz.prog.stoodInHeld t=false:=by kernel_rfl)
 (f:Kq ints n.size d=true:=by kernel_rfl):TE:=
 ⟨t,⟨d,n.size,n.bytes,n.zero,true,[]⟩,u,⟨n,AG h,rfl,rfl,λ_ h=>h⟩,λ_=>⟨e,s,aa3 abV f⟩⟩
structure FE where
 n:Nat
 f:Func
 h:Tryz.prog.funcs[n]? =some f/\(f.name== "runtime.NumGoroutine")=false/\f.body.isSome=true
noncomputable def fx{n:Nat}{f:Func}(h:Tryz.prog.funcs[n]? =some f)(k:(f.name== "runtime.NumGoroutine")=false:=by kernel_rfl)(b:f.body.isSome=true:=by kernel_rfl):FE:=⟨n,f,h,k,b⟩
noncomputable def tl:qr TE:=[tx type0 underlying0,tx type1 underlying1,tx type3 underlying3,tx type4 underlying4,tx type5 underlying5,tx type9 underlying9,tx type20 underlying20,tx type22 underlying22,tx type24 underlying24,tx type25 underlying25,tx type26 underlying26,tx type28 underlying28,tx type30 underlying30,tx type35 underlying35,tx type36 underlying36,tx type37 underlying37,tx type41 underlying41,tx type43 underlying43,tx type44 underlying44,tx type47 underlying47,tx type48 underlying48,tx type50 underlying50,tx type52 underlying52,tx type53 underlying53,tx type56 underlying56,tx type57 underlying57,tx type70 underlying70,tx type72 underlying72,tx type73 underlying73,tx type77 underlying77,tx type78 underlying78,tx type83 underlying83,tx type84 underlying84,tf type97 underlying97 eqGuardType97,tx type98 underlying98,tx type99 underlying99,tx type103 underlying103,tx type105 underlying105,tx type107 underlying107,tx type109 underlying109,tx type112 underlying112,tx type113 underlying113,tx type115 underlying115,tx type117 underlying117,tx type119 underlying119,tx type121 underlying121,tx type123 underlying123,tx type125 underlying125,tx type128 underlying128,tx type129 underlying129,tx type132 underlying132,tx type134 underlying134,tx type136 underlying136,tx type138 underlying138,tx type142 underlying142,tx type159 underlying159,tx type160 underlying160,tx type163 underlying163,tx type166 underlying166,tx type167 underlying167,tx type168 underlying168,tx type173 underlying173,tx type174 underlying174,tx type176 underlying176,tx type179 underlying179,tx type181 underlying181,tx type182 underlying182,tx type185 underlying185,tx type186 underlying186,tx type189 underlying189,tx type192 underlying192,tx type194 underlying194,tx type198 underlying198,tx type199 underlying199,tx type203 underlying203,tx type205 underlying205,tx type207 underlying207,tx type209 underlying209,tx type210 underlying210,tx type212 underlying212,tx type215 underlying215,tx type217 underlying217,tx type218 underlying218,tx type219 underlying219,tx type221 underlying221,tx type223 underlying223,tx type229 underlying229,tx type230 underlying230,tx type232 underlying232,tx type233 underlying233,tx type245 underlying245,tx type259 underlying259,tx type261 underlying261,tx type266 underlying266,tx type269 underlying269,tf type271 underlying271 eqGuardType271,tx type272 underlying272,tx type273 underlying273,tx type275 underlying275,tx type278 underlying278,tx type280 underlying280,tx type283 underlying283,tx type286 underlying286,tx type288 underlying288,tx type289 underlying289,tx type291 underlying291,tx type293 underlying293,tx type295 underlying295,tx type300 underlying300,tx type301 underlying301,tx type303 underlying303,tf type304 underlying304 eqGuardType304,tf type307 underlying307 eqGuardType307,tx type311 underlying311,tf type314 underlying314 eqGuardType314,tx type325 underlying325,tx type327 underlying327,tf type331 underlying331 eqGuardType331,tx type334 underlying334,tx type340 underlying340,tx type346 underlying346,tx type348 underlying348,tx type349 underlying349,tx type352 underlying352,tx type354 underlying354,tx type356 underlying356,tx type361 underlying361,tx type365 underlying365,tx type366 underlying366,tx type368 underlying368,tx type377 underlying377,tf type385 underlying385 eqGuardType385,tx type386 underlying386,tx type388 underlying388,tx type394 underlying394,tx type395 underlying395,tx type397 underlying397,tx type399 underlying399,tx type400 underlying400,tf type402 underlying402 eqGuardType402,tx type404 underlying404,tf type406 underlying406 eqGuardType406,tx type413 underlying413,tf type415 underlying415 eqGuardType415,tx type417 underlying417,tx type418 underlying418,tx type422 underlying422,tx type424 underlying424,tx type425 underlying425,tx type426 underlying426,tx type429 underlying429,tx type433 underlying433,tx type435 underlying435,tx type437 underlying437,tx type438 underlying438,tf type440 underlying440 eqGuardType440,tx type441 underlying441,tx type443 underlying443,tx type446 underlying446,tx type456 underlying456,tx type458 underlying458,tx type460 underlying460,tf type463 underlying463 eqGuardType463,tf type464 underlying464 eqGuardType464,tf type465 underlying465 eqGuardType465,tx type467 underlying467,tx type472 underlying472,tx type473 underlying473,tx type479 underlying479,tx type481 underlying481,tx type482 underlying482,tx type483 underlying483,tx type486 underlying486,tx type493 underlying493,tx type498 underlying498,tx type502 underlying502,tx type506 underlying506,tx type517 underlying517,tx type522 underlying522,tx type524 underlying524,tx type545 underlying545]
noncomputable def fl:qr FE:=[fx func13,fx func18,fx func19,fx func20,fx func22,fx func23,fx func24,fx func25,fx func26,fx func29,fx func30,fx func31,fx func37,fx func40,fx func41,fx func42,fx func43,fx func44,fx func45,fx func52,fx func54,fx func57,fx func58,fx func59,fx func60,fx func61,fx func62,fx func63,fx func64,fx func65,fx func66,fx func67,fx func68,fx func70,fx func74,fx func75,fx func76,fx func77,fx func78,fx func79,fx func80,fx func81,fx func87,fx func90,fx func91,fx func92,fx func93,fx func94,fx func95,fx func96,fx func97,fx func98,fx func99,fx func104,fx func105,fx func106,fx func107,fx func108,fx func109,fx func110,fx func111,fx func112,fx func113,fx func114,fx func115,fx func116,fx func117,fx func118,fx func119,fx func120,fx func121,fx func122,fx func123,fx func124,fx func125,fx func126,fx func127,fx func128,fx func129,fx func130,fx func131,fx func132,fx func133,fx func134,fx func135,fx func136,fx func138,fx func139,fx func140,fx func141,fx func142,fx func143,fx func144,fx func145,fx func148,fx func149,fx func150,fx func154,fx func155,fx func156,fx func157,fx func158,fx func159,fx func160,fx func161,fx func162,fx func163,fx func164,fx func165,fx func166,fx func167,fx func168,fx func169,fx func170,fx func171,fx func172,fx func173,fx func174,fx func175,fx func176,fx func177,fx func178,fx func179,fx func180,fx func181,fx func182,fx func183,fx func184,fx func185,fx func186,fx func187,fx func188,fx func189,fx func190,fx func191,fx func192,fx func193,fx func194,fx func195,fx func196,fx func197,fx func198,fx func199,fx func200,fx func201,fx func202,fx func203,fx func204,fx func207,fx func208,fx func209,fx func210,fx func216,fx func217,fx func218,fx func219,fx func220,fx func221,fx func222,fx func223,fx func224,fx func225,fx func226,fx func227,fx func228,fx func229,fx func230,fx func231,fx func232,fx func233,fx func234,fx func235,fx func236,fx func237,fx func238,fx func239,fx func240,fx func241,fx func242,fx func243,fx func244,fx func245,fx func246,fx func247,fx func248,fx func249,fx func250,fx func251,fx func252,fx func253,fx func254,fx func255,fx func256,fx func257,fx func258,fx func259,fx func260,fx func261,fx func262,fx func263,fx func264,fx func265,fx func266,fx func267,fx func268,fx func269,fx func270,fx func271,fx func272,fx func273,fx func274,fx func275,fx func276,fx func277,fx func278,fx func279,fx func280,fx func281,fx func286,fx func293,fx func294,fx func295,fx func299,fx func300,fx func301,fx func302,fx func303,fx func304,fx func305,fx func306,fx func307,fx func308,fx func309,fx func310,fx func311,fx func312,fx func313,fx func314,fx func315,fx func316,fx func317,fx func318,fx func319,fx func320,fx func321,fx func322,fx func323,fx func324,fx func325,fx func326,fx func327,fx func328,fx func329,fx func330,fx func331,fx func332,fx func333,fx func334,fx func335,fx func336,fx func337,fx func338,fx func339,fx func340,fx func341,fx func342,fx func343,fx func344,fx func345,fx func346,fx func347,fx func348,fx func349,fx func350,fx func351,fx func352,fx func353,fx func354,fx func355,fx func361,fx func362,fx func363,fx func364,fx func365,fx func366,fx func367,fx func368,fx func369,fx func370,fx func371,fx func372,fx func373,fx func374,fx func375,fx func376,fx func377,fx func378,fx func379,fx func380,fx func381,fx func382,fx func383,fx func384,fx func385,fx func386,fx func387,fx func388,fx func389,fx func390,fx func391,fx func392,fx func393,fx func394,fx func395,fx func396,fx func397,fx func398,fx func399,fx func400,fx func401,fx func402,fx func403,fx func404,fx func405,fx func406,fx func407,fx func408,fx func409,fx func410,fx func411,fx func412,fx func413,fx func414,fx func415,fx func416,fx func417,fx func418,fx func419,fx func428,fx func429,fx func430,fx func431,fx func434,fx func435,fx func436,fx func437,fx func438,fx func439,fx func440,fx func441,fx func442,fx func443,fx func444,fx func445,fx func446,fx func447,fx func448,fx func449,fx func450,fx func451,fx func452,fx func453,fx func454,fx func455,fx func456,fx func457,fx func458,fx func459,fx func460,fx func461,fx func462,fx func463,fx func464,fx func465,fx func466,fx func467,fx func468,fx func469,fx func470,fx func471,fx func472,fx func473,fx func474,fx func478,fx func479,fx func480,fx func481,fx func482,fx func483,fx func484,fx func485,fx func486,fx func487,fx func488,fx func489,fx func490,fx func491,fx func492,fx func494,fx func495,fx func496,fx func497,fx func498,fx func499]
noncomputable def alW:TT:=tT (tl.map λe=>(e.t,e.i))
noncomputable def alV:FT:=tT (fl.map λe=>(e.n,e.f))
noncomputable def na:eL:=⟨alW,alV⟩
theorem pP:iR Tryz.prog na:=alX rfl rfl
 (λp hp=>by obtain⟨e,_,rfl⟩:=mF.1 hp;exact e.h) (λp hp=>by obtain⟨e,_,rfl⟩:=mF.1 hp;exact e.h)
def qfs:qr Nat:=[397,317,193,181,254,255,249,239,94,267,144,130,262,398,367,81,369,318,317,142,246,269,443,258,458,231,429,444,200,178,241,312,313,240,388,330,307,389,245,162,226,300,224,167,31,148,492,210,147,474,89,414,415,470,417,71,82,102,91]
noncomputable instance:QF:=⟨λn=>List.any qfs (Nat.beq n)⟩
theorem mixed:Tryz.prog.follows .mixedOrders=true:=Tryz.checked.mixed
end
abbrev bI(m:Nat->Nat->Hx H1):=PW (aN m)
abbrev P6(P:Program)(g:FuncId)(us:qr H1)(pv:H1):Prop:=xc P g us λm v=>aN m pv v
theorem cS.mk{P:Program}{g:FuncId}{avt:qr VT}{rvt:VT}{Sh:Fn (VT.fw avt) (Hx (bO rvt.ks))}
 (H:∀ls r,iM (VT.fw avt) Sh ls=some r->fE ls->∀us,fV avt ls=some (us,[])->fE (gS rvt.ks r)/\∃pv,kb rvt (gS rvt.ks r)=some (pv,[])/\P6 P g us pv):cS P g avt rvt Sh:=λls r e lo us hu m args' w K A=>by
 obtain⟨h1,pv,h2,h3⟩:=H ls r e lo us hu;exact(h3 m args' w K A).mono λx w' ⟨v,a,b,c⟩=>⟨v,a,b,pv,h2,h1,c⟩
def KW:H1->Bool
 | .func (.via _ _ 7 _) _ _=>true
 |_=>false
theorem Ew{w:jp}{b i:Nat}{v:H1}(ht:KW v=false)(h:fP w b i=some v):w.cell? ⟨b,i,none⟩=some v:=by
 unfold fP at h;split at h
 ·cases h;cases ht
 grind
abbrev gD(v:H1):Prop:=bh [v]=true
theorem bI.length{m:Nat->Nat->Hx H1}{xs ys:qr H1}(h:bI m xs ys):xs.length=ys.length:=h.1
theorem bI.get{m:Nat->Nat->Hx H1}{xs ys:qr H1}(h:bI m xs ys){i:Nat}{x:H1}(e:xs[i]? =some x):∃y,ys[i]? =some y/\aN m x y:=PW.get h e
theorem aN.TY{m:Nat->Nat->Hx H1}{v v':H1}(h:aN m v v'):KW v'=false:=by cases h<;>rfl
theorem aN.fn0{m:Nat->Nat->Hx H1}{f:FuncId}:aN m (.func (.func f) #[] #[]) (.func (.func f) #[] #[]):=.fn rfl (λi x y h=>by simp at h) rfl λi x y h=>by simp at h
theorem aN.row{m:Nat->Nat->Hx H1}{n c:Nat}{cs ys:qr H1}{a:Addr}(r:bI m cs ys)(hm:∀(i:Nat) y,ys[i]? =some y->m a.block (a.off+i)=some y)(hs:a.spot=none)(hn:n<=c)(ho:bh cs=true):aN m (ae n cs) (.slice (some a) n c):=.lC r.1 r.2 hm hs hn ho
theorem aN.Lr{m:Nat->Nat->Hx H1}{xs ys:qr H1}(h:bI m xs ys):aN m (.agg ⟨xs⟩) (.agg ⟨ys⟩):=.agg h.1 h.2
def rD:qr H1->Hx (qr Int)
 |[]=>some []
 | .int .u8 b::l=>ob (rD l) λxs=>some (b::xs)
 |_=>none
theorem Y9:∀{l:qr H1}{xs:qr Int},rD l=some xs->xs.length=l.length/\∀i,i<xs.length->l[i]? =some (.int .u8 (xs.getD i 0))
 |[],_,e=>by cases e;exact⟨rfl,λi h=>by simp at h⟩
 |v::l,xs,e=>by
  unfold rD at e;split at e
  ·rename_i q;cases q
  ·rename_i b l' q;cases q;replace e:=ax e;obtain⟨ys,h1,e⟩:=e;cases e;obtain⟨k1,k2⟩:=Y9 h1;refine⟨by simp[k1],λi h=>?_⟩;cases i with
   |zero=>simp
   |succ i=>simp at h;simpa using k2 i h
  ·cases e
def jY{β:Type}(x:H1)(K:qr Int->Hx β):Hx β:=match x with
 | .func (.via n _ 0 true) cs _=>cond (Nat.ble n cs.toList.length) (ob (rD (cs.toList.take n)) K) none
 |_=>none
theorem xq{β:Type}{m:Nat->Nat->Hx H1}{w:jp}(hm:Kn m w){x v:H1}{K:qr Int->Hx β}{b:β}(e:jY x K=some b)(h:aN m x v):
 ∃(xs:qr Int),K xs=some b/\((∃a c,v=.slice (some a) xs.length c/\xs.length<=c/\∀i,i<xs.length->w.cell? (a.add i)=some (.int .u8 (xs.getD i 0)))\/(xs=[]/\∃c,v=.slice none 0 c)):=by
 unfold jY at e;split at e
 case h_2=>cases e
 rename_i n p cs ys;obtain⟨e1,e2⟩:=bd e;clear e;have e1:=ed e1;replace e2:=ax e2;obtain⟨xs,h1,h2⟩:=e2;obtain⟨k1,k2⟩:=Y9 h1;have hl:xs.length=n:=by rw[k1,dE];omega
 refine⟨xs,h2,?_⟩;cases h with
 |lC r1 r2 q hs hn ho=>
  have r:bI m cs.toList _:=⟨r1,r2⟩;rename_i c a zs;subst hl;refine .inl ⟨a,c,rfl,hn,λi hi=>?_⟩;have h3:=k2 i hi;have h4:cs.toList[i]? =some (.int .u8 (xs.getD i 0)):=by rw[<-h3,zJ hi]
  obtain⟨y,y1,y2⟩:=r.get h4;cases y2;have h5:=Ew rfl (hm _ _ _ (q i _ y1));rw[<-h5];obtain⟨blk,off,sp⟩:=a;have hs:sp=none:=hs;subst hs;unfold Addr.add;split
  ·rename_i h0;subst h0;rfl
  ·rfl
 |@gy c a=>
  have:xs=[]:=kP hl;subst this;rcases a with _|a
  ·exact .inr ⟨rfl,c,rfl⟩
  ·exact .inl ⟨a,c,rfl,ib _,λi hi=>by simp at hi⟩
end Lt
section
open Go.RowKit Go.Shelf
variable{n:Nat} {P:Program}
def iX(fn:FuncId)(tmps:Array H1)(ps:Array Tmp)(assign body:Code)(D:Nat)(st:LoopState):Loop:={state:=st,pending:=none,fn,tmps,params:=ps,assign,body,defers:=D}
theorem FJ{l D:Nat}{fn:FuncId}{tmps:Array H1}{ps:Array Tmp}{assign body:Code}{args:Array H1}{W:jp}{R:jp->Prop}(hl:W.heap[l]? =some (.loop (iX fn tmps ps assign body D .ready)))(hps:args.size=ps.size)
 (h:assign.wpIn (Fence.wide.inRound l) n P (Exit.then (λa' Wa=>Wa.heap[l]? =some (.loop (iX fn tmps ps assign body D .ready))/\
  body.wpIn (Fence.wide.inRound l) n P (Exit.then (λ_ W3=>W3.heap[l]? =some (.loop (iX fn tmps ps assign body D .busy))/\R (W3.putObj l (.loop (iX fn tmps ps assign body D .ready)))) (λ_ _ _=>False)) a' (Wa.putObj l (.loop (iX fn tmps ps assign body D .busy)))) (λ_ _ _=>False))
  {tmps:=(ps.zip args).foldl (λt (p,v)=>t.setIfInBounds p v) tmps,defers:=[]} W):
 YieldAt Fence.wide n P l args W λe W'=>e=.returned (.bool true)/\R W':=by
 refine⟨fn,_,assign,body,run_yield (P:=P) (args:=args) hl hps,roundIn_of_wpIn trivial (wpIn_mono h ?_)⟩
 rintro (_|_|_|_|_|_) a' Wa q
 case normal=>
  obtain⟨q1,q2⟩:=q;refine⟨_,run_beginRound q1 rfl,wpIn_mono q2 ?_⟩
  rintro (_|_|_|_|_|_) a3 W3 r
  case normal=>exact⟨_,_,run_endRound none r.1,rfl,r.2⟩
  all_goals exact r.elim
 all_goals exact q.elim
theorem Bw{g:Operand}{ps:Array Tmp}{assign body:Code}{Q:Exit->Act->jp->Prop}{a:Act}{w:jp}{gf:Nat}{lb:Array H1}(hg:a.eval g=.func (.func gf) #[] lb)(eg:∀args w,(callFunc gf args).run P w=.ok (.enter gf args) w)
 (h:∀fn W1,W1=(w.alloc (.deferred (some []))).alloc (.loop (iX fn a.tmps ps assign body w.heap.size .ready))->
  Calls P gf (#[.func (.yield (w.heap.size+1)) #[] #[]]++lb) W1 λe W2=>(∃v,e=.returned v)/\W2.heap[w.heap.size+1]? =some (.loop (iX fn a.tmps ps assign body w.heap.size .ready))/\
   Q .normal {a with defers:={target:=.collected w.heap.size,args:=#[]}::a.defers} (W2.putObj (w.heap.size+1) (.loop (iX fn a.tmps ps assign body w.heap.size .exhausted)))):
 (Code.rangeFunc g ps assign body).wpIn Fence.wide n P Q a w:=by
 refine wpIn_rangeFunc ?_;intro fn _;obtain⟨W1,hW⟩:∃W1,W1=(w.alloc (.deferred (some []))).alloc (.loop (iX fn a.tmps ps assign body w.heap.size .ready)):=⟨_,rfl⟩;refine⟨w.heap.size+1,_,W1,{target:=.fn (.func gf) lb,args:=#[.func (.yield (w.heap.size+1)) #[] #[]]},W1,gf,#[.func (.yield (w.heap.size+1)) #[] #[]]++lb,W1,hW▸run_enterLoop_outer _ _ _ _ _,?_,λ_ _=>trivial,?_,?_,?_⟩
 ·simp only[resolve,hg];simp[go_sem]
 ·simp[invoke,go_sem,eg]
 ·intro q;exact absurd q (by simp[Fence.wide])
 ·refine callsIn_wide.2 ((h fn W1 hW).mono ?_)
  rintro e W2 ⟨⟨v,rfl⟩,h1,h2⟩
  exact⟨none,_,run_endLoop h1 (by simp[iX]),h2⟩
end
end Go.Proofs.YtcfjfbeadhnknaaGreatDoor

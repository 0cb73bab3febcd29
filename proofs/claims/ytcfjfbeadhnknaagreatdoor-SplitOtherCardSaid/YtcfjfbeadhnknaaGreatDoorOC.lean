import Derived.Recover
import Derived.Still
import Derived.Laws.BitsLemmas
import Derived.Test.YtcfjfbeadhnknaaGreatDoorChecked
import Derived.KernelRfl
import Derived.Eval
import Derived.RangeFuncNested
import Derived.RangeFuncBound
import Derived.RangeFuncCalls
import Derived.RangeFuncLeaves
import Derived.Shelf.Abstract
import Derived.Shelf.RegionOpen
import Derived.WalkKit
import Derived.OwnWalkIn
import Derived.TacticsInMore
import Derived.LoopNIn
import Derived.LoopIn
import Derived.Test.YtcfjfbeadhnknaaGreatDoorOB
namespace Go.Proofs.YtcfjfbeadhnknaaGreatDoor
set_option linter.unusedVariables false
set_option linter.unusedSimpArgs false
set_option linter.unusedSectionVars false
set_option linter.constructorNameAsVariable false
set_option maxRecDepth 100000
namespace Lt
section
variable{β:Type}
structure HT where
 n:Nat
 ti:cL
 an:Nat
 to:cL
theorem A6{t:cL}{ls:H1 bq}{st:St}(e:iy t ls=some st):st.sx=t.sx:=by
 obtain⟨p,h1,e⟩:=ax e;obtain⟨q,h2,e⟩:=ax e
 grind
def uB(t:cL):VT:=match t.Ip with
 |(_,v)::_=>v
 |[]=>.b
def Ft:Nat->VT->Bool
 |0,_=>false
 |f+1,t=>match t with
  | .agg l=>l.all (Ft f)
  | .aH l=>l.all (Ft f)
  | .i _=>true
  | .b=>true
  | .s=>true
  | .v=>true
  |_=>false
def xJ:Nat->SV->H1 Nat
 |0,_=>[]
 |f+1,x=>match x with
  | .agg l=>l.flatMap (xJ f)
  | .aH l=>l.flatMap (xJ f)
  | .gr id _=>[id]
  |_=>[]
def uD(h:Tr SO):H1 Nat->Tr SO
 |[]=>.nil
 |i::l=>match h.get i with
  |some s=>(uD h l).set i s
  |none=>uD h l
def vi(h:Tr SO):H1 Nat->Tr SO
 |[]=>h
 |i::l=>(vi h l).del i
theorem CW{h:Tr SO}{i:Nat}{s:SO}:∀{l:H1 Nat},(uD h l).get i=some s->h.get i=some s/\i∈l
 |[],q=>by have q:(Tr.nil:Tr SO).get i=some s:=q;rw[Tr.get_nil] at q;cases q
 |j::l,q=>by
  unfold uD at q;split at q
  ·rename_i s' hs;rw[Tr.fN] at q;by_cases z:i=j
   ·grind
   ·rw[aq z] at q;have:=CW q;simp_all
  ·have:=CW q
   grind
theorem DP{h:Tr SO}{i:Nat}{s:SO}:∀{l:H1 Nat},(vi h l).get i=some s->h.get i=some s/\i∉l
 |[],q=>⟨q,by simp⟩
 |j::l,q=>by
  have q:((vi h l).del j).get i=some s:=q;rw[Tr.sk] at q;by_cases z:i=j
  ·grind
  ·rw[aq z] at q;have:=DP q
   grind
def wc(h:Tr SO):Nat->SV->Zh SV
 |0,_=>none
 |f+1,x=>match x with
  | .agg l=>ob (tN (wc h f) l) λp=>some (.agg p)
  | .aH l=>ob (tN (wc h f) l) λp=>some (.aH p)
  | .i k n=>some (.i k n)
  | .b q=>some (.b q)
  | .s q=>some (.s q)
  |x=>ob (gv h 1 x) λu=>some (.v u)
def rz(t:VT)(sv:SV)(st:St)(K:SV->St->Zh β):Zh β:=match t,sv with
 | .aH ts,.aH l=>cond (Ft 5 (.aH ts)&&!(xJ 5 (.aH l)).isEmpty) (ob (wc (uD st.h (xJ 5 (.aH l))) 5 (.aH l)) λp=>K p {st with h:=vi st.h (xJ 5 (.aH l))}) (K (.aH l) st)
 | .v,.gr id E=>ob (wc (uD st.h [id]) 1 (.gr id E)) λp=>K p {st with h:=vi st.h [id]}
 |_,sv=>K sv st
theorem Nk{σ:Ren}{m:Nat->Nat->Zh Qu}{h:Tr SO}{w:Hx}(S:Seen σ m h w):∀(f:Nat)(x x':SV)(v:Qu),wc h f x=some x'->DV σ x v->DV ⟨σ.nm,m⟩ x' v
 |0,x,p,v,e,_=>by cases e
 |f+1,x,p,v,e,d=>by
  unfold wc at e;split at e
  ·obtain⟨q,h1,e⟩:=ax e;cases e;cases d with
   |agg hl ds=>have q:=vx (λx u v=>Nk S f x u v) h1 ⟨hl,ds⟩;exact .agg q.1 q.2
  ·obtain⟨q,h1,e⟩:=ax e;cases e;cases d with
   |aH hl ds=>have q:=vx (λx u v=>Nk S f x u v) h1 ⟨hl,ds⟩;exact .aH q.1 q.2
  ·cases e;cases d;exact .i _ _
  ·cases e;cases d;exact .b _
  ·cases e;cases d;exact .s _
  ·obtain⟨u,h1,e⟩:=ax e;cases e;obtain⟨a,b⟩:=oK S 1 _ _ _ h1 d;exact .v a b
theorem F0{t:VT}{sv:SV}{st:St}{K:SV->St->Zh β}{b:β}(e:rz t sv st K=some b):
 ∃sv2 st2,K sv2 st2=some b/\∀{B:Bs}{σ:Ren}{w:Hx}{v:Qu},DV σ sv v->jb B σ st.h st.sx w->∃σ',DV σ' sv2 v/\jb B σ' st2.h st2.sx w:=by
 have key:∀{ids:H1 Nat}{f:Nat}{p:SV},wc (uD st.h ids) f sv=some p->∀{B:Bs}{σ:Ren}{w:Hx}{v:Qu},DV σ sv v->jb B σ st.h st.sx w->∃σ',DV σ' p v/\jb B σ' (vi st.h ids) st.sx w:=λ{ids f p} h B σ w v d M=>
  ⟨_,Nk (M.seen λi s h=>(CW h).1) _ _ _ _ h d,(M.AJ (A:=hG (uD st.h ids)) (G':=hG (vi st.h ids)) (λi s h=>(CW h).1) (λi s h=>⟨s,(DP h).1,λs' q=>(DP h).2 (CW q).2⟩) λE i s h=>(M.obj i s (DP h).1).mono E λ_ _ _=>rfl).2⟩
 unfold rz at e;split at e
 ·rename_i ts l;generalize xJ 5 (.aH l)=ids at e;cases hc:Ft 5 (.aH ts)&&!ids.isEmpty with
  |false=>rw[hc] at e;exact⟨_,_,e,λd M=>⟨_,d,M⟩⟩
  |true=>rw[hc] at e;obtain⟨p,h1,f⟩:=ax e;exact⟨_,_,f,key h1⟩
 ·obtain⟨p,h1,f⟩:=ax e;exact⟨_,_,f,key h1⟩
 ·exact⟨_,_,e,λd M=>⟨_,d,M⟩⟩
def C9(P:Program)(g:FuncId)(n an:Nat)(st so:St)(p:Bool):Prop:=∀{B:Bs}{σ:Ren}{w:Hx}(args':Array Qu),args'.size=n->B.an=an->Ev σ st.tm ⟨args',[]⟩->jb B σ st.h st.sx w->
 Calls P g args' w λx w'=>∃σ' v,x=End p v/\(∀sv,so.tm.get 0=some sv->DV σ' sv v)/\jb B σ' so.h so.sx w'
def nB(P:Program)(g:FuncId)(T:HT)(Sh:Fn T.ti.ks (Zh (bL T.to.ks))):Prop:=
 ∀ls r st so,iI T.ti.ks Sh ls=some r->iy T.ti ls=some st->iy T.to (gP T.to.ks r)=some so->C9 P g T.n T.an st so false
theorem Mem.nd{B:Bs}{σ:Ren}{G:Nat->SO->Prop}{F:Nat->Prop}{w:Hx}{n:Nat}{dQ:H1 Deferred}(M:Mem B σ G F w):Mem {B with n:=n,dQ:=dQ} σ G F w:=⟨M.obj,M.inj,M.fresh,M.lit,M.free,M.base,M.owned,M.lP,M.jU,M.mW⟩
theorem yp{B:Bs}{to:cL}{sv:SV}{st so:St}{K:H1 bq->Zh β}{b:β}{L:H1 bq}(e:lk B.an to ⟨Tr.nil.set 0 sv,st.h,st.sx⟩ K=some b)(hL:∀ls,K ls=some b->L=ls)(hso:iy to L=some so){σ:Ren}{w:Hx}{v:Qu}(d:DV σ sv v)(M:jb B σ st.h st.sx w):
 ∃σ',(∀sv,so.tm.get 0=some sv->DV σ' sv v)/\jb B σ' so.h so.sx w:=by
 obtain⟨ls,q1,st',q2,_,q4⟩:=vl e;rw[hL _ q1,q2] at hso;cases hso;obtain⟨σ',z1,z2⟩:=q4 (σ:=σ) (a:=⟨#[v],[]⟩) (w:=w) (λt x h=>by
  rw[Tr.fN] at h;split at h
  ·rename_i q;subst q;cases h;exact d
  ·rw[Tr.get_nil] at h;cases h) M
 exact⟨σ',λx h=>z1 0 x h,z2⟩
noncomputable def Jy[QF](w:Nat)(X:eC)(pt:(β:Type)->FuncId->Zh (cD β))(fn:Func)(T:HT)(lv jv:Nat->Zh cL)(un:Nat->Bool):Fn T.ti.ks (Zh (bL T.to.ks)):=
 mc T.ti.ks λls=>ob (iy T.ti ls) λst=>dn {X:=X,pt:=pt _,n:=T.n+(fn.ntmps -T.n),rs:=fn.results.toList,lv:=lv,jv:=jv,un:=un,df:=false,fuel:=w,an:=T.an,iw:=λsv st=>rz (uB T.to) sv st λsv st=>lk T.an T.to ⟨Tr.nil.set 0 sv,st.h,st.sx⟩ (dec T.to.ks),mj:=λ_ _=>bC 52} 100000 [] [.code (fn.body.getD .skip)] st
theorem Eb[QF]{P:Program}{X:eC}(OK:iP P X)(mx:P.follows .mixedOrders=true){pt:(β:Type)->FuncId->Zh (cD β)}(PT:jn P pt){g:FuncId}{fn:Func}{T:HT}{lv jv:Nat->Zh cL}{un:Nat->Bool}{w:Nat}{Sh:Fn T.ti.ks (Zh (bL T.to.ks))}
 (hF:X.F.get g=some fn) (hb:fn.body=some (fn.body.getD .skip)) (hS:Sh=Jy w X pt fn T lv jv un):nB P g T Sh:=by
 intro ls r st so e hst hso B σ w0 args' hn ha ev M;subst hS;have e1:=nG _ _ _ _ e;obtain⟨st1,g1,e2⟩:=ax e1;rw[hst] at g1;cases g1;refine Av (B:={B with n:=T.n+(fn.ntmps -T.n),dQ:=[]}) (OK.F _ _ hF).1 hb rfl rfl (tH OK mx (PT _) rfl rfl ha _ _ _ _ _ e2 (λr hr=>by cases hr) ⟨by simp[hn],rfl,tM ev,M.nd⟩) λR d=>⟨λkr=>?_,λkp=>by cases kp⟩
 obtain⟨sv2,st2,k1,k2⟩:=F0 (t:=uB T.to) (K:=λsv st=>lk T.an T.to ⟨Tr.nil.set 0 sv,st.h,st.sx⟩ (dec T.to.ks)) kr;obtain⟨σ2,d2,M2⟩:=k2 d R.mem.nd;obtain⟨σ3,z1,z2⟩:=yp (B:=B) (by rw[ha];exact k1) (λls q=>qk _ _ _ q) hso d2 M2;exact⟨σ3,_,rfl,z1,z2⟩
mutual
def pP(f:Nat->Nat):SV->SV
 | .ptr id off=>.ptr (f id) off
 | .sl id off n c=>.sl (f id) off n c
 | .gr id E=>.gr (f id) E
 | .agg l=>.agg (uf f l)
 | .aH l=>.aH (uf f l)
 | .fn g l=>.fn g (uf f l)
 | .fe t x=>.fe t (pP f x)
 | .em b=>.em b
 | .ni=>.ni
 | .mp id=>.mp (f id)
 | .i k n=>.i k n
 | .b x=>.b x
 | .s x=>.s x
 | .v x=>.v x
 | .nl=>.nl
 | .lp c=>.lp c
def uf(f:Nat->Nat):H1 SV->H1 SV
 |[]=>[]
 |x::xs=>pP f x::uf f xs
end
def FI(f:Nat->Nat):SO->SO
 | .cells c t=>.cells (uf f c) t
 | .arr c t=>.arr c t
 | .grow E c t=>.grow E c t
 | .mp es=>.mp (es.map λe=>(e.1,pP f e.2))
theorem WU{f:Nat->Nat}:∀l:H1 SV,uf f l=l.map (pP f)
 |[]=>rfl
 |x::l=>by unfold uf;rw[WU l];rfl
theorem FJ{σ':Ren}{f:Nat->Nat}{l:H1 SV}{ys:H1 Qu}(hl:l.length=ys.length)(ih:∀(i:Nat) x y,l[i]? =some x->ys[i]? =some y->DV σ' (pP f x) y):eR σ' (uf f l) ys:=by rw[WU];refine⟨by simp[hl],λi x y a b=>?_⟩;rw[List.getElem?_map] at a;obtain⟨x',a1,rfl⟩:=Option.map_eq_some_iff.1 a;exact ih i x' y a1 b
theorem M7{σ σ':Ren}{f:Nat->Nat}(hl:σ'.lit=σ.lit)(e:∀k x,σ.nm k=some x->σ'.nm (f k)=some x){x:SV}{v:Qu}(d:DV σ x v):DV σ' (pP f x) v:=by
 induction d with
 |i=>exact .i _ _
 |b=>exact .b _
 |s=>exact .s _
 |v h h1=>exact .v (hl▸h) h1
 |nl=>exact .nl
 |agg kl _ ih=>have q:=FJ kl ih;exact .agg q.1 q.2
 |aH kl _ ih=>have q:=FJ kl ih;exact .aH q.1 q.2
 |ptr h=>exact .ptr (e _ _ h)
 |lp h=>exact .lp (hl▸h)
 |sl h hn=>exact .sl (e _ _ h) hn
 |jJ h=>exact .jJ (e _ _ h)
 |gr h hc hn=>exact .gr (e _ _ h) hc hn
 |fn kl _ ih=>have q:=FJ kl ih;exact .fn q.1 q.2
 |fe _ ih=>exact .fe ih
 |em h=>exact .em (hl▸h)
 |ni=>exact .ni
 |mp h=>exact .mp (e _ _ h)
theorem air{σ σ':Ren}{f:Nat->Nat}(hl:σ'.lit=σ.lit)(e:∀k x,σ.nm k=some x->σ'.nm (f k)=some x){w:Hx}{k:Nat}{so:SO}(d:DO σ w k so):DO σ' w (f k) (FI f so):=by
 cases so with
 |cells c t=>obtain⟨o,n,vs,a,b,c⟩:=d;exact⟨o,n,vs,e _ _ a,b,FJ c.1 λi x y h1 h2=>M7 hl e (c.2 i x y h1 h2)⟩
 |arr c t=>obtain⟨o,n,vs,a,b,c⟩:=d;exact⟨o,n,vs,e _ _ a,b,hl▸c⟩
 |grow E c t=>
  obtain⟨a,p,g⟩:=d;refine⟨a,p,?_⟩;rcases g with⟨g,h⟩|⟨o,n,cs,g,h⟩
  ·exact .inl ⟨e _ _ g,h⟩
  ·exact .inr ⟨o,n,cs,e _ _ g,hl▸h⟩
 |mp es=>obtain⟨o,n,es',ck,a,b,c⟩:=d;refine⟨o,n,es',ck,e _ _ a,b,by simp[c.1],λi x y h1 h2=>?_⟩;rw[List.getElem?_map] at h1;obtain⟨x',h3,rfl⟩:=Option.map_eq_some_iff.1 h1;have q:=c.2 i x' y h3 h2;exact⟨q.1,M7 hl e q.2⟩
def na(an sx:Nat)(m:Mp)(k:Nat):Nat:=cond (Nat.blt k an) (match ew k m with
 |some (some a)=>a
 |_=>0) (sx+k)
def su(h:Tr SO):Mp->Bool
 |[]=>true
 |(_,some a)::m=>(match h.get a with|some _=>su h m|none=>false)
 |(_,none)::m=>su h m
def tB(m:Mp):Nat->Bool
 |0=>true
 |n+1=>(match ew n m with|some (some _)=>tB m n|_=>false)
def r9:Mp->Tr SO->Tr SO
 |[],h=>h
 |(_,some a)::m,h=>r9 m (h.del a)
 |(_,none)::m,h=>r9 m h
def rk(f:Nat->Nat)(s:Tr SO):H1 (Nat×OT)->Tr SO->Tr SO
 |[],h=>h
 |(k,_)::l,h=>match s.get k with
  |some so=>(rk f s l h).set (f k) (FI f so)
  |none=>rk f s l h
def Rt(T:HT)(Sh:Fn T.ti.ks (Zh (bL T.to.ks))):cD β:=λst args K=>
 cond (Nat.beq args.length T.n) (vk [] T.ti ⟨oX args 0 .nil,st.h,st.sx⟩ λls m=>
  cond (su st.h m&&tB m T.an) (ob (iI T.ti.ks Sh ls) λr=>ob (iy T.to (gP T.to.ks r)) λso=>ob (so.tm.get 0) λsv=>
   K false (pP (na T.an st.sx m) sv) ⟨st.tm,rk (na T.an st.sx m) so.h T.to.qu (r9 m st.h),st.sx+T.to.sx⟩) none) none
theorem vJ{h:Tr SO}:∀{m:Mp},su h m=true->∀k a,ew k m=some (some a)->∃so,h.get a=some so
 |[],_,k,a,e=>by cases e
 |(j,x)::m,hl,k,a,e=>by
  rw[rb] at e;cases x with
  |none=>
   by_cases q:j=k
   ·grind
   ·rw[aq q] at e;exact vJ (m:=m) hl k a e
  |some y=>
   unfold su at hl;split at hl
   ·rename_i so hso;by_cases q:j=k
    ·grind
    ·rw[aq q] at e;exact vJ hl k a e
   grind
theorem xm{m:Mp}:∀{n:Nat},tB m n=true->∀k,k<n->∃a,ew k m=some (some a)
 |0,_,k,h=>by omega
 |n+1,e,k,h=>by
  unfold tB at e;split at e
  ·rename_i a ha;by_cases q:k=n
   ·grind
   ·exact xm e k (by omega)
  grind
def Em(a:Nat):Mp->Prop
 |[]=>False
 |(_,x)::m=>x=some a\/Em a m
theorem JQ:∀{m:Mp}{h:Tr SO}{id:Nat}{so:SO},(r9 m h).get id=some so->h.get id=some so/\¬Em id m
 |[],h,id,so,e=>⟨e,λh=>h⟩
 |(j,none)::m,h,id,so,e=>by
  obtain⟨a,b⟩:=JQ (m:=m) e;exact⟨a,λq=>by
   rcases q with q|q
   ·grind
   ·exact b q⟩
 |(j,some x)::m,h,id,so,e=>by
  obtain⟨a,b⟩:=JQ (m:=m) e;rw[Tr.sk] at a;by_cases q:id=x
  ·grind
  ·rw[aq q] at a;exact⟨a,λw=>by
    rcases w with w|w
    ·grind
    ·exact b w⟩
theorem SJ:∀{m:Mp}{k a:Nat},ew k m=some (some a)->Em a m
 |[],k,a,e=>by cases e
 |(j,x)::m,k,a,e=>by
  rw[rb] at e;by_cases q:j=k
  ·rw[ay q] at e;cases e;exact .inl rfl
  ·rw[aq q] at e;exact .inr (SJ e)
theorem MI{f:Nat->Nat}{s:Tr SO}:∀{l:H1 (Nat×OT)}{h:Tr SO}{id:Nat}{so:SO},(rk f s l h).get id=some so->h.get id=some so\/∃k x,id=f k/\s.get k=some x/\so=FI f x
 |[],h,id,so,e=>.inl e
 |(k,t)::l,h,id,so,e=>by
  unfold rk at e;split at e
  ·rename_i x hx;rw[Tr.fN] at e;by_cases q:id=f k
   ·grind
   ·rw[aq q] at e;exact MI e
  ·exact MI e
theorem Ay{P:Program}{g:FuncId}{an n:Nat}{qu:H1 (Nat×OT)}{st:St}{args:H1 SV}{m:Mp}{stT so:St}{sv:SV}{pb:Bool}(hlen:args.length=n)(hinj:lJ m)(hsx:∀id x,ew id m=some x->id<stT.sx)
 (h4:∀{σ:Ren}{a:Act}{w:Hx},Ev σ (oX args 0 .nil) a->(∀id so,st.h.get id=some so->DO σ w id so)->Ev (σm σ m) stT.tm a/\∀id so,stT.h.get id=some so->DO (σm σ m) w id so/\(ew id m=some none\/∃a so',ew id m=some (some a)/\st.h.get a=some so'))
 (L:∀k a,ew k m=some (some a)->∃so,st.h.get a=some so) (A:∀k,k<an->∃a,ew k m=some (some a)) (k3:so.tm.get 0=some sv) (Fg:C9 P g n an stT so pb)
 {B:Bs} {σ:Ren} {F:Nat->Prop} {w:Hx} (hF:∀id,st.sx<=id->id<st.sx+so.sx->F id) (M:Mem B σ (hG st.h) F w) (args':Array Qu) (d:eR σ args args'.toList):
 Calls P g args' w λx w'=>∃σ' v,x=End pb v/\Ext σ σ'/\DV σ' (pP (na an st.sx m) sv) v/\Mem B σ' (hG (rk (na an st.sx m) so.h qu (r9 m st.h))) (mf F st.sx (st.sx+so.sx)) w':=by
 let G':Nat->SO->Prop:=λid x=>st.h.get id=some x/\Em id m
 have sG:∀id x,G' id x->hG st.h id x:=λ_ _ h=>h.1;obtain⟨ev,ob⟩:=h4 (σ:=σ) (a:=⟨args',[]⟩) (w:=w) (CQ d) M.obj;have MT:jb ⟨w,Own σ G',σ.lit,an,(σm σ m).nm,0,[]⟩ (σm σ m) stT.h stT.sx w:=(M.Ed sG).map hinj hsx (λid x h=>⟨(ob id x h).1,(ob id x h).2.imp_right λ⟨a,s,h1,h2⟩=>⟨a,s,h1,h2,SJ h1⟩⟩) (eS.refl _ _) (λb q=>.inl q) (λ_ _ _ q=>.inl q) (λ_ _ _ q=>q) λ_ _ _ q=>q;refine Calls.mono (Fg args' (by rw[<-hlen,d.1,Array.length_toList]) rfl ev MT) λx w' ⟨σ2,v,e1,dv,M2⟩=>?_;generalize hf:na an st.sx m=f
 let σn:Ren:=⟨λid=>if st.sx<=id/\id<st.sx+so.sx then σ2.nm (id -st.sx) else σ.nm id,σ2.lit⟩
 have E:Ext σ σn:=⟨λid x e=>by show(if _ then _ else _)=_;rw[aq λq=>by rw[M.fresh id (hF id q.1 q.2)] at e;cases e];exact e,M2.mW⟩;have n1:∀k x,σ2.nm k=some x->σn.nm (f k)=some x:=λk x e=>by
  rcases gY k an with hk|hk
  ·obtain⟨a,ha⟩:=A k hk;obtain⟨s0,hs0⟩:=L k a ha;have fk:f k=a:=by
    rw[<-hf];unfold na;rw[show Nat.blt k an=true from zL hk,aC,ha]
   have hy:∃y,σ.nm a=some y:=(M.obj a s0 hs0).nm.elim (λq=>⟨_,q⟩) λ⟨_,_,q,_⟩=>⟨_,q⟩;obtain⟨y,hy⟩:=hy;have:=M2.jU k hk y ((σm_some ha).trans hy);rw[e] at this;cases this;rw[fk];exact E.nm _ _ hy
  ·have lt:k<so.sx:=Nat.not_le.1 λq=>by rw[M2.fresh k q] at e;cases e
   have fk:f k=st.sx+k:=by rw[<-hf];unfold na;rw[show Nat.blt k an=false from Bool.eq_false_iff.2 λq=>by have:=fb q;omega];rfl
   rw[fk];show(if _ then _ else _)=_;rw[ay ⟨by omega,by omega⟩,show st.sx+k -st.sx=k by omega];exact e
 have back:∀{k y o n},so.h.get k=some y->σn.nm (f k)=some (some o,n)->σ2.nm k=some (some o,n):=λ{k y o n} h1 h2=>by rcases(M2.obj k y h1).nm with q|⟨_,_,q,_⟩<;>rw[n1 _ _ q] at h2<;>cases h2;exact q
 have M3:Mem (BE w (Own σ G') σ.lit) σn (λid x=>∃k y,id=f k/\so.h.get k=some y/\x=FI f y) (mf F st.sx (st.sx+so.sx)) w':=by
  refine⟨λid x ⟨k,y,h1,h2,h3⟩=>?_,λi j s s' o o' n n' ⟨k,y,h1,h2,_⟩ ⟨k',y',h1',h2',_⟩ p p' q=>?_,λid h=>?_,M2.lit,λb i v q ⟨id,x,o,n,⟨k,y,h1,h2,_⟩,p,r⟩=>?_,M2.base,λb ⟨id,x,o,n,⟨k,y,h1,h2,_⟩,p,r⟩=>?_,M2.lP,λk hk=>(Nat.not_lt_zero k hk).elim,M2.mW⟩
  ·rw[h1,h3];exact air (σ:=σ2) (σ':=σn) rfl n1 (M2.obj k y h2)
  ·rw[h1] at p⊢;rw[h1'] at p'⊢;rw[M2.inj _ _ _ _ _ _ _ _ h2 h2' (back h2 p) (back h2' p') q]
  ·show(if _ then _ else _)=_;rw[aq h.2];exact M.fresh id h.1
  ·rw[h1] at p;exact M2.free b i v q ⟨k,y,o,n,h2,back h2 p,r⟩
  ·rw[h1] at p;exact M2.owned b ⟨k,y,o,n,h2,back h2 p,r⟩
 refine⟨σn,v,e1,E,M7 (σ:=σ2) (σ':=σn) rfl n1 (dv sv k3),(M.frame sG E M3).less (λid x h=>?_) λ_ h=>h⟩;rcases MI h with q|q
 ·have⟨q1,q2⟩:=JQ q;exact .inr ⟨q1,λs' z=>q2 z.2⟩
 ·exact .inl q
theorem abf{P:Program}{g:FuncId}{T:HT}{Sh:Fn T.ti.ks (Zh (bL T.to.ks))}(F:nB P g T Sh):mM P g (Rt (β:=β) T Sh):=by intro st args K b e;obtain⟨hlen,e⟩:=aW e;obtain⟨ls,m,h1,_,hinj,hsx,stT,h2,h3,h4⟩:=D5 (λi j a q=>by cases q) e;obtain⟨hl,h1⟩:=aW h1;rw[bt] at hl;obtain⟨r,k1,h1⟩:=ax h1;obtain⟨so,k2,h1⟩:=ax h1;obtain⟨sv,k3,h1⟩:=ax h1;have sx:=A6 k2;rw[<-sx] at h1;exact⟨false,_,_,h1,rfl,Nat.le_add_right _ _,λhF M args' d=>Ay (bT hlen) hinj (by rw[h3];exact hsx) h4 (vJ hl.1) (xm hl.2) k3 (F ls r stT so k1 h2 k2) hF M args' d⟩
def RV(T:HT)(st:St)(args:H1 SV):Bool:=cond (Nat.beq args.length T.n) ((vk (β:=Unit) [] T.ti ⟨oX args 0 .nil,st.h,st.sx⟩ λ_ m=>cond (su st.h m&&tB m T.an) (some ()) none).isSome) false
def MB(pt:(β:Type)->FuncId->Zh (cD β))(g:FuncId)(T:HT)(Sh:Fn T.ti.ks (Zh (bL T.to.ks))):(β:Type)->FuncId->Zh (cD β):=
 λβ f=>cond (Nat.beq f g) (some λst args K=>cond (RV T st args) (Rt T Sh st args K) (ob (pt β f) λe=>e st args K)) (pt β f)
theorem oR{P:Program}{pt:(β:Type)->FuncId->Zh (cD β)}(PT:jn P pt){g:FuncId}{T:HT}{Sh:Fn T.ti.ks (Zh (bL T.to.ks))}(F:nB P g T Sh):jn P (MB pt g T Sh):=by
 intro β f e h;unfold MB at h;cases hb:Nat.beq f g with
 |true=>
  rw[hb] at h;have hg:=bT hb;subst hg;cases h;intro st args K b k;cases hf:RV T st args with
  |true=>simp[hf] at k;exact abf F st args K b k
  |false=>simp[hf] at k;obtain⟨e0,h0,k⟩:=ax k;exact PT β f e0 h0 st args K b k
 |false=>rw[hb] at h;exact PT β f e h
def mh{α:Type}(z:α)(F:α->α)(n:Nat):α:=Nat.rec z (λ_ r=>F r) n
theorem abG{P:Program}{g:FuncId}{T:HT}:nB P g T (iZ T.ti.ks):=λ_ _ _ _ e=>(Aa _ _ _ e).elim
theorem abH{P:Program}{g:FuncId}{avt:H1 VT}{rvt:VT}:cQ P g avt rvt (iZ (VT.fu avt)):=λ_ _ e=>(Aa _ _ _ e).elim
theorem Kv{P:Program}{g:FuncId}{T:HT}{F:Fn T.ti.ks (Zh (bL T.to.ks))->Fn T.ti.ks (Zh (bL T.to.ks))}(h:∀r,nB P g T r->nB P g T (F r))(n:Nat):nB P g T (mh (iZ T.ti.ks) F n):=by
 induction n with
 |zero=>exact abG
 |succ n ih=>exact h _ ih
theorem AG{P:Program}{g:FuncId}{avt:H1 VT}{rvt:VT}{F:Fn (VT.fu avt) (Zh (bL rvt.ks))->Fn (VT.fu avt) (Zh (bL rvt.ks))}(h:∀r,cQ P g avt rvt r->cQ P g avt rvt (F r))(n:Nat):cQ P g avt rvt (mh (iZ (VT.fu avt)) F n):=by
 induction n with
 |zero=>exact abH
 |succ n ih=>exact h _ ih
end
section
variable{β:Type}
structure PT where
 n:Nat
 ti:cL
 an:Nat
 to:cL
 tp:cL
def PT.out(T:PT)(p:Bool):cL:=cond p T.tp T.to
def tj(P:Program)(g:FuncId)(T:PT)(Sh:Fn T.ti.ks (Zh (bL T.to.ks⊕bL T.tp.ks))):Prop:=
 ∀ls r st,iI T.ti.ks Sh ls=some r->iy T.ti ls=some st->∀(p:Bool)(l:H1 bq) so,(match r with| .inl a=>p=false/\l=gP T.to.ks a| .inr a=>p=true/\l=gP T.tp.ks a)->iy (T.out p) l=some so->C9 P g T.n T.an st so p
noncomputable def QK[QF](w:Nat)(X:eC)(pt:(β:Type)->FuncId->Zh (cD β))(fn:Func)(T:PT)(lv jv:Nat->Zh cL)(un:Nat->Bool):Fn T.ti.ks (Zh (bL T.to.ks⊕bL T.tp.ks)):=
 mc T.ti.ks λls=>ob (iy T.ti ls) λst=>dn {X:=X,pt:=pt _,n:=T.n+(fn.ntmps -T.n),rs:=fn.results.toList,lv:=lv,jv:=jv,un:=un,df:=false,fuel:=w,an:=T.an,iw:=λsv st=>rz (uB T.to) sv st λsv st=>lk T.an T.to ⟨Tr.nil.set 0 sv,st.h,st.sx⟩ λls=>ob (dec T.to.ks ls) λa=>some (.inl a),mj:=λsv st=>lk T.an T.tp ⟨Tr.nil.set 0 sv,st.h,st.sx⟩ λls=>ob (dec T.tp.ks ls) λa=>some (.inr a)} 100000 [] [.code (fn.body.getD .skip)] st
theorem RZ[QF]{P:Program}{X:eC}(OK:iP P X)(mx:P.follows .mixedOrders=true){pt:(β:Type)->FuncId->Zh (cD β)}(PTO:jn P pt){g:FuncId}{fn:Func}{T:PT}{lv jv:Nat->Zh cL}{un:Nat->Bool}{w:Nat}{Sh:Fn T.ti.ks (Zh (bL T.to.ks⊕bL T.tp.ks))}
 (hF:X.F.get g=some fn) (hb:fn.body=some (fn.body.getD .skip)) (hS:Sh=QK w X pt fn T lv jv un):tj P g T Sh:=by
 intro ls r st e hst p l so hr hso B σ w0 args' hn ha ev M;subst hS;have e1:=nG _ _ _ _ e;obtain⟨st1,g1,e2⟩:=ax e1;rw[hst] at g1;cases g1;refine Av (B:={B with n:=T.n+(fn.ntmps -T.n),dQ:=[]}) (OK.F _ _ hF).1 hb rfl rfl (tH OK mx (PTO _) rfl rfl ha _ _ _ _ _ e2 (λr hr=>by cases hr) ⟨by simp[hn],rfl,tM ev,M.nd⟩) λR d=>⟨λkr=>?_,λkp=>?_⟩
 ·obtain⟨sv2,st2,k1,k2⟩:=F0 (β:=bL T.to.ks⊕bL T.tp.ks) (t:=uB T.to) (K:=λsv st=>lk T.an T.to ⟨Tr.nil.set 0 sv,st.h,st.sx⟩ λls=>ob (dec T.to.ks ls) λa=>some (.inl a)) kr;obtain⟨σ2,d2,M2⟩:=k2 d R.mem.nd;replace k1:lk T.an T.to ⟨Tr.nil.set 0 sv2,st2.h,st2.sx⟩ (λls=>ob (dec T.to.ks ls) λa=>some (Sum.inl a))=some r:=k1;cases r with
  |inl a=>obtain⟨rfl,rfl⟩:=hr;obtain⟨σ3,z1,z2⟩:=yp (B:=B) (by rw[ha];exact k1) (λls q=>by obtain⟨a',q1,q2⟩:=ax q;cases q2;exact qk _ _ _ q1) hso d2 M2;exact⟨σ3,_,rfl,z1,z2⟩
  |inr a=>obtain⟨ls',q1,_⟩:=vl (B:=B) (by rw[ha];exact k1);obtain⟨a',_,q2⟩:=ax q1;cases q2
 ·replace kp:lk T.an T.tp ⟨Tr.nil.set 0 _,_,_⟩ (λls=>ob (dec T.tp.ks ls) λa=>some (Sum.inr a))=some r:=kp;cases r with
  |inl a=>obtain⟨ls',q1,_⟩:=vl (B:=B) (by rw[ha];exact kp);obtain⟨a',_,q2⟩:=ax q1;cases q2
  |inr a=>obtain⟨rfl,rfl⟩:=hr;obtain⟨σ3,z1,z2⟩:=yp (B:=B) (by rw[ha];exact kp) (λls q=>by obtain⟨a',q1,q2⟩:=ax q;cases q2;exact qk _ _ _ q1) hso d R.mem.nd;exact⟨σ3,_,rfl,z1,z2⟩
def dI{α γ δ:Type}(r:α⊕γ)(f:α->δ)(g:γ->δ):δ:=match r with
 | .inl a=>f a
 | .inr a=>g a
def Ru(T:PT)(Sh:Fn T.ti.ks (Zh (bL T.to.ks⊕bL T.tp.ks))):cD β:=λst args K=>
 cond (Nat.beq args.length T.n) (vk [] T.ti ⟨oX args 0 .nil,st.h,st.sx⟩ λls m=>
  cond (su st.h m&&tB m T.an) (ob (iI T.ti.ks Sh ls) λr=>dI r
   (λa=>ob (iy T.to (gP T.to.ks a)) λso=>ob (so.tm.get 0) λsv=>K false (pP (na T.an st.sx m) sv) ⟨st.tm,rk (na T.an st.sx m) so.h T.to.qu (r9 m st.h),st.sx+T.to.sx⟩)
   (λa=>ob (iy T.tp (gP T.tp.ks a)) λso=>ob (so.tm.get 0) λsv=>K true (pP (na T.an st.sx m) sv) ⟨st.tm,rk (na T.an st.sx m) so.h T.tp.qu (r9 m st.h),st.sx+T.tp.sx⟩)) none) none
theorem abh{P:Program}{g:FuncId}{T:PT}{Sh:Fn T.ti.ks (Zh (bL T.to.ks⊕bL T.tp.ks))}(F:tj P g T Sh):mM P g (Ru (β:=β) T Sh):=by
 intro st args K b e;obtain⟨hlen,e⟩:=aW e;obtain⟨ls,m,h1,_,hinj,hsx,stT,h2,h3,h4⟩:=D5 (λi j a q=>by cases q) e;obtain⟨hl,h1⟩:=aW h1;rw[bt] at hl;obtain⟨r,k1,h1⟩:=ax h1;cases r with
 |inl a=>obtain⟨so,k2,h1⟩:=ax h1;obtain⟨sv,k3,h1⟩:=ax h1;have sx:=A6 k2;rw[<-sx] at h1;exact⟨false,_,_,h1,rfl,Nat.le_add_right _ _,λhF M args' d=>Ay (bT hlen) hinj (by rw[h3];exact hsx) h4 (vJ hl.1) (xm hl.2) k3 (F ls _ stT k1 h2 false _ so ⟨rfl,rfl⟩ k2) hF M args' d⟩
 |inr a=>obtain⟨so,k2,h1⟩:=ax h1;obtain⟨sv,k3,h1⟩:=ax h1;have sx:=A6 k2;rw[<-sx] at h1;exact⟨true,_,_,h1,rfl,Nat.le_add_right _ _,λhF M args' d=>Ay (bT hlen) hinj (by rw[h3];exact hsx) h4 (vJ hl.1) (xm hl.2) k3 (F ls _ stT k1 h2 true _ so ⟨rfl,rfl⟩ k2) hF M args' d⟩
def D9(T:PT)(st:St)(args:H1 SV):Bool:=cond (Nat.beq args.length T.n) ((vk (β:=Unit) [] T.ti ⟨oX args 0 .nil,st.h,st.sx⟩ λ_ m=>cond (su st.h m&&tB m T.an) (some ()) none).isSome) false
def MC(pt:(β:Type)->FuncId->Zh (cD β))(g:FuncId)(T:PT)(Sh:Fn T.ti.ks (Zh (bL T.to.ks⊕bL T.tp.ks))):(β:Type)->FuncId->Zh (cD β):=
 λβ f=>cond (Nat.beq f g) (some λst args K=>cond (D9 T st args) (Ru T Sh st args K) (ob (pt β f) λe=>e st args K)) (pt β f)
theorem qA{P:Program}{pt:(β:Type)->FuncId->Zh (cD β)}(PTO:jn P pt){g:FuncId}{T:PT}{Sh:Fn T.ti.ks (Zh (bL T.to.ks⊕bL T.tp.ks))}(F:tj P g T Sh):jn P (MC pt g T Sh):=by
 intro β f e h;unfold MC at h;cases hb:Nat.beq f g with
 |true=>
  rw[hb] at h;have hg:=bT hb;subst hg;cases h;intro st args K b k;cases hf:D9 T st args with
  |true=>simp[hf] at k;exact abh F st args K b k
  |false=>simp[hf] at k;obtain⟨e0,h0,k⟩:=ax k;exact PTO β f e0 h0 st args K b k
 |false=>rw[hb] at h;exact PTO β f e h
theorem abJ{P:Program}{g:FuncId}{T:PT}:tj P g T (iZ T.ti.ks):=λ_ _ _ e=>(Aa _ _ _ e).elim
theorem abI{P:Program}{g:FuncId}{T:PT}{F:Fn T.ti.ks (Zh (bL T.to.ks⊕bL T.tp.ks))->Fn T.ti.ks (Zh (bL T.to.ks⊕bL T.tp.ks))}(h:∀r,tj P g T r->tj P g T (F r))(n:Nat):tj P g T (mh (iZ T.ti.ks) F n):=by
 induction n with
 |zero=>exact abJ
 |succ n ih=>exact h _ ih
end
section
variable{β:Type}
def S8:H1 Operand->Bool
 |[]=>true
 |_=>false
def MV(o:Oper)(n:Nat)(K:Nat->Zh β):Zh β:=match o.op with
 | .call c=>match c.callee with
  | .builtin .recover=>match o.guard with
   |none=>cond (S8 c.args.toList) (match o.dst with|some d=>cond (Nat.blt d n) (K d) none|none=>none) none
   |some _=>none
  |_=>none
 |_=>none
theorem aia{o:Oper}{n:Nat}{K:Nat->Zh β}{b:β}(e:MV o n K=some b):∃d,K d=some b/\o.dst=some d/\Nat.blt d n=true/\o.guard=none/\∃c,o.op=.call c/\c.callee=.builtin .recover/\c.args.toList=[]:=by
 unfold MV at e;split at e
 ·rename_i c hop;split at e
  ·rename_i hc;split at e
   ·rename_i hg;obtain⟨e1,e⟩:=aW e;split at e
    ·rename_i d hd;obtain⟨e2,e⟩:=aW e;refine⟨d,e,hd,e2,hg,c,hop,hc,?_⟩;generalize c.args.toList=l at e1;cases l with
     |nil=>rfl
     |cons _ _=>cases e1
    grind
   grind
  grind
 grind
def JR(o:Oper)(K:Nat->Zh β):Zh β:=match o.op with
 | .defer c=>match c.callee with
  | .value (.tmp t)=>match o.guard,o.dst with
   |none,none=>cond (S8 c.args.toList) (K t) none
   |_,_=>none
  |_=>none
 |_=>none
theorem aaY{o:Oper}{K:Nat->Zh β}{b:β}(e:JR o K=some b):∃t,K t=some b/\o.dst=none/\o.guard=none/\∃c,o.op=.defer c/\c.callee=.value (.tmp t)/\c.args.toList=[]:=by
 unfold JR at e;split at e
 ·rename_i c hop;split at e
  ·rename_i t hc;split at e
   ·rename_i hg hd;obtain⟨e1,e⟩:=aW e;refine⟨t,e,hd,hg,c,hop,hc,?_⟩;generalize c.args.toList=l at e1;cases l with
    |nil=>rfl
    |cons _ _=>cases e1
   grind
  grind
 grind
def EJ(q:Zh SV)(r:Zh β):Zh β:=match q with
 |none=>r
 |some _=>bC 60
theorem Lu{q:Zh SV}{r:Zh β}{b:β}(e:EJ q r=some b):q=none/\r=some b:=by
 cases q with
 |none=>exact⟨rfl,e⟩
 |some _=>cases e
section
variable[QF]
noncomputable def vf(C:Ctx β)(gn:Func)(lvg jvg:Nat->Zh cL)(ung:Nat->Bool)(caps:H1 SV)(rv:SV)(st:St)(K:St->Zh β):Zh β:=match gn.body with
 |some (.seq (.region _ ops false) rest)=>match ops.toList with
  |o::os=>cond (Nat.ble C.an st.sx) (MV o (caps.length+(gn.ntmps -caps.length)) λd=>
   yC C.X C.pt (caps.length+(gn.ntmps -caps.length)) ops os ⟨(oX caps 0 .nil).set d rv,st.h,st.sx⟩ λq st1=>EJ q
    (dn {C with n:=caps.length+(gn.ntmps -caps.length),rs:=[],lv:=lvg,jv:=jvg,un:=ung,df:=true,an:=st.sx,iw:=λ_ st2=>K ⟨st.tm,st2.h,st2.sx⟩,mj:=λ_ _=>bC 62} 100000 [] [.code rest] st1)) (bC 61)
  |[]=>bC 63
 |_=>bC 64
noncomputable def xH(C:Ctx β)(st:St):Zh β:=vo C.X.T st C.rs (AB C.iw st)
noncomputable def DS(C:Ctx β)(g:FuncId)(gn:Func)(lvg jvg:Nat->Zh cL)(ung:Nat->Bool)(body:Code)(st:St):Zh β:=match body with
 | .seq (.region _ ops0 false) (.seq (.region _ ops1 false) rest)=>yC C.X C.pt C.n ops0 ops0.toList st λq st1=>EJ q (match ops1.toList with
  |[o1,o2]=>match o1.guard with
   |none=>DT C.n o1 (Bi C.X C.pt st1 o1 λq st2=>EJ q (JR o2 λt=>ob (st2.tm.get t) λfv=>match fv with
    | .fn g' caps=>cond (Nat.beq g' g&&(Nat.blt g' 65536&&Nat.ble C.an st2.sx)) (dn {C with df:=true,an:=st2.sx,iw:=λ_ st3=>vf C gn lvg jvg ung caps .ni st3 (xH C),mj:=λrv st3=>vf C gn lvg jvg ung caps rv st3 (xH C)} 100000 [] [.code rest] st2) (bC 65)
    |_=>bC 66))
   |some _=>bC 68
  |_=>bC 69)
 |_=>bC 67
end
theorem Mem.Qz{B:Bs}{σ:Ren}{h:Tr SO}{sx:Nat}{w:Hx}(M:jb B σ h sx w){n:Nat}{dQ:H1 Deferred}:jb ⟨B.w,B.own,σ.lit,sx,σ.nm,n,dQ⟩ σ h sx w:=
 ⟨M.obj,M.inj,M.fresh,M.lit,M.free,M.base,M.owned,λ_ _ _ q=>.inl q,λ_ _ _ q=>q,λ_ _ _ q=>q⟩
theorem Mem.ZJ{B:Bs}{σ σ':Ren}{h:Tr SO}{sx:Nat}{w w':Hx}{G:Nat->SO->Prop}{F:Nat->Prop}(M:jb B σ h sx w)(ha:B.an<=sx){n:Nat}{dQ:H1 Deferred}(M':Mem ⟨B.w,B.own,σ.lit,sx,σ.nm,n,dQ⟩ σ' G F w'):Ext σ σ'/\Mem B σ' G F w':=by
 have E:Ext σ σ':=⟨λid x e=>M'.jU id (Nat.not_le.1 λq=>by rw[M.fresh id q] at e;cases e) x e,M'.mW⟩;refine⟨E,M'.obj,M'.inj,M'.fresh,M'.lit,M'.free,M'.base,M'.owned,λb i v q=>?_,λk hk x hx=>E.nm _ _ (M.jU k hk x hx),λb i v q=>E.lit b i v (M.mW b i v q)⟩;rcases M'.lP b i v q with k|k
 ·exact M.lP b i v k
 ·exact .inr k
theorem Fe{P:Program}{ops:Array Oper}{Q:Exit->Act->H1 Frame->Hx->Prop}{cs:H1 Frame}(hQ:∀a w,¬Q .outgrown a cs w):∀(l:H1 Nat){a:Act}{w:Hx},wpOps P ops (λe a w=>Q e a cs w) l a w->wpOpsS P ops Q l a cs w
 |[],a,w,h=>h
 |i::l,a,w,h=>by
  unfold wpOps at h;unfold wpOpsS;split at h
  ·rename_i ho;simp only[ho];exact Fe hQ l h
  ·rename_i o ho;simp only[ho];split at h
   ·rename_i hw;simp only[hw,ea];rcases h with h|⟨_,a',w',q⟩
    ·have h:=Oper.wp_mono (K':=λa w=>wpOpsS P ops Q l a cs w) (λa w h=>Fe hQ l h) h;unfold Oper.wp at h;split
     ·rename_i w' hr;rw[hr] at h;exact h.elim
     ·exact h
    ·exact(hQ _ _ q).elim
   ·rename_i hw;simp only[hw];exact Fe hQ l h
section
variable[QF]
theorem aay{P:Program}{C:Ctx β}(OK:iP P C.X)(mx:P.follows .mixedOrders=true)(PT:nD P C.pt){g:FuncId}{gn:Func}(hG:C.X.F.get g=some gn)(hres:gn.results.toList=[]){lvg jvg:Nat->Zh cL}{ung:Nat->Bool}{caps:H1 SV}{cv:Array Qu}{rv:SV}{st:St}{K:St->Zh β}{b:β}
 (e:vf C gn lvg jvg ung caps rv st K=some b) {B:Bs} (ha:B.an=C.an) {σ:Ren} {a:Act} {w:Hx} {u:FrameMode} (hm:(u=.returning/\rv=.ni)\/∃v,u=.panicking [pe v]/\DV σ rv v) (R:dK B σ st a w) (d:eR σ caps cv.toList):
 CallsD P g cv u w λe u' w'=>∃v,e=.returned v/\settle u'=.returning/\∃st',K st'=some b/\∃σ',dK B σ' st' a w':=by
 unfold vf at e;split at e
 case h_2=>cases e
 rename_i id ops rest hb;split at e
 case h_2=>cases e
 rename_i o os hops;obtain⟨han,e⟩:=aW e;have han:=dW han;obtain⟨dR,e,hdst,hlt,hgd,c,hop,hcal,harg⟩:=aia e;have hlen:cv.size=caps.length:=by rw[<-Array.length_toList];exact d.1.symm
 have ho:ops[0]? =some o:=by rw[<-lR,hops];rfl
 have hrg:List.range ops.size=0::List.range' 1 os.length:=by rw[List.range_eq_range',show ops.size=os.length+1 by rw[<-Array.length_toList,hops];rfl,List.range'_succ]
 refine callsD_of_wpS (OK.F _ _ hG).1 hb λc₀ cs hu=>wpS_seq (wpS_region ?_);rw[hrg]
 let a0:Act:={tmps:=cv++Array.replicate (gn.ntmps -cv.size) undef,defers:=[]}
 have hsz:a0.tmps.size=caps.length+(gn.ntmps -caps.length):=by simp[a0,hlen]
 obtain⟨q,st1,e1,G⟩:=BY OK PT os 1 (λi o' hi=>by rw[<-lR,hops,Nat.add_comm];exact hi) _ _ _ e;obtain⟨rfl,e2⟩:=Lu e1;have run:(execOp a0.eval o).run P w=.ok .recover w:=by
  have:c.args=#[]:=by simpa using harg
  unfold execOp resolve;simp only[hop,hcal,this];rfl
 have key:∀(y:Qu)(u':FrameMode),settle u'=.returning->DV σ rv y->wpOpsS P ops (Exit.thenS (rest.wpS P (bodyPostS P gn c₀ cs λe u' w'=>∃v,e=.returned v/\settle u'=.returning/\∃st',K st'=some b/\∃σ',dK B σ' st' a w')) (bodyPostS P gn c₀ cs λe u' w'=>∃v,e=.returned v/\settle u'=.returning/\∃st',K st'=some b/\∃σ',dK B σ' st' a w')) (List.range' 1 os.length) (a0.put o.dst y) ({c₀ with mode:=u'}::cs) w:=by
  intro y u' hu' dy
  let B2:Bs:=⟨B.w,B.own,σ.lit,st.sx,σ.nm,caps.length+(gn.ntmps -caps.length),[]⟩
  refine Fe (λa w q=>by obtain⟨_,_,h,_⟩:=q;cases h) _ (G (B:=B2) (σ:=σ) rfl ⟨by rw[hdst];simp[Act.put,hsz,B2],by rw[hdst];rfl,?_,R.mem.Qz⟩ _ ?_)
  ·rw[hdst];exact(tM (CQ d (dQ:=[]))).put (Ext.refl _) (d:=some dR) (λk hk=>by cases hk;show dR<a0.tmps.size;rw[hsz];exact fb hlt) dy
  ·intro σ1 a1 w1 R1;refine wpS_of_wp (wp_mono (λb k cs=>(tH (fn:=gn) (B:=B2) (C:={C with n:=caps.length+(gn.ntmps -caps.length),rs:=[],lv:=lvg,jv:=jvg,un:=ung,df:=true,an:=st.sx,iw:=λ_ st2=>K ⟨st.tm,st2.h,st2.sx⟩,mj:=λ_ _=>bC 62}) OK mx PT hres rfl rfl _ _ _ _ _ e2 (λr hr=>by cases hr) R1) b k cs) λx a2 w2 q=>?_)
   have fin2:(∃σ2 st2 sv,dK B2 σ2 st2 a2 w2/\K ⟨st.tm,st2.h,st2.sx⟩=some b/\sv=SV.aH [])->a2.defers=[]/\∃u2,({c₀ with mode:=u'}:Frame)::cs={c₀ with mode:=u2}::cs/\∃v,(results gn a2.tmps).run P w2=.ok v w2/\∃v2,Ending.returned v=.returned v2/\settle u2=.returning/\∃st',K st'=some b/\∃σ',dK B σ' st' a w2:=λ⟨σ2,st2,_,r,kr,_⟩=>by
    obtain⟨E,M⟩:=R.mem.ZJ (ha▸han) r.mem;refine⟨r.dQ,u',rfl,.tuple #[],?_,_,rfl,hu',_,kr,σ2,R.size,R.dQ,λt sv h=>(R.ev t sv h).mono E,M⟩;have:gn.results=#[]:=by simpa using hres
    simp[results,this]
   cases x with
   |normal=>exact fin2 q
   |ret=>exact fin2 q
   |panic ch=>obtain⟨_,_,_,_,_,kp,_⟩:=q;cases kp
   |_=>exact q.elim
 unfold wpOpsS;have hw:Region.wanted o (yielded ops a0.tmps)=true:=by unfold Region.wanted;rw[hgd]
 simp only[ho];rw[ay hw];rcases hm with⟨rfl,rfl⟩|⟨v,rfl,dv⟩
 ·have hr:recoverD (c₀::cs)=none:=by unfold recoverD;simp only[hu]
  have hc:({c₀ with mode:=.returning}:Frame)=c₀:=by rw[<-hu]
  have:=key .nilIface .returning rfl .ni;rw[hc] at this;rw[show(execOp ({tmps:=cv++Array.replicate (gn.ntmps -cv.size) undef,defers:=[]}:Act).eval o).run P w=.ok .recover w from run];simp only[hr];exact this
 ·have hr:recoverD (c₀::cs)=some (v,{c₀ with mode:=.panicking [{v:=v,recovered:=true}]}::cs):=by unfold recoverD;simp only[hu,pe]
  rw[show(execOp ({tmps:=cv++Array.replicate (gn.ntmps -cv.size) undef,defers:=[]}:Act).eval o).run P w=.ok .recover w from run];simp only[hr];exact key v _ rfl dv
theorem Q8{P:Program}{C:Ctx β}(OK:iP P C.X)(mx:P.follows .mixedOrders=true)(PT:nD P C.pt){f:FuncId}{fn:Func}(hF:P.funcs[f]? =some fn){body:Code}(hb:fn.body=some body)(hrs:fn.results.toList=C.rs)(hdf:C.df=false){g:FuncId}{gn:Func}(hG:C.X.F.get g=some gn)(hres:gn.results.toList=[]){lvg jvg:Nat->Zh cL}{ung:Nat->Bool}{st:St}{b:β}
 (e:DS C g gn lvg jvg ung body st=some b) {B:Bs} (hn:B.n=C.n) (ha:B.an=C.an) (hB:B.dQ=[]) {σ:Ren} {args:Array Qu} {w:Hx} (R:dK B σ st {tmps:=args++Array.replicate (fn.ntmps -args.size) undef,defers:=[]} w) {Rp:Ending->Hx->Prop}
 (k:∀{σ:Ren}{st:St}{sv:SV}{a:Act}{w':Hx}{v:Qu},dK B σ st a w'->DV σ sv v->C.iw sv st=some b->Rp (.returned v) w'):Calls P f args w Rp:=by
 unfold DS at e;split at e
 case h_2=>cases e
 rename_i id0 ops0 id1 ops1 rest;obtain⟨q,st1,e1,G1⟩:=BY OK PT ops0.toList 0 (λi o ho=>by rw[fI,<-lR];exact ho) _ _ _ e;obtain⟨rfl,e2⟩:=Lu e1;split at e2
 case h_2=>cases e2
 rename_i o1 o2 hops;split at e2
 case h_2=>cases e2
 rename_i hg1;obtain⟨e3,hd1⟩:=Rj e2;obtain⟨q,sv,st2,e4,hx,ht,D⟩:=Mi OK PT e3;obtain⟨rfl,e5⟩:=Lu e4;have ht:st2.tm=kN st1.tm o1.dst sv:=by rcases ht with h|h;exact h.2;cases h.1
 obtain⟨t,e6,hd2,hg2,c,hop,hcal,harg⟩:=aaY e5;obtain⟨fv,hfv,e7⟩:=ax e6;split at e7
 case h_2=>cases e7
 rename_i g' caps;obtain⟨hq,e8⟩:=aW e7;simp only[bt] at hq;have hgg:=bT hq.1;have hsm:=fb hq.2.1;have han:=dW hq.2.2;subst hgg;have ho1:ops1[0]? =some o1:=by rw[<-lR,hops];rfl
 have ho2:ops1[1]? =some o2:=by rw[<-lR,hops];rfl
 have hrg1:List.range ops1.size=[0,1]:=by rw[show ops1.size=2 by rw[<-Array.length_toList,hops];rfl];rfl
 have leave:∀{σ:Ren}{st:St}{a:Act}{w:Hx},xH C st=some b->dK B σ st a w->Leaves P fn a.tmps Rp [] .returning w:=λ{σ st a w} h R=>by obtain⟨σ',st',sv,R',kr,q⟩:=Kr (fn:=fn) OK.T hrs (st:=st) (b:=b) (by rw[hdf];exact h) R;rw[hdf] at q;obtain⟨v,q1,q2⟩:=q;exact⟨v,q1,k R' q2 kr⟩
 have G:nC P [.code (.seq (.region id0 ops0 false) (.seq (.region id1 ops1 false) rest))] (λe a w=>bodyPostD P fn Rp e a w) {tmps:=args++Array.replicate (fn.ntmps -args.size) undef,defers:=[]} w:=by
  refine .step (T':=[.code (.region id0 ops0 false),.code (.seq (.region id1 ops1 false) rest)]) (λ_ _ _=>step_seq) (.code (wp_region ?_));rw[(show List.range ops0.size=List.range' 0 ops0.toList.length from by rw[List.range_eq_range'];simp)];refine G1 hn R _ λσ1 a1 w1 R1=>?_;refine .step (T':=[.code (.region id1 ops1 false),.code rest]) (λ_ _ _=>step_seq) (.code (wp_region ?_));rw[hrg1,wpOps_cons];have hw1:Region.wanted o1 (yielded ops1 a1.tmps)=true:=by unfold Region.wanted;rw[hg1]
  unfold wpOp;simp only[ho1,hw1,ea];refine .inl (D a1 R1.ev (λ_ h _=>h) R1.mem _ _ λσ2 v w2 E dv M=>?_);have R2:dK B σ2 st2 (a1.put o1.dst v) w2:=by have:=R1.put E (jb.next hx M) (λk hk=>by rw[hn];exact hd1 k hk) dv;rwa[<-ht] at this
  generalize a1.put o1.dst v=a2 at R2;have hw2:Region.wanted o2 (yielded ops1 a2.tmps)=true:=by unfold Region.wanted;rw[hg2]
  have dfv:=R2.ev t _ hfv;generalize hfx:a2.eval (.tmp t)=fx at dfv;cases dfv with
  |fn hl hr=>
  rename_i cv;rw[Kw hsm] at hfx;have dcv:eR σ2 caps cv:=⟨hl,hr⟩
  let d:Deferred:={target:=.fn (.func g') ⟨cv⟩,args:=#[]}
  have run:(execOp a2.eval o2).run P w2=.ok (.defer d) w2:=by
   have:c.args=#[]:=by simpa using harg
   unfold execOp resolve;simp[hop,hcal,this,hfx,Deferred.ofValue,d]
  rw[wpOps_cons];unfold wpOp;simp only[ho2,hw2,ea];refine .inl ?_;unfold Oper.wp;rw[run,Oper.upon_defer,hd2,R2.dQ,hB];show nC P [.code rest] _ {tmps:=a2.tmps,defers:=[d]} w2
  let B2:Bs:=⟨B.w,B.own,σ2.lit,st2.sx,σ2.nm,B.n,[d]⟩
  have inv:∀w,(invoke d.target d.args).run P w=.ok (.enter g' ⟨cv⟩) w:=λw=>by
   obtain⟨f1,f2,f3⟩:=OK.F _ _ hG;have h4:gn.body.isNone=false:=by cases hb:gn.body with
    |none=>rw[hb] at f3;cases f3
    |some b=>rfl
   unfold invoke callFunc;simp only[d,cU,run_program,eA,f1,f2,h4,kB,gR,eE];simp
  have dn2:=tH (fn:=fn) (B:=B2) (C:={C with df:=true,an:=st2.sx,iw:=λ_ st3=>vf C gn lvg jvg ung caps .ni st3 (xH C),mj:=λrv st3=>vf C gn lvg jvg ung caps rv st3 (xH C)}) OK mx PT hrs hn rfl _ _ _ _ _ e8 (λr hr=>by cases hr) (σ:=σ2) (a:={tmps:=a2.tmps,defers:=[d]}) (w:=w2) ⟨R2.size,rfl,R2.ev,R2.mem.Qz⟩
  have last:∀{u:FrameMode}{σ3:Ren}{st3:St}{rv:SV}{a3:Act}{w3:Hx},u≠.run->(u=.returning/\rv=.ni)\/(∃v,u=.panicking [pe v]/\DV σ3 rv v)->vf C gn lvg jvg ung caps rv st3 (xH C)=some b->dK B2 σ3 st3 a3 w3->Leaves P fn a3.tmps Rp a3.defers u w3:=by intro u σ3 st3 rv a3 w3 hu hm kr R3;obtain⟨E3,M3⟩:=R2.mem.ZJ (ha▸han) R3.mem;rw[R3.dQ];have Rx:dK B σ3 st3 {tmps:=a3.tmps,defers:=[]} w3:=⟨R3.size,hB.symm,R3.ev,M3⟩;refine leaves_cons hu (inv w3) (CallsD.mono (aay OK mx PT hG hres kr ha hm Rx (show eR σ3 caps (⟨cv⟩:Array Qu).toList from dcv.mono E3)) λx u' w' ⟨v,h1,h2,st',h3,σ',R'⟩=>?_);subst h1;show Leaves P fn a3.tmps Rp [] (settle u') w';rw[h2];exact leave (a:={tmps:=a3.tmps,defers:=[]}) h3 R'
  intro b0 k0 cs0;obtain⟨x,a3,w3,q,arr⟩:=dn2 b0 k0 cs0;refine⟨x,a3,w3,?_,arr⟩;cases x with
  |normal=>obtain⟨σ3,st3,sv3,R3,kr,_⟩:=q;exact last (by simp) (.inl ⟨rfl,rfl⟩) kr R3
  |ret=>obtain⟨σ3,st3,sv3,R3,kr,_⟩:=q;exact last (by simp) (.inl ⟨rfl,rfl⟩) kr R3
  |panic ch=>obtain⟨σ3,st3,sv3,v3,R3,kr,rfl,dv3⟩:=q;exact last (by simp) (.inr ⟨v3,rfl,dv3⟩) kr R3
  |_=>exact q.elim
 exact calls_of_wp_defers hF hb λb k cs=>G b k cs
end
end
section
variable[QF]
noncomputable def aag{β:Type}(C:Ctx β)(g:FuncId)(gn:Func)(lvg jvg:Nat->Zh cL)(ung:Nat->Bool)(avt:H1 VT)(body:Code)(ls:H1 bq):Zh β:=
 ob (wM avt ls) λq=>DS C g gn lvg jvg ung body ⟨oX q.1 0 .nil,.nil,0⟩
noncomputable def aai(w:Nat)(X:eC)(pt:(β:Type)->FuncId->Zh (cD β))(fn:Func)(g:FuncId)(gn:Func)(avt:H1 VT)(rvt:VT)(lv jv:Nat->Zh cL)(un:Nat->Bool)(lvg jvg:Nat->Zh cL)(ung:Nat->Bool):Fn (VT.fu avt) (Zh (bL rvt.ks)):=
 mc (VT.fu avt) (aag {X:=X,pt:=pt _,n:=avt.length+(fn.ntmps -avt.length),rs:=fn.results.toList,lv:=lv,jv:=jv,un:=un,df:=false,fuel:=w,an:=0,iw:=λsv st=>AH st rvt sv (dec rvt.ks),mj:=λ_ _=>none} g gn lvg jvg ung avt (fn.body.getD .skip))
theorem abE{P:Program}{X:eC}(OK:iP P X)(mx:P.follows .mixedOrders=true){pt:(β:Type)->FuncId->Zh (cD β)}(PT:jn P pt){f:FuncId}{fn:Func}{g:FuncId}{gn:Func}{avt:H1 VT}{rvt:VT}{lv jv:Nat->Zh cL}{un:Nat->Bool}{lvg jvg:Nat->Zh cL}{ung:Nat->Bool}{w:Nat}{Sh:Fn (VT.fu avt) (Zh (bL rvt.ks))}
 (hF:X.F.get f=some fn) (hb:fn.body=some (fn.body.getD .skip)) (hG:X.F.get g=some gn) (hres:gn.results.toList=[]) (hS:Sh=aai w X pt fn g gn avt rvt lv jv un lvg jvg ung):cQ P f avt rvt Sh:=by
 intro ls r e lo us hu m args' w0 K A;subst hS;have e1:=nG _ _ _ _ e;obtain⟨⟨svs,rest⟩,h1,e2⟩:=ax e1;obtain⟨_,q1,_⟩:=xC avt ls _ _ _ _ lo hu h1;have hl:args'.size=avt.length:=by rw[<-JU _ _ _ _ hu,<-Array.length_toList];exact A.1.symm
 refine Q8 (B:=⟨w0,λ_=>False,m,0,λ_=>none,avt.length+(fn.ntmps -avt.length),[]⟩) OK mx (PT _) (OK.F _ _ hF).1 hb rfl rfl hG hres e2 rfl rfl rfl (σ:=⟨λ_=>none,m⟩) ⟨by simp[hl],rfl,tM (CQ (q1 A) (dQ:=[])),Mem.start K⟩ λR d kr=>?_;obtain⟨ls',f1,f3⟩:=Ky _ _ _ _ kr;obtain⟨pv,g1,g3⟩:=f3 [];rw[dP,<-qk _ _ _ f1] at g1;obtain⟨z1,z2⟩:=g3 (Mem.XG K R.mem) d;rw[<-qk _ _ _ f1] at z2;exact⟨_,rfl,R.mem.base.below,pv,g1,z2,z1⟩
noncomputable def aah(w:Nat)(X:eC)(pt:(β:Type)->FuncId->Zh (cD β))(fn:Func)(g:FuncId)(gn:Func)(T:HT)(lv jv:Nat->Zh cL)(un:Nat->Bool)(lvg jvg:Nat->Zh cL)(ung:Nat->Bool):Fn T.ti.ks (Zh (bL T.to.ks)):=
 mc T.ti.ks λls=>ob (iy T.ti ls) λst=>DS {X:=X,pt:=pt _,n:=T.n+(fn.ntmps -T.n),rs:=fn.results.toList,lv:=lv,jv:=jv,un:=un,df:=false,fuel:=w,an:=T.an,iw:=λsv st=>lk T.an T.to ⟨Tr.nil.set 0 sv,st.h,st.sx⟩ (dec T.to.ks),mj:=λ_ _=>bC 52} g gn lvg jvg ung (fn.body.getD .skip) st
theorem abF{P:Program}{X:eC}(OK:iP P X)(mx:P.follows .mixedOrders=true){pt:(β:Type)->FuncId->Zh (cD β)}(PT:jn P pt){f:FuncId}{fn:Func}{g:FuncId}{gn:Func}{T:HT}{lv jv:Nat->Zh cL}{un:Nat->Bool}{lvg jvg:Nat->Zh cL}{ung:Nat->Bool}{w:Nat}{Sh:Fn T.ti.ks (Zh (bL T.to.ks))}
 (hF:X.F.get f=some fn) (hb:fn.body=some (fn.body.getD .skip)) (hG:X.F.get g=some gn) (hres:gn.results.toList=[]) (hS:Sh=aah w X pt fn g gn T lv jv un lvg jvg ung):nB P f T Sh:=by
 intro ls r st so e hst hso B σ w0 args' hn ha ev M;subst hS;have e1:=nG _ _ _ _ e;obtain⟨st1,g1,e2⟩:=ax e1;rw[hst] at g1;cases g1;refine Q8 (B:={B with n:=T.n+(fn.ntmps -T.n),dQ:=[]}) OK mx (PT _) (OK.F _ _ hF).1 hb rfl rfl hG hres e2 rfl ha rfl ⟨by simp[hn],rfl,tM ev,M.nd⟩ λR d kr=>?_
 obtain⟨σ3,z1,z2⟩:=yp (B:=B) (by rw[ha];exact kr) (λls q=>qk _ _ _ q) hso d R.mem.nd;exact⟨σ3,_,rfl,z1,z2⟩
end
theorem DI{a b:Bool}(h:cond a b false=true):a=true/\b=true:=nI h
theorem vE{P:Program}{t:Nat}{inf:TypeInfo}(h:P.types[t]? =some inf):P.info? t=some inf:=by
 unfold Tables.info?
 grind
def Da(P:Program)(t:Nat):Prop:=(∃k,P.underlying t=some (.int k))/\∃inf,P.info? t=some inf/\inf.size=1
def Ea:H1 Field->Nat->(Nat->Bool)->Bool
 |[],_,_=>true
 |f::fs,n,ints=>cond (f.name== "_") false (cond (Nat.beq f.offset n) (cond (ints f.type) (Ea fs (n+1) ints) false) false)
theorem RW{P:Program}{ints:Nat->Bool}(hi:∀t,ints t=true->Da P t):∀(fs:H1 Field)(n:Nat),Ea fs n ints=true->∀(i:Nat)(f:Field),fs[i]? =some f->f.name≠ "_"/\f.offset=n+i/\Da P f.type
 |[],n,_,i,f,h=>by grind
 |g::fs,n,e,i,f,h=>by
  unfold Ea at e;cases hn:(g.name== "_") with
  |true=>grind
  |false=>
   simp only[hn] at e;obtain⟨e1,e2⟩:=DI e;obtain⟨e3,e4⟩:=DI e2;cases i with
   |zero=>simp_all
   |succ i=>
    obtain⟨a,b,c⟩:=RW hi fs (n+1) e4 i f (by grind)
    grind
def Kt(ints:Nat->Bool)(n:Nat):TypeDesc->Bool
 | .struct fs=>cond (Nat.beq fs.toList.length n) (Ea fs.toList 0 ints) false
 | .array len e=>cond (Nat.beq len n) (ints e) false
 |_=>false
theorem abB{P:Program}{ints:Nat->Bool}(hi:∀t,ints t=true->Da P t){n:Nat}{d:TypeDesc}(h:Kt ints n d=true):zO P n d:=by
 unfold Kt at h;split at h
 ·rename_i fs;obtain⟨h1,h2⟩:=DI h;have:=bT h1;refine⟨by simpa using this,λi f hf=>?_⟩;obtain⟨a,b,c⟩:=RW hi _ _ h2 i f (by grind);exact⟨a,by omega,c⟩
 ·rename_i len e;obtain⟨h1,h2⟩:=DI h;exact⟨bT h1,hi _ h2⟩
 grind
def tX{α:Type}:H1 (Nat×α)->Tr α
 |[]=>.nil
 |(n,x)::l=>(tX l).set n x
theorem xW{α:Type}:∀{l:H1 (Nat×α)}{n:Nat}{x:α},(tX l).get n=some x->(n,x)∈l
 |[],n,x,h=>by rw[tX,Tr.get_nil] at h;cases h
 |(m,y)::l,n,x,h=>by
  rw[tX,Tr.fN] at h;by_cases e:n=m
  ·grind
  ·rw[aq e] at h;exact lU _ (xW h)
structure Qj(P:Program)(t:Nat)(i:jd):Prop where
 under:P.underlying t=some i.desc
 info:∃inf,P.info? t=some inf/\inf.size=i.size/\inf.bytes=i.bytes/\∀z,i.zero=some z->inf.zero=some z
 flat:i.flat=true->P.eqGuardType P.depth t=false/\P.stoodInHeld t=false/\zO P i.size i.desc
 Lk:∀e∈i.direct,∃inf m,P.info? t=some inf/\inf.methods.find? (·.name==e.1)=some m/\m.path=#[]/\m.func=some (e.2,false)/\∀u,i.desc≠.pointer u
theorem amc{P:Program}{T:TT}{F:FT}{M:H1 TypeId}{lT:H1 (Nat×jd)}{lF:H1 (Nat×Func)}(eT:T=tX lT)(eF:F=tX lF)(hT:∀p∈lT,Qj P p.1 p.2)(hF:∀p∈lF,P.funcs[p.1]? =some p.2 /\(p.2.name== "runtime.NumGoroutine")=false/\p.2.body.isSome=true):iP P ⟨T,F,M⟩:=by subst eT eF;exact⟨⟨λt i h=>(hT _ (xW h)).under,λt i h=>(hT _ (xW h)).info,λt i h=>(hT _ (xW h)).flat,λt i h=>(hT _ (xW h)).Lk⟩,λf fn h=>hF _ (xW h)⟩
section
variable{β:Type}
theorem Ek{x:SV}{id:Nat}(h:id∈SV.ids x):∀{l:H1 SV},x∈l->id∈SV.kg l
 |y::l,hx=>by
  unfold SV.kg;rcases cX.1 hx with rfl|hx
  ·exact List.mem_append_left _ h
  ·exact List.mem_append_right _ (Ek h hx)
theorem DV.via{σ σ':Ren}(hl:σ'.lit=σ.lit){x:SV}{v:Qu}(d:DV σ x v):(∀id∈SV.ids x,∀z,σ.nm id=some z->σ'.nm id=some z)->DV σ' x v:=by
 have sub:∀{l:H1 SV}{i:Nat}{x:SV}{p:Nat->Prop},(∀id∈SV.kg l,p id)->l[i]? =some x->∀id∈SV.ids x,p id:=λh e id q=>h id (Ek q (ou e));induction d with
 |i=>exactλ_=>.i _ _
 |b=>exactλ_=>.b _
 |s=>exactλ_=>.s _
 |v h h1=>exactλ_=>.v (hl▸h) h1
 |nl=>exactλ_=>.nl
 |agg kl _ ih=>exactλp=>.agg kl λi x y a b=>ih i x y a b (sub (by unfold SV.ids at p;exact p) a)
 |aH kl _ ih=>exactλp=>.aH kl λi x y a b=>ih i x y a b (sub (by unfold SV.ids at p;exact p) a)
 |ptr h=>exactλp=>.ptr (p _ (by unfold SV.ids;simp) _ h)
 |lp h=>exactλ_=>.lp (hl▸h)
 |sl h hn=>exactλp=>.sl (p _ (by unfold SV.ids;simp) _ h) hn
 |jJ h=>exactλp=>.jJ (p _ (by unfold SV.ids;simp) _ h)
 |gr h hc hn=>exactλp=>.gr (p _ (by unfold SV.ids;simp) _ h) hc hn
 |fn kl _ ih=>exactλp=>.fn kl λi x y a b=>ih i x y a b (sub (by unfold SV.ids at p;exact p) a)
 |fe _ ih=>exactλp=>.fe (ih (by unfold SV.ids at p;exact p))
 |em h=>exactλ_=>.em (hl▸h)
 |ni=>exactλ_=>.ni
 |mp h=>exactλp=>.mp (p _ (by unfold SV.ids;simp) _ h)
def CR(p:Nat->Bool):SO->Bool
 | .cells c _=>(SV.kg c).all p
 | .mp es=>es.all λe=>(SV.ids e.2).all p
 |_=>true
theorem DO.via{σ σ':Ren}(hl:σ'.lit=σ.lit){w:Hx}{id:Nat}{so:SO}(d:DO σ w id so){p:Nat->Bool}(h:∀id,p id=true->∀z,σ.nm id=some z->σ'.nm id=some z)(hi:p id=true)(hs:CR p so=true):DO σ' w id so:=by
 have e:=h id hi;cases so with
 |cells c t=>obtain⟨o,n,vs,a,b,c⟩:=d;exact⟨o,n,vs,e _ a,b,c.1,λi x y h1 h2=>(c.2 i x y h1 h2).via hl λk hk=>h k (iE.1 hs k (Ek hk (ou h1)))⟩
 |arr c t=>obtain⟨o,n,vs,a,b,c⟩:=d;exact⟨o,n,vs,e _ a,b,hl▸c⟩
 |grow E c t=>
  obtain⟨a,q,g⟩:=d;refine⟨a,q,?_⟩;rcases g with⟨g,k⟩|⟨o,n,cs,g,k⟩
  ·exact .inl ⟨e _ g,k⟩
  ·exact .inr ⟨o,n,cs,e _ g,hl▸k⟩
 |mp es=>obtain⟨o,n,es',ck,a,b,c⟩:=d;exact⟨o,n,es',ck,e _ a,b,c.1,λi x y h1 h2=>have q:=c.2 i x y h1 h2;⟨q.1,q.2.via hl λk hk=>h k (iE.1 (iE.1 hs x (ou h1)) k hk)⟩⟩
def rW(f:Nat->SO->Bool):Tr SO->Nat->Nat->Bool
 | .nil,_,_=>true
 | .node v l r,a,b=>(match v with|some x=>f b x|none=>true)&&(rW f l (2*a) (a+b)&&rW f r (2*a) (2*a+b))
theorem Jm{f:Nat->SO->Bool}:∀(p:jD){t:Tr SO}{a b:Nat}{x:SO},rW f t a b=true->walk p t=some x->f (a*p.num+b) x=true
 |p,.nil,a,b,x,h,e=>by rw[IM] at e;cases e
 | .z,.node v l r,a,b,x,h,e=>by
  unfold rW at h;rw[bt] at h;cases v with
  |none=>cases e
  |some y=>have e:some y=some x:=e;cases e;rw[show a*jD.z.num+b=b by unfold jD.num;omega];exact h.1
 | .l p,.node v l r,a,b,x,h,e=>by unfold rW at h;rw[bt,bt] at h;have:=Jm p h.2.1 (show walk p l=some x from e);rw[show a*(jD.l p).num+b=2*a*p.num+(a+b) by show a*(2*p.num+1)+b=_;rw[Nat.mul_add,<-Nat.mul_assoc,nw a 2];omega];exact this
 | .r p,.node v l r,a,b,x,h,e=>by unfold rW at h;rw[bt,bt] at h;have:=Jm p h.2.2 (show walk p r=some x from e);rw[show a*(jD.r p).num+b=2*a*p.num+(2*a+b) by show a*(2*p.num+2)+b=_;rw[Nat.mul_add,<-Nat.mul_assoc,nw a 2];omega];exact this
theorem Qw{f:Nat->SO->Bool}{t:Tr SO}(h:rW f t 1 0=true){n:Nat}{x:SO}(e:t.get n=some x):f n x=true:=by have:=Jm (sI n) h e;rwa[show(sI n).num=n from Bt _ _ (kT _),Nat.one_mul,Nat.add_zero] at this
def qq(h:Tr SO)(i:Nat):Bool:=match h.get i with
 |some _=>true
 |none=>false
def vG(h:Tr SO)(sx i:Nat):Bool:=Nat.ble sx i||qq h i
section
variable[QF]
noncomputable def SQ(X:eC)(pt:(β:Type)->FuncId->Zh (cD β))(fn:Func)(lv jv:Nat->Zh cL)(un:Nat->Bool)(w n sx:Nat):Ctx (Bool×SV×St):=
 {X:=X,pt:=pt _,n:=n+(fn.ntmps -n),rs:=fn.results.toList,lv:=lv,jv:=jv,un:=un,df:=false,fuel:=w,an:=sx,iw:=λsv st=>some (false,sv,st),mj:=λsv st=>some (true,sv,st)}
noncomputable def inl(X:eC)(pt:(β:Type)->FuncId->Zh (cD β))(fn:Func)(lv jv:Nat->Zh cL)(un:Nat->Bool)(w:Nat):cD β:=λst args K=>
 cond (rW (λi so=>Nat.blt i st.sx&&CR (qq st.h) so) st.h 1 0&&(SV.kg args).all (qq st.h))
  (ob (dn (SQ X pt fn lv jv un w args.length st.sx) 100000 [] [.code (fn.body.getD .skip)] ⟨oX args 0 .nil,st.h,st.sx⟩) λr=>
   cond (Nat.ble st.sx r.2.2.sx&&(rW (λi so=>vG st.h st.sx i&&CR (vG st.h st.sx) so) r.2.2.h 1 0&&(SV.ids r.2.1).all (vG st.h st.sx)))
    (K r.1 r.2.1 ⟨st.tm,r.2.2.h,r.2.2.sx⟩) (bC 81)) (bC 82)
theorem acg{P:Program}{X:eC}(OK:iP P X)(mx:P.follows .mixedOrders=true){pt:(β:Type)->FuncId->Zh (cD β)}(PT:jn P pt){g:FuncId}{fn:Func}(hF:X.F.get g=some fn)(hb:fn.body=some (fn.body.getD .skip)){lv jv:Nat->Zh cL}{un:Nat->Bool}{w:Nat}:mM P g (inl (β:=β) X pt fn lv jv un w):=by
 intro st args K b e;obtain⟨c0,e⟩:=aW e;obtain⟨⟨p,sv,st'⟩,e1,e⟩:=ax e;obtain⟨c1,e⟩:=aW e;simp only[bt] at c0 c1;obtain⟨c2,c3⟩:=c0;obtain⟨c4,c5,c6⟩:=c1;have hx:st.sx<=st'.sx:=dW c4;refine⟨p,sv,_,e,rfl,hx,λ{B σ F w0} hN M args' d=>?_⟩;have lv0:∀{id so},st.h.get id=some so->qq st.h id=true:=λh=>by unfold qq;rw[h]
 have lt0:∀{id so},st.h.get id=some so->id<st.sx/\CR (qq st.h) so=true:=λh=>by have:=Qw c2 h;rw[bt] at this;exact⟨fb this.1,this.2⟩
 let σ0:Ren:=⟨λid=>if qq st.h id then σ.nm id else none,σ.lit⟩
 have to0:∀id,qq st.h id=true->∀z,σ.nm id=some z->σ0.nm id=some z:=λid h z hz=>by show(if _ then _ else _)=_;rw[ay h];exact hz
 have of0:∀{id z},σ0.nm id=some z->σ.nm id=some z:=λ{id z} h=>by
  replace h:(if qq st.h id then σ.nm id else none)=some z:=h;split at h
  ·exact h
  ·cases h
 have Fi:∀b,Own σ0 (hG st.h) b->Own σ (hG st.h) b:=λb ⟨i,s,o,n,a,p,q⟩=>⟨i,s,o,n,a,of0 p,q⟩
 let B2:Bs:=⟨w0,Own σ (hG st.h),σ.lit,st.sx,σ0.nm,args.length+(fn.ntmps -args.length),[]⟩
 have fr0:∀id,st.sx<=id->σ0.nm id=none:=λid h=>by
  show(if _ then _ else _)=_;rw[aq];intro q;unfold qq at q;split at q
  ·rename_i s hs;have:=(lt0 hs).1;omega
  ·cases q
 have M0:jb B2 σ0 st.h st.sx w0:=⟨λid so h=>(M.obj id so h).via (σ:=σ) (σ':=σ0) rfl to0 (lv0 h) (lt0 h).2,λi j s s' o o' n n' a a' p p' q=>M.inj _ _ _ _ _ _ _ _ a a' (of0 p) (of0 p') q,fr0,M.lit,λb i v h q=>M.free b i v h (Fi b q),eS.refl _ _,λb q=>.inl (Fi b q),λ_ _ _ q=>.inl q,λ_ _ _ q=>q,λ_ _ _ q=>q⟩;have dv0:eR σ0 args args'.toList:=⟨d.1,λi x y h1 h2=>(d.2 i x y h1 h2).via (σ:=σ) (σ':=σ0) rfl λid hid=>to0 id (iE.1 c3 id (Ek hid (ou h1)))⟩;have hl:args'.size=args.length:=by rw[<-Array.length_toList];exact d.1.symm
 have fin:∀{σ':Ren}{a:Act}{w':Hx}{v:Qu},dK B2 σ' st' a w'->DV σ' sv v->∃σn v',End p v=End p v'/\Ext σ σn/\DV σn sv v'/\Mem B σn (hG st'.h) (mf F st.sx st'.sx) w':=by
  intro σ' a w' v R dv
  let σn:Ren:=⟨λid=>if st.sx<=id/\id<st'.sx then σ'.nm id else σ.nm id,σ'.lit⟩
  have E:Ext σ σn:=⟨λid x e=>by show(if _ then _ else _)=_;rw[aq λq=>by rw[M.fresh id (hN id q.1 q.2)] at e;cases e];exact e,R.mem.mW⟩;have key:∀id,vG st.h st.sx id=true->∀z,σ'.nm id=some z->σn.nm id=some z:=λid h z hz=>by
   by_cases q:st.sx<=id
   ·have:id<st'.sx:=Nat.not_le.1 λq=>by rw[R.mem.fresh id q] at hz;cases hz
    show(if _ then _ else _)=_;rw[ay ⟨q,this⟩];exact hz
   ·unfold vG at h;rw[sZ] at h;rcases h with h|h
    ·exact absurd (dW h) q
    ·have ex:∃so,st.h.get id=some so:=by
      unfold qq at h;split at h
      ·rename_i s hs;exact⟨s,hs⟩
      ·cases h
     obtain⟨so,hso⟩:=ex;have hy:∃y,σ.nm id=some y:=(M.obj id so hso).nm.elim (λq=>⟨_,q⟩) λ⟨_,_,q,_⟩=>⟨_,q⟩;obtain⟨y,hy⟩:=hy;have:=R.mem.jU id (Nat.not_le.1 q) y (to0 id h y hy);rw[hz] at this;cases this;exact E.nm _ _ hy
  have kp:∀{id so},st'.h.get id=some so->vG st.h st.sx id=true/\CR (vG st.h st.sx) so=true:=λh=>by have:=Qw c5 h;rwa[bt] at this
  have back:∀{id so o n},st'.h.get id=some so->σn.nm id=some (some o,n)->σ'.nm id=some (some o,n):=λ{id so o n} h1 h2=>by rcases(R.mem.obj id so h1).nm with q|⟨_,_,q,_⟩<;>rw[key _ (kp h1).1 _ q] at h2<;>cases h2;exact q
  have M3:Mem (BE w0 (Own σ (hG st.h)) σ.lit) σn (hG st'.h) (mf F st.sx st'.sx) w':=
   ⟨λid so h=>(R.mem.obj id so h).via (σ:=σ') (σ':=σn) rfl key (kp h).1 (kp h).2,λi j s s' o o' n n' a a' p p' q=>R.mem.inj _ _ _ _ _ _ _ _ a a' (back a p) (back a' p') q,λid h=>by show(if _ then _ else _)=_;rw[aq h.2];exact M.fresh id h.1,R.mem.lit,λb i v h ⟨i',s,o,n,a,p,q⟩=>R.mem.free b i v h ⟨i',s,o,n,a,back a p,q⟩,R.mem.base,λb ⟨i',s,o,n,a,p,q⟩=>R.mem.owned b ⟨i',s,o,n,a,back a p,q⟩,R.mem.lP,λk hk=>(Nat.not_lt_zero k hk).elim,R.mem.mW⟩
  exact⟨σn,v,rfl,E,dv.via (σ:=σ') (σ':=σn) rfl λid h=>key id (iE.1 c6 id h),(M.frame (λ_ _ h=>h) E M3).less (λ_ _ h=>.inl h) λ_ h=>h⟩
 refine Av (C:=SQ X pt fn lv jv un w args.length st.sx) (B:=B2) (b:=(p,sv,st')) (OK.F _ _ hF).1 hb rfl rfl (tH OK mx (PT _) rfl rfl rfl _ _ _ _ _ e1 (λr hr=>by cases hr) ⟨by simp[hl,B2],rfl,tM (CQ dv0 (dQ:=[])),M0⟩) λR dv=>⟨λkr=>?_,λkp=>?_⟩
 ·cases kr;exact fin R dv
 ·cases kp;exact fin R dv
noncomputable def MD(pt pi:(β:Type)->FuncId->Zh (cD β))(g:FuncId)(X:eC)(fn:Func)(lv:Nat->Zh cL)(un:Nat->Bool)(w:Nat):(β:Type)->FuncId->Zh (cD β):=
 λβ f=>cond (Nat.beq f g) (some (inl X pi fn lv (λ_=>none) un w)) (pt β f)
theorem ahx{P:Program}{X:eC}(OK:iP P X)(mx:P.follows .mixedOrders=true){pt pi:(β:Type)->FuncId->Zh (cD β)}(PT:jn P pt)(PI:jn P pi){g:FuncId}{fn:Func}(hF:X.F.get g=some fn)(hb:fn.body=some (fn.body.getD .skip)){lv:Nat->Zh cL}{un:Nat->Bool}{w:Nat}:jn P (MD pt pi g X fn lv un w):=by
 intro β f e h;unfold MD at h;cases hq:Nat.beq f g with
 |true=>rw[hq] at h;obtain rfl:=bT hq;cases h;exact acg OK mx PI hF hb
 |false=>rw[hq] at h;exact PT β f e h
end
def Na(e:Nat×Nat×H1 Nat×Nat):Qu:=.func (.func 0) #[.agg #[.int .i64 e.1,.int .i64 e.2.1]] #[.agg #[ae e.2.2.1.length (e.2.2.1.map λt=>.int .i64 (Int.ofNat t)),.int .i64 e.2.2.2]]
def yw(l:H1 (Nat×Nat×H1 Nat×Nat)):Qu:=.func (.method "") ⟨l.map Na⟩ #[]
end
section
variable{β:Type}
def sJ:SV->Bool
 | .aH (x::_)=>(match x with| .ptr _ _=>true|_=>false)
 |_=>false
def C8(P:Program)(g:FuncId)(T:PT)(Sh:Fn T.ti.ks (Zh (bL T.to.ks⊕bL T.tp.ks))):Prop:=
 ∀ls r st,iI T.ti.ks Sh ls=some r->iy T.ti ls=some st->∀so,(match r with| .inl a=>iy T.to (gP T.to.ks a)=some so| .inr a=>iy T.tp (gP T.tp.ks a)=some so)->C9 P g T.n T.an st so false
noncomputable def aaj[QF](w:Nat)(X:eC)(pt:(β:Type)->FuncId->Zh (cD β))(fn:Func)(T:PT)(lv jv:Nat->Zh cL)(un:Nat->Bool):Fn T.ti.ks (Zh (bL T.to.ks⊕bL T.tp.ks)):=
 mc T.ti.ks λls=>ob (iy T.ti ls) λst=>dn {X:=X,pt:=pt _,n:=T.n+(fn.ntmps -T.n),rs:=fn.results.toList,lv:=lv,jv:=jv,un:=un,df:=false,fuel:=w,an:=T.an,iw:=λsv st=>cond (sJ sv) (rz (uB T.to) sv st λsv st=>lk T.an T.to ⟨Tr.nil.set 0 sv,st.h,st.sx⟩ λls=>ob (dec T.to.ks ls) λa=>some (.inl a)) (rz (uB T.tp) sv st λsv st=>lk T.an T.tp ⟨Tr.nil.set 0 sv,st.h,st.sx⟩ λls=>ob (dec T.tp.ks ls) λa=>some (.inr a)),mj:=λ_ _=>none} 100000 [] [.code (fn.body.getD .skip)] st
theorem abK[QF]{P:Program}{X:eC}(OK:iP P X)(mx:P.follows .mixedOrders=true){pt:(β:Type)->FuncId->Zh (cD β)}(PTO:jn P pt){g:FuncId}{fn:Func}{T:PT}{lv jv:Nat->Zh cL}{un:Nat->Bool}{w:Nat}{Sh:Fn T.ti.ks (Zh (bL T.to.ks⊕bL T.tp.ks))}
 (hF:X.F.get g=some fn) (hb:fn.body=some (fn.body.getD .skip)) (hS:Sh=aaj w X pt fn T lv jv un):C8 P g T Sh:=by
 intro ls r st e hst so hso B σ w0 args' hn ha ev M;subst hS;have e1:=nG _ _ _ _ e;obtain⟨st1,g1,e2⟩:=ax e1;rw[hst] at g1;cases g1;refine Av (B:={B with n:=T.n+(fn.ntmps -T.n),dQ:=[]}) (OK.F _ _ hF).1 hb rfl rfl (tH OK mx (PTO _) rfl rfl ha _ _ _ _ _ e2 (λr hr=>by cases hr) ⟨by simp[hn],rfl,tM ev,M.nd⟩) λ{σ1 s1 sv a1 w1 v1} R d=>⟨λkr=>?_,λkp=>by cases kp⟩
 cases hp:sJ sv with
 |true=>
  replace kr:cond (sJ sv) _ _=some r:=kr;rw[hp] at kr;obtain⟨sv2,st2,k1,k2⟩:=F0 (β:=bL T.to.ks⊕bL T.tp.ks) (t:=uB T.to) (K:=λsv st=>lk T.an T.to ⟨Tr.nil.set 0 sv,st.h,st.sx⟩ λls=>ob (dec T.to.ks ls) λa=>some (.inl a)) kr;obtain⟨σ2,d2,M2⟩:=k2 d R.mem.nd;replace k1:lk T.an T.to ⟨Tr.nil.set 0 sv2,st2.h,st2.sx⟩ (λls=>ob (dec T.to.ks ls) λa=>some (Sum.inl a))=some r:=k1;cases r with
  |inl a=>obtain⟨σ3,z1,z2⟩:=yp (B:=B) (by rw[ha];exact k1) (λls q=>by obtain⟨a',q1,q2⟩:=ax q;cases q2;exact qk _ _ _ q1) hso d2 M2;exact⟨σ3,_,rfl,z1,z2⟩
  |inr a=>obtain⟨ls',q1,_⟩:=vl (B:=B) (by rw[ha];exact k1);obtain⟨a',_,q2⟩:=ax q1;cases q2
 |false=>
  replace kr:cond (sJ sv) _ _=some r:=kr;rw[hp] at kr;obtain⟨sv2,st2,k1,k2⟩:=F0 (β:=bL T.to.ks⊕bL T.tp.ks) (t:=uB T.tp) (K:=λsv st=>lk T.an T.tp ⟨Tr.nil.set 0 sv,st.h,st.sx⟩ λls=>ob (dec T.tp.ks ls) λa=>some (.inr a)) kr;obtain⟨σ2,d2,M2⟩:=k2 d R.mem.nd;replace k1:lk T.an T.tp ⟨Tr.nil.set 0 sv2,st2.h,st2.sx⟩ (λls=>ob (dec T.tp.ks ls) λa=>some (Sum.inr a))=some r:=k1;cases r with
  |inl a=>obtain⟨ls',q1,_⟩:=vl (B:=B) (by rw[ha];exact k1);obtain⟨a',_,q2⟩:=ax q1;cases q2
  |inr a=>obtain⟨σ3,z1,z2⟩:=yp (B:=B) (by rw[ha];exact k1) (λls q=>by obtain⟨a',q1,q2⟩:=ax q;cases q2;exact qk _ _ _ q1) hso d2 M2;exact⟨σ3,_,rfl,z1,z2⟩
def Rv(T:PT)(Sh:Fn T.ti.ks (Zh (bL T.to.ks⊕bL T.tp.ks))):cD β:=λst args K=>
 cond (Nat.beq args.length T.n) (vk [] T.ti ⟨oX args 0 .nil,st.h,st.sx⟩ λls m=>
  cond (su st.h m&&tB m T.an) (ob (iI T.ti.ks Sh ls) λr=>dI r
   (λa=>ob (iy T.to (gP T.to.ks a)) λso=>ob (so.tm.get 0) λsv=>K false (pP (na T.an st.sx m) sv) ⟨st.tm,rk (na T.an st.sx m) so.h T.to.qu (r9 m st.h),st.sx+T.to.sx⟩)
   (λa=>ob (iy T.tp (gP T.tp.ks a)) λso=>ob (so.tm.get 0) λsv=>K false (pP (na T.an st.sx m) sv) ⟨st.tm,rk (na T.an st.sx m) so.h T.tp.qu (r9 m st.h),st.sx+T.tp.sx⟩)) none) none
theorem abi{P:Program}{g:FuncId}{T:PT}{Sh:Fn T.ti.ks (Zh (bL T.to.ks⊕bL T.tp.ks))}(F:C8 P g T Sh):mM P g (Rv (β:=β) T Sh):=by
 intro st args K b e;obtain⟨hlen,e⟩:=aW e;obtain⟨ls,m,h1,_,hinj,hsx,stT,h2,h3,h4⟩:=D5 (λi j a q=>by cases q) e;obtain⟨hl,h1⟩:=aW h1;rw[bt] at hl;obtain⟨r,k1,h1⟩:=ax h1;cases r with
 |inl a=>obtain⟨so,k2,h1⟩:=ax h1;obtain⟨sv,k3,h1⟩:=ax h1;have sx:=A6 k2;rw[<-sx] at h1;exact⟨false,_,_,h1,rfl,Nat.le_add_right _ _,λhF M args' d=>Ay (bT hlen) hinj (by rw[h3];exact hsx) h4 (vJ hl.1) (xm hl.2) k3 (F ls _ stT k1 h2 so k2) hF M args' d⟩
 |inr a=>obtain⟨so,k2,h1⟩:=ax h1;obtain⟨sv,k3,h1⟩:=ax h1;have sx:=A6 k2;rw[<-sx] at h1;exact⟨false,_,_,h1,rfl,Nat.le_add_right _ _,λhF M args' d=>Ay (bT hlen) hinj (by rw[h3];exact hsx) h4 (vJ hl.1) (xm hl.2) k3 (F ls _ stT k1 h2 so k2) hF M args' d⟩
def VW(pt:(β:Type)->FuncId->Zh (cD β))(g:FuncId)(T:PT)(Sh:Fn T.ti.ks (Zh (bL T.to.ks⊕bL T.tp.ks))):(β:Type)->FuncId->Zh (cD β):=
 λβ f=>cond (Nat.beq f g) (some λst args K=>cond (D9 T st args) (Rv T Sh st args K) (ob (pt β f) λe=>e st args K)) (pt β f)
theorem ahw{P:Program}{pt:(β:Type)->FuncId->Zh (cD β)}(PTO:jn P pt){g:FuncId}{T:PT}{Sh:Fn T.ti.ks (Zh (bL T.to.ks⊕bL T.tp.ks))}(F:C8 P g T Sh):jn P (VW pt g T Sh):=by
 intro β f e h;unfold VW at h;cases hb:Nat.beq f g with
 |true=>
  rw[hb] at h;have hg:=bT hb;subst hg;cases h;intro st args K b k;cases hf:D9 T st args with
  |true=>simp[hf] at k;exact abi F st args K b k
  |false=>simp[hf] at k;obtain⟨e0,h0,k⟩:=ax k;exact PTO β f e0 h0 st args K b k
 |false=>rw[hb] at h;exact PTO β f e h
end
end Lt
structure bJ where
 bZ:Int
 data:List UInt8
 scan:List UInt8
 deriving DecidableEq
def oT(m:Int):Bool:=decide (208<=m/\m<=215)
def je(m:Int):Bool:=decide (m=216\/m=217)
def lM(m:Int):Bool:=decide (192<=m/\m<=254)&&!oT m&&!je m
def gm:H1 UInt8->Nat
 |[]=>0
 |b::t=>if b=255 then(match t with
  |[]=>0
  |c::_=>if c≠0/\oT c.toNat=false then 0 else gm t+1) else gm t+1
theorem Gh:∀l,gm l<=l.length
 |[]=>aM _
 |b::t=>by
  have ih:=Gh t;unfold gm
  grind
inductive P9 where
 |ok (l:List bJ) (end_:Nat)
 |bad (at_:Nat) (e:Int)
 deriving DecidableEq
inductive ZX where
 |last (s:bJ) (rest:List UInt8)
 |more (s:bJ) (rest:List UInt8)
 |short
 |form (behind:Nat)
def lA(first:Bool):H1 UInt8->ZX
 |[]=>.short
 |[x]=>if x=255 then .short else .form 0
 |x::m::t=>
  if x≠255 then .form 0
  else if(first !=decide (m=216))||!(je m.toNat||lM m.toNat) then .form 0
  else if m=217 then .last ⟨217,[],[]⟩ t
  else if m=216 then .more ⟨216,[],[]⟩ t
  else match t with
   |a::b::_=>
    let n:=a.toNat*256+b.toNat
    if n<2 then .form 2
    else if t.length<n then .short
    else
     let r:=t.drop n
     let k:=if m=218 then gm r else 0
     .more ⟨m.toNat,(t.drop 2).take (n -2),r.take k⟩ (r.drop k)
   |_=>.short
def mu(L:Nat):Nat->Bool->H1 UInt8->P9
 |0,_,_=>.bad 0 0
 |f+1,first,r=>match lA first r with
  | .short=>.bad L 3
  | .form k=>.bad (L -r.length+k) 2
  | .last s t=>.ok [s] (L -t.length)
  | .more s t=>match mu L f false t with
   | .ok l e=>.ok (s::l) e
   |x=>x
def ofM(b:H1 UInt8):P9:=mu b.length (b.length+1) true b
def nh(s:bJ):Bool:=lM s.bZ&&decide (s.data.length<=65533)&&(s.scan.isEmpty||(decide (s.bZ=218)&&decide (gm s.scan=s.scan.length)))
def ma(s:bJ)(m:Int):Bool:=decide (s.bZ=m)&&s.data.isEmpty&&s.scan.isEmpty
def jw:H1 bJ->Bool
 |[]=>false
 |[s]=>ma s 217
 |s::t=>nh s&&jw t
def mZ:H1 bJ->Bool
 |[]=>false
 |s::t=>ma s 216&&jw t
def dt(s:bJ):H1 UInt8:=
 if je s.bZ then[255,UInt8.ofNat s.bZ.toNat]
 else[255,UInt8.ofNat s.bZ.toNat,UInt8.ofNat ((s.data.length+2)/256),UInt8.ofNat ((s.data.length+2)%256)]++s.data++s.scan
def dA(l:H1 bJ):H1 UInt8:=l.flatMap dt
theorem mH(s:bJ)(l:H1 bJ):dA (s::l)=dt s++dA l:=rfl
theorem adw:∀{l:H1 bJ},jw l=true->∃(m:UInt8)(t:H1 UInt8),dA l=255::m::t/\m≠0/\oT m.toNat=false
 |[],h=>by cases h
 |s::t,h=>by
  have key:(192<=s.bZ/\s.bZ<=254/\oT s.bZ=false):=by
   cases t with
   |nil=>simp[jw,ma] at h;rw[h.1.1];decide
   |cons s' t=>simp[jw,nh,lM,bt] at h;exact⟨h.1.1.1.1.1.1,h.1.1.1.1.1.2,h.1.1.1.1.2⟩
  obtain⟨k1,k2,k3⟩:=key;have hm:((UInt8.ofNat s.bZ.toNat).toNat:Int)=s.bZ:=by rw[w7];omega
  refine⟨UInt8.ofNat s.bZ.toNat,?_⟩;have e:∃t',dt s=255::UInt8.ofNat s.bZ.toNat::t':=by unfold dt;split<;>simp_all
  obtain⟨t',e⟩:=e;refine⟨t'++dA t,by rw[mH,e];rfl,?_,by rw[hm];exact k3⟩;intro h0;rw[h0] at hm;simp at hm;omega
theorem NU:∀(l:H1 UInt8)(m:UInt8)(t:H1 UInt8),gm l=l.length->m≠0->oT m.toNat=false->gm (l++255::m::t)=l.length
 |[],m,t,_,h1,h2=>by unfold gm;simp_all
 |b::l,m,t,h,h1,h2=>by
  have hl:gm l=l.length/\(b=255->∃c r,l=c::r/\¬(c≠0/\oT c.toNat=false)):=by
   unfold gm at h
   grind
  have ih:=NU l m t hl.1 h1 h2;rw[eD];unfold gm
  grind
theorem ai3(x:H1 UInt8){s:bJ}(h:ma s 217=true):lA false (dt s++x)=.last s x:=by obtain⟨m,d,c⟩:=s;simp[ma] at h;obtain⟨⟨rfl,rfl⟩,rfl⟩:=h;rfl
theorem ai2(x:H1 UInt8){s:bJ}(h:ma s 216=true):lA true (dt s++x)=.more s x:=by obtain⟨m,d,c⟩:=s;simp[ma] at h;obtain⟨⟨rfl,rfl⟩,rfl⟩:=h;rfl
theorem ai4{s:bJ}(h:nh s=true)(m:UInt8)(t:H1 UInt8)(h1:m≠0)(h2:oT m.toNat=false):lA false (dt s++255::m::t)=.more s (255::m::t):=by
 obtain⟨k,d,c⟩:=s;simp[nh,lM,bt,uI,sZ,List.isEmpty_iff] at h;obtain⟨⟨⟨⟨⟨a1,a2⟩,a3⟩,a4⟩,a5⟩,a6⟩:=h;have hm:((UInt8.ofNat k.toNat).toNat:Int)=k:=by rw[w7];omega
 have n216:UInt8.ofNat k.toNat≠216:=by intro e;rw[e] at hm;rw[<-hm] at a4;exact absurd a4 (by decide)
 have n217:UInt8.ofNat k.toNat≠217:=by intro e;rw[e] at hm;rw[<-hm] at a4;exact absurd a4 (by decide)
 unfold dt;rw[aq (by simp[a4])];simp;dsimp only[lA];rw[aq (by simp)];have hh:lM ((UInt8.ofNat k.toNat).toNat:Int)=true:=by rw[hm];simp[lM,a1,a2,a3,a4]
 rw[(show((false !=decide (UInt8.ofNat k.toNat=216))||!(je ((UInt8.ofNat k.toNat).toNat:Int)||lM ((UInt8.ofNat k.toNat).toNat:Int)))=false from by rw[hh,eB n216];simp),aq (by simp),aq n217,aq n216];have hn:(UInt8.ofNat ((d.length+2)/256)).toNat*256+(UInt8.ofNat ((d.length+2)%256)).toNat=d.length+2:=by rw[w7,w7];omega
 rw[hn,aq (by omega),aq (by simp)];have e1:(UInt8.ofNat ((d.length+2)/256)::UInt8.ofNat ((d.length+2)%256)::(d++(c++255::m::t))).drop (d.length+2)=c++255::m::t:=by simp
 rw[e1];have e2:(if UInt8.ofNat k.toNat=218 then gm (c++255::m::t) else 0)=c.length:=by
  rcases a6 with rfl|⟨a6,a7⟩
  ·split
   ·exact NU [] m t rfl h1 h2
   ·rfl
  ·rw[ay (by rw[a6];rfl),NU c m t a7 h1 h2]
 rw[e2];simp;omega
theorem amB{l:H1 bJ}(h:jw l=true):l.length<=(dA l).length:=by
 induction l with
 |nil=>simp
 |cons s t ih=>
  rw[mH,aP,cc];have:1<=(dt s).length:=by unfold dt;split<;>simp<;>omega
  cases t with
  |nil=>grind
  |cons s' t=>have:=ih (by simp[jw] at h;exact h.2);omega
theorem Uk(L:Nat)(x:H1 UInt8):∀(l:H1 bJ)(f:Nat),jw l=true->l.length<f->mu L f false (dA l++x)=.ok l (L -x.length)
 |[],_,h,_=>by cases h
 |[s],f+1,h,_=>by
  have:dA [s]=dt s:=by simp[dA]
  rw[this];unfold mu;rw[ai3 x h]
 |s::s'::t,f+1,h,hf=>by have h':=((bt _ _).mp h).2;obtain⟨m,u,e,h1,h2⟩:=adw h';have ih:=Uk L x (s'::t) f h' (by grind);rw[mH,ed];unfold mu;rw[e] at ih⊢;rw[eD,eD] at ih⊢;rw[ai4 (((bt _ _).mp h).1) m (u++x) h1 h2];simp_all
 |_::_,0,_,hf=>by grind
theorem Uo{l:H1 bJ}(h:mZ l=true)(x:H1 UInt8):ofM (dA l++x)=.ok l (dA l).length:=by
 cases l with
 |nil=>cases h
 |cons s t=>
  simp[mZ] at h;unfold ofM;rw[mH,ed];unfold mu;rw[ai2 _ h.1];have hl:t.length<(dt s++(dA t++x)).length:=by
   have:=amB h.2;have:1<=(dt s).length:=by unfold dt;split<;>simp<;>omega
   grind
  simp only[Uk _ x t _ h.2 hl]
  grind
def ib(l:H1 UInt8):Nat:=l.foldl (λn b=>n*256+b.toNat) 0
def gS(l:H1 UInt8)(at_ size:Nat)(order:Int):H1 UInt8:=
 if order=1 then((l.drop at_).take size).reverse else(l.drop at_).take size
theorem EL(l:H1 UInt8)(b:UInt8):ib (l++[b])=ib l*256+b.toNat:=by unfold ib;rw[List.foldl_append];rfl
def CZ(s:Int):Bool:=s==1||s==2||s==4
def gk(s o:Int):Bool:=CZ s&&(o==1||o==2)
def pG(l:H1 UInt8)(at_ size order:Int):Zh Int:=
 if gk size order=true/\0<=at_/\at_<=(l.length:Int) -size then some (ib (gS l at_.toNat size.toNat order)) else none
def fa(n:Nat):Nat->H1 UInt8
 |0=>[]
 |s+1=>fa (n/256) s++[UInt8.ofNat (n%256)]
theorem pB(s:Nat):∀n,(fa n s).length=s:=by
 induction s with
 |zero=>intro n;rfl
 |succ s ih=>intro n;simp[fa,ih]
def aY(n s:Nat)(order:Int):H1 UInt8:=if order=1 then(fa n s).reverse else fa n s
theorem eL(n s:Nat)(o:Int):(aY n s o).length=s:=by unfold aY;split<;>simp[pB]
theorem xI{l:H1 UInt8}{p s:Nat}{order:Int}(hs:s=1\/s=2\/s=4)(ho:order=1\/order=2)(hp:p+s<=l.length):pG l p s order=some (ib (gS l p s order):Int):=by unfold pG;rw[ay ⟨by rcases hs with rfl|rfl|rfl<;>rcases ho with rfl|rfl<;>rfl,by omega,by omega⟩];simp
def aI(n:Nat):Nat:=n+n%2
def pN(n:Int)(s:Nat)(order:Int):Zh (H1 UInt8):=if 0<=n/\n<((256^s:Nat):Int) then some (aY n.toNat s order) else none
def iC(l:H1 UInt8)(s m:Nat):H1 UInt8:=
 (List.range l.length).map λi=>if i<m then(l[i -i%s+(s -1 -i%s)]?).getD 0 else(l[i]?).getD 0
theorem pT(l:H1 UInt8)(s m:Nat):(iC l s m).length=l.length:=by simp[iC]
theorem C2(l:H1 UInt8)(s m i:Nat)(h:i<l.length):(iC l s m)[i]? =some (if i<m then(l[i -i%s+(s -1 -i%s)]?).getD 0 else(l[i]?).getD 0):=by simp[iC,h]
def iY(l:H1 UInt8)(s:Nat)(order:Int):H1 UInt8:=if order=1 then iC l s l.length else l
theorem wR(l:H1 UInt8)(s:Nat)(o:Int):(iY l s o).length=l.length:=by unfold iY;split<;>simp[pT]
def kindOf(t:Int):Int×Int×Int:=
 if t=1\/t=2\/t=7 then(1,1,1) else if t=3 then(2,2,1) else if t=4 then(4,4,1) else if t=5 then(8,4,3) else if t=6 then(1,1,2) else if t=8 then(2,2,2)
 else if t=9 then(4,4,2) else if t=10 then(8,4,4) else if t=11 then(4,4,5) else if t=12 then(8,8,5) else(0,0,0)
def Au(l:H1 UInt8):Bool:=(List.range l.length).all λi=>((l[i]?).getD 0==0)==(i+1==l.length)
def eI(ty az:Int)(l:H1 UInt8):Bool:=
 decide ((kindOf ty).1 ≠0/\1<=az/\az<=65536/\(l.length:Int)=az*(kindOf ty).1)&&(ty !=2||Au l)
theorem Et{t:Int}(h:t<1\/12<t):kindOf t=(0,0,0):=by
 unfold kindOf
 repeat(rw[aq (by omega)])
theorem K3(t:Int)(h:(kindOf t).1 ≠0):∃s m:Nat,(kindOf t).2.1 =(s:Int)/\(kindOf t).1 =((m*s:Nat):Int)/\(s=1\/s=2\/s=4\/s=8):=by
 by_cases o:t<1\/12<t
 ·rw[Et o] at h;exact absurd rfl h
 ·have hc:t=1\/t=2\/t=3\/t=4\/t=5\/t=6\/t=7\/t=8\/t=9\/t=10\/t=11\/t=12:=by omega
  rcases hc with rfl|rfl|rfl|rfl|rfl|rfl|rfl|rfl|rfl|rfl|rfl|rfl
  ·exact⟨1,1,rfl,rfl,by omega⟩
  ·exact⟨1,1,rfl,rfl,by omega⟩
  ·exact⟨2,1,rfl,rfl,by omega⟩
  ·exact⟨4,1,rfl,rfl,by omega⟩
  ·exact⟨4,2,rfl,rfl,by omega⟩
  ·exact⟨1,1,rfl,rfl,by omega⟩
  ·exact⟨1,1,rfl,rfl,by omega⟩
  ·exact⟨2,1,rfl,rfl,by omega⟩
  ·exact⟨4,1,rfl,rfl,by omega⟩
  ·exact⟨4,2,rfl,rfl,by omega⟩
  ·exact⟨4,1,rfl,rfl,by omega⟩
  ·exact⟨8,1,rfl,rfl,by omega⟩
theorem TV{ty az:Int}{l:H1 UInt8}(h:eI ty az l=true):∃s q:Nat,(kindOf ty).2.1 =(s:Int)/\l.length=q*s/\(s=1\/s=2\/s=4\/s=8):=by
 unfold eI at h;rw[bt,cm] at h;obtain⟨⟨h1,h2,h3,h4⟩,-⟩:=h;obtain⟨s,m,e1,e2,e3⟩:=K3 ty h1;refine⟨s,az.toNat*m,e1,?_,e3⟩;rw[e2] at h4;have:(l.length:Int)=((az.toNat*m*s:Nat):Int):=by
  rw[h4,Nat.mul_assoc]
  push_cast
  rw[mI (by omega)]
 omega
theorem Lv(s:Nat):∀n,n<256^s->ib (fa n s)=n:=by
 induction s with
 |zero=>intro n h;simp at h;subst h;rfl
 |succ s ih=>intro n h;show ib (fa (n/256) s++[UInt8.ofNat (n%256)])=n;rw[EL,ih (n/256) (by rw[Nat.pow_succ] at h;omega),w7];omega
theorem VM(pre l post:H1 UInt8)(s:Nat)(order:Int)(hl:l.length=s):gS (pre++(l++post)) pre.length s order=if order=1 then l.reverse else l:=by unfold gS;rw[List.drop_left,<-hl,List.take_left]
theorem adH(pre post:H1 UInt8)(n s:Nat)(order:Int)(h:n<256^s):ib (gS (pre++(aY n s order++post)) pre.length s order)=n:=by
 rw[VM _ _ _ _ _ (eL n s order)];unfold aY;split
 ·rw[List.reverse_reverse,Lv s n h]
 ·exact Lv s n h
theorem get_at(pre post:H1 UInt8)(n s:Nat)(order:Int)(hs:s=1\/s=2\/s=4)(ho:order=1\/order=2)(h:n<256^s):pG (pre++(aY n s order++post)) pre.length s order=some (n:Int):=by rw[xI hs ho (by simp[eL]),adH _ _ _ _ _ h]
theorem Lw:∀(l:H1 UInt8),ib l<256^l.length:=by
 intro l;induction h:l.length generalizing l with
 |zero=>rw[qM] at h;subst h;decide
 |succ k ih=>
  have cA:l≠[]:=by intro e;subst e;simp at h
  have e:=List.dropLast_concat_getLast cA;rw[<-e,EL];have:=ih l.dropLast (by simp[h]);have hb:=(l.getLast cA).toNat_lt;rw[Nat.pow_succ];omega
theorem QI:∀(k:Nat)(l:H1 UInt8),l.length=k->fa (ib l) k=l:=by
 intro k;induction k with
 |zero=>intro l h;rw[qM] at h;subst h;rfl
 |succ k ih=>
  intro l h;have cA:l≠[]:=by intro e;subst e;simp at h
  have e:=List.dropLast_concat_getLast cA;have hb:=(l.getLast cA).toNat_lt
  conv=>lhs;rw[<-e,EL]
  show fa ((ib l.dropLast*256+(l.getLast cA).toNat)/256) k++[UInt8.ofNat ((ib l.dropLast*256+(l.getLast cA).toNat)%256)]=l;have e1:(ib l.dropLast*256+(l.getLast cA).toNat)/256=ib l.dropLast:=by omega
  have e2:(ib l.dropLast*256+(l.getLast cA).toNat)%256=(l.getLast cA).toNat:=by omega
  rw[e1,e2,ih _ (by simp[h]),UInt8.ofNat_toNat];exact e
theorem ag4(l:H1 UInt8)(s:Nat)(order:Int)(h:l.length=s):aY (ib (if order=1 then l.reverse else l)) s order=l:=by
 unfold aY;split
 ·rw[QI s _ (by simp[h]),List.reverse_reverse]
 ·exact QI s _ h
theorem amm{s n i:Nat}(hs:0<s)(hd:n%s=0)(hi:i<n):i -i%s+(s -1 -i%s)<n/\(i -i%s+(s -1 -i%s)) -(i -i%s+(s -1 -i%s))%s+(s -1 -(i -i%s+(s -1 -i%s))%s)=i:=by
 have hm:=Nat.mod_lt i hs;obtain⟨q,hq⟩:∃q,n=s*q:=⟨n/s,by have:=Nat.div_add_mod n s;omega⟩;have hdm:=Nat.div_add_mod i s;obtain⟨a,ha⟩:∃a,i/s=a:=⟨_,rfl⟩;obtain⟨r,hr⟩:∃r,i%s=r:=⟨_,rfl⟩;rw[ha,hr] at hdm;rw[hr] at hm;rw[hr];have hi':i=s*a+r:=by omega
 have haq:a<q:=by
  have:s*a<s*q:=by omega
  exact Nat.lt_of_mul_lt_mul_left this
 have hle:s*(a+1)<=s*q:=Nat.mul_le_mul_left s haq;rw[Nat.mul_add,gy] at hle;have e:i -r+(s -1 -r)=s*a+(s -1 -r):=by omega
 have e2:(s*a+(s -1 -r))%s=s -1 -r:=by rw[Nat.mul_add_mod,qO (by omega)]
 rw[e,e2];omega
theorem amn(l:H1 UInt8)(s:Nat)(order:Int)(hs:0<s)(hd:l.length%s=0):iY (iY l s order) s order=l:=by
 unfold iY;split
 ·apply rP;intro i;rcases gY i l.length with h|h
  ·obtain⟨h1,h2⟩:=amm hs hd h;rw[C2 _ _ _ _ (by rw[pT];exact h),pT,ay h,C2 _ _ _ _ h1,ay h1,h2,cw h];rfl
  ·rw[kR (by rw[pT,pT];exact h),kR h]
 ·rfl
def pM(ty az:Int)(b:H1 UInt8)(order:Int):Zh (H1 UInt8):=
 if(kindOf ty).1 ≠0/\1<=az/\az<=65536/\az*(kindOf ty).1 <=(b.length:Int)/\eI ty az (iY (b.take (az*(kindOf ty).1).toNat) (kindOf ty).2.1.toNat order)=true then
  some (iY (b.take (az*(kindOf ty).1).toNat) (kindOf ty).2.1.toNat order) else none
theorem vM{ty az:Int}{l:H1 UInt8}(h:eI ty az l=true):(kindOf ty).1 ≠0/\1<=az/\az<=65536/\(l.length:Int)=az*(kindOf ty).1 :=by unfold eI at h;rw[bt,cm] at h;exact h.1
theorem Uh{ty az order:Int}{l:H1 UInt8}(h:eI ty az l=true)(post:H1 UInt8):pM ty az (iY l (kindOf ty).2.1.toNat order++post) order=some l:=by
 obtain⟨h1,h2,h3,h4⟩:=vM h;obtain⟨s,q,e1,e2,e3⟩:=TV h;have hs:(kindOf ty).2.1.toNat=s:=by rw[e1];simp
 have hn:(az*(kindOf ty).1).toNat=l.length:=by omega
 have ht:(iY l (kindOf ty).2.1.toNat order++post).take (az*(kindOf ty).1).toNat=iY l (kindOf ty).2.1.toNat order:=by
  rw[hn]
  conv=>lhs;rw[<-wR l (kindOf ty).2.1.toNat order]
  exact List.take_left
 have hb:iY (iY l (kindOf ty).2.1.toNat order) (kindOf ty).2.1.toNat order=l:=by rw[hs];exact amn l s order (by omega) (by rw[e2];exact Nat.mul_mod_left q s)
 unfold pM;rw[ht,hb,ay ⟨h1,h2,h3,by simp[wR];omega,h⟩]
structure aN where
 tag:Int
 ty:Int
 az:Int
 data:List UInt8
 deriving DecidableEq
mutual
inductive aV where
 |mk (tags:List aN) (subs:cK) (blob:List UInt8)
inductive cK where
 |nil
 |cons (tag:Int) (d:aV) (r:cK)
end
structure mN where
 order:Int
 dO:List aV
structure iF where
 tag:Int
 shape:Int
structure bg where
 bP:List iF
 at_:Int
 cG:Int
 next:Int
structure bn where
 tag:Int
 ty:Int
 az:Int
 slot:Nat
 deriving DecidableEq
structure bo where
 oq:Int
 dir:Int
 tag:Int
 at_:Nat
 cG:Nat
 deriving DecidableEq
def ji(ty az:Int):Int:=if az<1\/65536<az then 0 else az*(kindOf ty).1
def bQ(ty az:Int):Nat:=if 4<ji ty az then(ji ty az).toNat else 0
def cj:cK->Nat
 | .nil=>0
 | .cons _ _ r=>cj r+1
def bE:aV->Nat
 | .mk tags subs blob=>tags.length+cj subs+(if blob.length=0 then 0 else 2)
def cn(e:Nat):H1 aN->Nat
 |[]=>e
 |t::ts=>if bQ t.ty t.az=0 then cn e ts else cn (aI e+bQ t.ty t.az) ts
mutual
def bB(e:Nat):aV->Nat
 | .mk tags subs blob=>
  if blob.length=0 then eH (cn (aI e+(6+12*bE (.mk tags subs blob))) tags) subs
  else aI (eH (cn (aI e+(6+12*bE (.mk tags subs blob))) tags) subs)+blob.length
def eH(e:Nat):cK->Nat
 | .nil=>e
 | .cons _ d r=>eH (bB e d) r
end
mutual
def dL:aV->Nat
 | .mk _ subs _=>iu subs+1
def iu:cK->Nat
 | .nil=>0
 | .cons _ d r=>dL d+iu r
end
def dw(no:Nat)(e:Nat):H1 aN->H1 bo
 |[]=>[]
 |t::ts=>if bQ t.ty t.az=0 then dw no e ts else⟨3,no,t.tag,aI e,bQ t.ty t.az⟩::dw no (aI e+bQ t.ty t.az) ts
mutual
def gp(no:Nat)(e:Nat):aV->H1 bo
 | .mk tags subs blob=>
  ⟨2,no,0,aI e,6+12*bE (.mk tags subs blob)⟩::
   (dw no (aI e+(6+12*bE (.mk tags subs blob))) tags++
    (kQ (no+1) (cn (aI e+(6+12*bE (.mk tags subs blob))) tags) subs++
     (if blob.length=0 then[] else[⟨4,no,0,aI (eH (cn (aI e+(6+12*bE (.mk tags subs blob))) tags) subs),blob.length⟩])))
def kQ(no:Nat)(e:Nat):cK->H1 bo
 | .nil=>[]
 | .cons _ d r=>gp no e d++kQ (no+dL d) (bB e d) r
end
def lG(order:Int)(t:aN):H1 UInt8:=iY t.data (kindOf t.ty).2.1.toNat order
def pI(order:Int)(t:aN):Nat:=ib (gS (lG order t++List.replicate (4 -t.data.length) 0) 0 4 order)
def eK(order:Int)(e:Nat):H1 aN->H1 bn
 |[]=>[]
 |t::ts=>if bQ t.ty t.az=0 then⟨t.tag,t.ty,t.az,pI order t⟩::eK order e ts else⟨t.tag,t.ty,t.az,aI e⟩::eK order (aI e+bQ t.ty t.az) ts
def iJ(e:Nat):cK->H1 bn
 | .nil=>[]
 | .cons tag d r=>⟨tag,4,1,aI e⟩::iJ (bB e d) r
def hU(S:bg)(e:Nat)(blob:H1 UInt8):H1 bn:=
 if blob.length=0 then[] else[⟨S.at_,4,1,aI e⟩,⟨S.cG,4,1,blob.length⟩]
def kh(x:bn):H1 bn->H1 bn
 |[]=>[x]
 |y::l=>if x.tag<=y.tag then x::y::l else y::kh x l
def gK:H1 bn->H1 bn
 |[]=>[]
 |x::l=>kh x (gK l)
def jf(order:Int)(x:bn):H1 UInt8:=aY x.tag.toNat 2 order++(aY x.ty.toNat 2 order++(aY x.az.toNat 4 order++aY x.slot 4 order))
def kW(order:Int)(l:H1 bn)(next:Nat):H1 UInt8:=aY l.length 2 order++(l.flatMap (jf order)++aY next 4 order)
def ec(e:Nat):H1 UInt8:=if e%2=0 then[] else[0]
def gH(order:Int)(e:Nat):H1 aN->H1 UInt8
 |[]=>[]
 |t::ts=>if bQ t.ty t.az=0 then gH order e ts else ec e++(lG order t++gH order (aI e+bQ t.ty t.az) ts)
def Uc:bg:=⟨[],0,0,-1⟩
def aR(sh:H1 bg)(s:Nat):bg:=(sh[s]?).getD Uc
def lO(S:bg)(tag:Int):Zh Nat:=(S.bP.find? λx=>x.tag==tag).map λx=>x.shape.toNat
mutual
def jq(order:Int)(sh:H1 bg)(s:Nat)(next:Nat)(e:Nat):aV->H1 UInt8
 | .mk tags subs blob=>
  ec e++(kW order (gK (eK order (aI e+(6+12*bE (.mk tags subs blob))) tags++
   (iJ (cn (aI e+(6+12*bE (.mk tags subs blob))) tags) subs++
    hU (aR sh s) (eH (cn (aI e+(6+12*bE (.mk tags subs blob))) tags) subs) blob))) next++
   (gH order (aI e+(6+12*bE (.mk tags subs blob))) tags++
    (jW order sh (aR sh s) (cn (aI e+(6+12*bE (.mk tags subs blob))) tags) subs++
     (if blob.length=0 then[] else ec (eH (cn (aI e+(6+12*bE (.mk tags subs blob))) tags) subs)++blob))))
def jW(order:Int)(sh:H1 bg)(S:bg)(e:Nat):cK->H1 UInt8
 | .nil=>[]
 | .cons tag d r=>jq order sh ((lO S tag).getD 0) 0 e d++jW order sh S (bB e d) r
end
def fP:H1 aN->Bool
 |[]=>true
 |[_]=>true
 |a::b::l=>decide (a.tag<b.tag)&&fP (b::l)
def lD:cK->H1 Int
 | .nil=>[]
 | .cons tag _ r=>tag::lD r
def oa:H1 Int->Bool
 |[]=>true
 |[_]=>true
 |a::b::l=>decide (a<b)&&oa (b::l)
def fK(S:bg)(tag:Int):Bool:=decide (S.at_≠0)&&(decide (tag=S.at_)||decide (tag=S.cG))
def fG(S:bg)(tag:Int):Bool:=S.bP.any λx=>x.tag==tag
def eW(S:bg)(tag:Int):Bool:=fG S tag||fK S tag
def np(tag:Int):Bool:=decide (0<=tag/\tag<65536)
def ky(S:bg)(tags:H1 aN):Bool:=fP tags&&tags.all λt=>np t.tag&&(!eW S t.tag&&eI t.ty t.az t.data)
mutual
def cM(sh:H1 bg)(s:Nat):aV->Bool
 | .mk tags subs blob=>decide (1<=bE (.mk tags subs blob)/\bE (.mk tags subs blob)<=65535)&&(ky (aR sh s) tags&&
  ((decide (blob.length=0)||decide ((aR sh s).at_≠0))&&(oa (lD subs)&&jg sh (aR sh s) subs)))
def jg(sh:H1 bg)(S:bg):cK->Bool
 | .nil=>true
 | .cons tag d r=>fG S tag&&(cM sh ((lO S tag).getD 0) d&&jg sh S r)
end
theorem nL(e:Nat):e<=aI e:=by unfold aI;omega
theorem Kg(e:Nat):aI e%2=0:=by unfold aI;omega
theorem qw(e:Nat):e+(ec e).length=aI e:=by unfold ec aI;split<;>simp<;>omega
theorem qU:∀(ts:H1 aN)(e:Nat),e<=cn e ts
 |[],e=>aM _
 |t::ts,e=>by
  unfold cn;split
  ·exact qU ts e
  ·have:=qU ts (aI e+bQ t.ty t.az);have:=nL e;omega
mutual
theorem Ar:∀(d:aV)(e:Nat),e<=bB e d
 | .mk tags subs blob,e=>by
  unfold bB;have h1:=nL e;have h2:=qU tags (aI e+(6+12*bE (.mk tags subs blob)));have h3:=tJ subs (cn (aI e+(6+12*bE (.mk tags subs blob))) tags);have h4:=nL (eH (cn (aI e+(6+12*bE (.mk tags subs blob))) tags) subs)
  grind
theorem tJ:∀(r:cK)(e:Nat),e<=eH e r
 | .nil,e=>by unfold eH;exact aM _
 | .cons _ d r,e=>by unfold eH;have h1:=Ar d e;have h2:=tJ r (bB e d);omega
end
theorem SS(x:bn):∀l,(kh x l).length=l.length+1
 |[]=>rfl
 |y::l=>by unfold kh;split<;>simp[SS x l]
theorem AN:∀l,(gK l).length=l.length
 |[]=>rfl
 |x::l=>by rw[gK,SS,AN l];rfl
theorem tK(order:Int):∀(ts:H1 aN)(e:Nat),(eK order e ts).length=ts.length
 |[],_=>rfl
 |t::ts,e=>by unfold eK;split<;>simp[tK order ts]
theorem Ax:∀(r:cK)(e:Nat),(iJ e r).length=cj r
 | .nil,_=>rfl
 | .cons _ d r,e=>by unfold iJ cj;simp[Ax r]
theorem DY(S:bg)(e:Nat)(blob:H1 UInt8):(hU S e blob).length=if blob.length=0 then 0 else 2:=by unfold hU;split<;>rfl
theorem J7(order:Int)(x:bn):(jf order x).length=12:=by simp[jf,eL]
theorem xD(order:Int):∀l:H1 bn,(l.flatMap (jf order)).length=12*l.length
 |[]=>rfl
 |x::l=>by rw[dG,aP,J7,xD order l,cc];omega
theorem Q9(order:Int)(l:H1 bn)(next:Nat):(kW order l next).length=6+12*l.length:=by unfold kW;rw[aP,aP,eL,xD,eL];omega
theorem yg{t:aN}(h:eI t.ty t.az t.data=true):bQ t.ty t.az=if t.data.length<=4 then 0 else t.data.length:=by
 obtain⟨h1,h2,h3,h4⟩:=vM h;have hl:ji t.ty t.az=(t.data.length:Int):=by unfold ji;rw[aq (by omega),h4]
 unfold bQ
 grind
theorem zA(order:Int)(t:aN):(lG order t).length=t.data.length:=wR _ _ _
theorem IK(order:Int):∀(ts:H1 aN)(e:Nat),(∀t∈ts,eI t.ty t.az t.data=true)->e+(gH order e ts).length=cn e ts
 |[],e,_=>rfl
 |t::ts,e,h=>by
  have ih:=λe=>IK order ts e λt ht=>h t (by grind);unfold gH cn;split
  ·grind
  ·rename_i hn;have:=ih (aI e+bQ t.ty t.az);have hp:=qw e;rw[aP,aP,zA];have:bQ t.ty t.az=t.data.length:=by rw[(yg (h t (by simp)))] at hn⊢;split<;>simp_all
   omega
mutual
theorem tD(order:Int)(sh:H1 bg):∀(d:aV)(s next e:Nat),cM sh s d=true->e+(jq order sh s next e d).length=bB e d
 | .mk tags subs blob,s,next,e,h=>by
  simp[cM,ky,iE] at h;obtain⟨h1,⟨h2,h3⟩,h4,h5,h6⟩:=h;have hp:=qw e;have hv:=IK order tags (aI e+(6+12*bE (.mk tags subs blob))) λt ht=>(h3 t ht).2.2;have hs:=JF order sh subs (aR sh s) (cn (aI e+(6+12*bE (.mk tags subs blob))) tags) h6;have hb:=qw (eH (cn (aI e+(6+12*bE (.mk tags subs blob))) tags) subs);have hn:(gK (eK order (aI e+(6+12*bE (.mk tags subs blob))) tags++(iJ (cn (aI e+(6+12*bE (.mk tags subs blob))) tags) subs++
   hU (aR sh s) (eH (cn (aI e+(6+12*bE (.mk tags subs blob))) tags) subs) blob))).length=bE (.mk tags subs blob):=by
   rw[AN,aP,aP,tK,Ax,DY];show _=tags.length+cj subs+(if blob.length=0 then 0 else 2);omega
  unfold jq bB;rw[aP,aP,Q9,hn];split<;>grind
theorem JF(order:Int)(sh:H1 bg):∀(r:cK)(S:bg)(e:Nat),jg sh S r=true->e+(jW order sh S e r).length=eH e r
 | .nil,S,e,_=>rfl
 | .cons tag d r,S,e,h=>by simp[jg] at h;have h1:=tD order sh d ((lO S tag).getD 0) 0 e h.2.1;have h2:=JF order sh r S (bB e d) h.2.2;unfold jW eH;rw[aP];omega
end
theorem En(x y:bn)(l:H1 bn):kh x (y::l)=if x.tag<=y.tag then x::y::l else y::kh x l:=rfl
theorem KU{x y:bn}:∀{l:H1 bn},y∈kh x l↔y=x\/y∈l
 |[]=>by simp[kh]
 |z::l=>by
  unfold kh;split
  ·simp
  ·simp[KU]
   grind
theorem xN{y:bn}:∀{l:H1 bn},y∈gK l↔y∈l
 |[]=>by simp[gK]
 |x::l=>by rw[gK,KU,xN];simp
def Up:H1 bn->Prop
 |[]=>True
 |x::l=>(∀y∈l,x.tag<=y.tag)/\Up l
theorem SY(x:bn):∀{l:H1 bn},Up l->Up (kh x l)
 |[],_=>⟨λy h=>(by grind),trivial⟩
 |z::l,h=>by
  unfold kh;split
  ·rename_i hz;refine⟨λy hy=>?_,h⟩;rcases cX.1 hy with rfl|hy
   ·grind
   ·have:=h.1 y hy;omega
  ·rename_i hz;refine⟨λy hy=>?_,SY x h.2⟩;rcases KU.1 hy with rfl|hy
   ·omega
   ·exact h.1 y hy
theorem Td:∀l:H1 bn,Up (gK l)
 |[]=>trivial
 |x::l=>SY x (Td l)
def ff:H1 bn->Bool
 |[]=>true
 |[_]=>true
 |a::b::l=>decide (a.tag<b.tag)&&ff (b::l)
theorem SR{x:bn}:∀{l:H1 bn},(∀y∈l,x.tag<=y.tag)->kh x l=x::l
 |[],_=>rfl
 |z::l,h=>by unfold kh;rw[ay (h z (by simp))]
theorem M6:∀{l:H1 bn},ff l=true->Up l
 |[],_=>trivial
 |[x],_=>⟨λy h=>(by grind),trivial⟩
 |a::b::l,h=>by
  simp[ff] at h;have ih:=M6 h.2;refine⟨λy hy=>?_,ih⟩;rcases cX.1 hy with rfl|hy
  ·omega
  ·have:=ih.1 y hy;omega
theorem Er:∀{l:H1 bn},ff l=true->gK l=l
 |[],_=>rfl
 |x::l,h=>by
  have hl:ff l=true:=by
   cases l with
   |nil=>rfl
   |cons b l=>simp[ff] at h;exact h.2
  rw[gK,Er hl,SR (M6 h).1]
theorem RR(p:bn->Bool)(x:bn):∀{l:H1 bn},Up l->(kh x l).filter p=if p x=true then kh x (l.filter p) else l.filter p
 |[],_=>by show[x].filter p=_;rw[kE];rfl
 |z::l,h=>by
  rw[En];by_cases hz:x.tag<=z.tag
  ·rw[ay hz,kE];split
   ·rw[SR];intro y hy;have hy':=(o7.1 hy).1;rcases cX.1 hy' with rfl|hy'
    ·exact hz
    ·have:=h.1 y hy';omega
   ·rfl
  ·rw[aq hz,kE,(RR p x h.2)];by_cases hx:p x=true
   ·rw[kE];split
    ·rw[En,aq hz]
    ·rfl
   ·rw[aq hx,aq hx,kE]
theorem D8(p:bn->Bool):∀l:H1 bn,(gK l).filter p=gK (l.filter p)
 |[]=>rfl
 |x::l=>by rw[gK,RR p x (Td l),D8 p l,kE];split<;>rfl
theorem SX{x:bn}:∀{l:H1 bn},ff l=true->(∀y∈l,y.tag≠x.tag)->ff (kh x l)=true
 |[],_,_=>rfl
 |[z],_,hn=>by
  have:=hn z (by simp)
  unfold kh
  split
  ·simp[ff];omega
  ·simp[kh,ff,kA];omega
 |z::z'::l,h,hn=>by
  have h0:=hn z (by simp)
  simp[ff] at h
  have ih:=SX (x:=x) h.2 λy hy=>hn y (by simp[hy])
  rw[En]
  split
  ·simp[ff];exact⟨by omega,h⟩
  ·rw[En] at ih⊢
   split
   ·rename_i hz hz'
    rw[ay hz'] at ih
    simp[ff] at ih⊢
    exact⟨by omega,ih⟩
   ·rename_i hz hz'
    rw[aq hz'] at ih
    simp[ff]
    exact⟨h.1,ih⟩
def oz:H1 bn->Prop
 |[]=>True
 |x::l=>(∀y∈l,y.tag≠x.tag)/\oz l
theorem KY:∀{l:H1 bn},oz l->ff (gK l)=true
 |[],_=>rfl
 |x::l,h=>by exact SX (KY h.2) λy hy=>h.1 y (xN.1 hy)
theorem zZ:∀{l:H1 bn},ff l=true->oz l
 |[],_=>trivial
 |[x],_=>⟨λy h=>(by grind),trivial⟩
 |a::b::l,h=>by
  simp[ff] at h;refine⟨λy hy=>?_,zZ h.2⟩;have:=(M6 h.2).1
  grind
theorem Jo:∀{l k:H1 bn},oz l->oz k->(∀x∈l,∀y∈k,y.tag≠x.tag)->oz (l++k)
 |[],k,_,hk,_=>hk
 |x::l,k,hl,hk,h=>by
  refine⟨λy hy=>?_,Jo hl.2 hk λx hx=>h x (by grind)⟩;rcases fQ.1 hy with hy|hy
  ·exact hl.1 y hy
  grind
def cq(b:H1 UInt8)(p s:Nat)(order:Int):Nat:=((pG b p s order).getD 0).toNat
theorem nT{b pre post:H1 UInt8}{n s p:Nat}{order:Int}(e:b=pre++(aY n s order++post))(hp:p=pre.length)(hs:s=1\/s=2\/s=4)(ho:order=1\/order=2)(h:n<256^s):cq b p s order=n:=by unfold cq;rw[e,hp,get_at _ _ _ _ _ hs ho h];simp
def Aw(b:H1 UInt8)(p:Nat)(order:Int):bn:=⟨cq b p 2 order,cq b (p+2) 2 order,cq b (p+4) 4 order,cq b (p+8) 4 order⟩
structure mM(x:bn):Prop where
 tag:0<=x.tag/\x.tag<65536
 ty:0<=x.ty/\x.ty<65536
 az:0<=x.az/\x.az<4294967296
 slot:x.slot<4294967296
theorem abd{b pre post:H1 UInt8}{p:Nat}{order:Int}{x:bn}(e:b=pre++(jf order x++post))(hp:p=pre.length)(ho:order=1\/order=2)(h:mM x):Aw b p order=x:=by
 have e0:b=pre++(aY x.tag.toNat 2 order++(aY x.ty.toNat 2 order++(aY x.az.toNat 4 order++(aY x.slot 4 order++post)))):=by rw[e];simp[jf]
 have e1:b=(pre++aY x.tag.toNat 2 order)++(aY x.ty.toNat 2 order++(aY x.az.toNat 4 order++(aY x.slot 4 order++post))):=by rw[e0];simp
 have e2:b=(pre++aY x.tag.toNat 2 order++aY x.ty.toNat 2 order)++(aY x.az.toNat 4 order++(aY x.slot 4 order++post)):=by rw[e0];simp
 have e3:b=(pre++aY x.tag.toNat 2 order++aY x.ty.toNat 2 order++aY x.az.toNat 4 order)++(aY x.slot 4 order++post):=by rw[e0];simp
 unfold Aw;rw[(nT e0 hp (.inr (.inl rfl)) ho (by have:=h.tag;omega)),(nT (p:=p+2) e1 (by simp[eL,hp]) (.inr (.inl rfl)) ho (by have:=h.ty;omega)),(nT (p:=p+4) e2 (by simp[eL,hp]) (.inr (.inr rfl)) ho (by have:=h.az;omega)),(nT (p:=p+8) e3 (by simp[eL,hp]) (.inr (.inr rfl)) ho h.slot)];rw[mI h.tag.1,mI h.ty.1,mI h.az.1]
def jZ(b:H1 UInt8)(order:Int):Nat->Nat->H1 bn
 |_,0=>[]
 |p,n+1=>Aw b p order::jZ b order (p+12) n
theorem RA{b:H1 UInt8}{order:Int}(ho:order=1\/order=2):∀(l:H1 bn)(pre post:H1 UInt8)(p:Nat),b=pre++(l.flatMap (jf order)++post)->p=pre.length->(∀x∈l,mM x)->jZ b order p l.length=l
 |[],_,_,_,_,_,_=>rfl
 |x::l,pre,post,p,e,hp,h=>by
  rw[dG,ed] at e;rw[cc,jZ,abd e hp ho (h x (by simp))]
  congr 1
  refine RA ho l (pre++jf order x) post (p+12) (by grind) (by simp[J7,hp]) λy hy=>h y (by grind)
def DH(S:H1 bo)(at_ cG:Nat):Bool:=S.any λs=>decide (max at_ s.at_<min (at_+cG) (s.at_+s.cG))
def lE(L:Nat)(S:H1 bo)(x:bo):Except Int (H1 bo):=
 if x.at_%2=0/\x.at_+x.cG<=L then(if DH S x.at_ x.cG=true then .error 5 else .ok (S++[x])) else .error 4
def lX(S:H1 bo)(e:Nat):Prop:=∀x∈S,x.at_+x.cG<=e
theorem PR{L:Nat}{S:H1 bo}{x:bo}{e:Nat}(hS:lX S e)(he:e<=x.at_)(h1:x.at_%2=0)(h2:x.at_+x.cG<=L):lE L S x=.ok (S++[x]):=by
 have hc:DH S x.at_ x.cG=false:=by
  unfold DH;rw[List.any_eq_false];intro s hs;have:=hS s hs
  grind
 unfold lE
 grind
theorem lX.add{S:H1 bo}{e:Nat}(h:lX S e){x:bo}{e':Nat}(h1:e<=e')(h2:x.at_+x.cG<=e'):lX (S++[x]) e':=by
 intro y hy;rcases fQ.1 hy with hy|hy
 ·have:=h y hy;omega
 grind
theorem lX.mono{S:H1 bo}{e e':Nat}(h:lX S e)(h1:e<=e'):lX S e':=λx hx=>fE (h x hx) h1
def sK(b:H1 UInt8)(order:Int)(no:Nat)(S:H1 bo)(x:bn):Except Int (aN×H1 bo):=
 if(kindOf x.ty).1 =0\/x.az<1\/65536<x.az then .error 6
 else if bQ x.ty x.az=0 then
  match pM x.ty x.az (aY x.slot 4 order) order with
  |some d=>.ok (⟨x.tag,x.ty,x.az,d⟩,S)
  |none=>.error 6
 else match lE b.length S ⟨3,no,x.tag,x.slot,bQ x.ty x.az⟩ with
  | .error e=>.error e
  | .ok S'=>match pM x.ty x.az (b.drop x.slot) order with
   |some d=>.ok (⟨x.tag,x.ty,x.az,d⟩,S')
   |none=>.error 6
def ko(own:Int->Bool)(b:H1 UInt8)(order:Int)(no:Nat):H1 bn->H1 bo->Except Int (H1 aN×H1 bo)
 |[],S=>.ok ([],S)
 |x::xs,S=>
  if own x.tag=true then(if x.ty=4/\x.az=1 then ko own b order no xs S else .error 6)
  else match sK b order no S x with
   | .error e=>.error e
   | .ok (t,S1)=>match ko own b order no xs S1 with
    | .error e=>.error e
    | .ok (ts,S2)=>.ok (t::ts,S2)
def mB(rd:Nat->Nat->Nat->H1 bo->Except Int (aV×Nat×Nat×H1 bo))(S:bg):H1 bn->Nat->H1 bo->Except Int (cK×Nat×H1 bo)
 |[],no,Sp=>.ok (.nil,no,Sp)
 |x::xs,no,Sp=>match rd x.slot ((lO S x.tag).getD 0) no Sp with
  | .error e=>.error e
  | .ok (d,next,no1,S1)=>if next≠0 then .error 2 else match mB rd S xs no1 S1 with
   | .error e=>.error e
   | .ok (r,no2,S2)=>.ok (.cons x.tag d r,no2,S2)
def kM(b:H1 UInt8)(order:Int)(sh:H1 bg):Nat->Nat->Nat->Nat->H1 bo->Except Int (aV×Nat×Nat×H1 bo)
 |0,_,_,_,_=>.error 0
 |f+1,at_,s,no,Sp=>
  if at_%2=0/\at_+2<=b.length then
   if cq b at_ 2 order=0 then .error 2
   else match lE b.length Sp ⟨2,no,0,at_,6+12*cq b at_ 2 order⟩ with
    | .error e=>.error e
    | .ok S1=>
     if ff (jZ b order (at_+2) (cq b at_ 2 order))=true then
      match ko (eW (aR sh s)) b order no (jZ b order (at_+2) (cq b at_ 2 order)) S1 with
      | .error e=>.error e
      | .ok (tags,S2)=>
       if((jZ b order (at_+2) (cq b at_ 2 order)).filter λx=>fK (aR sh s) x.tag).length=1 then .error 6
       else match mB (kM b order sh f) (aR sh s) ((jZ b order (at_+2) (cq b at_ 2 order)).filter λx=>fG (aR sh s) x.tag) (no+1) S2 with
        | .error e=>.error e
        | .ok (subs,no',S3)=>
         match(jZ b order (at_+2) (cq b at_ 2 order)).filter λx=>fK (aR sh s) x.tag with
         |[p,q]=>
          if q.slot=0 then .error 6
          else match lE b.length S3 ⟨4,no,0,p.slot,q.slot⟩ with
           | .error e=>.error e
           | .ok S4=>.ok (.mk tags subs ((b.drop p.slot).take q.slot),cq b (at_+2+12*cq b at_ 2 order) 4 order,no',S4)
         |_=>.ok (.mk tags subs [],cq b (at_+2+12*cq b at_ 2 order) 4 order,no',S3)
     else .error 2
  else .error 4
theorem WB{own:Int->Bool}{b:H1 UInt8}{order:Int}{no:Nat}:∀(l:H1 bn)(S:H1 bo),(∀x∈l,own x.tag=true->x.ty=4/\x.az=1)->ko own b order no l S=ko (λ_=>false) b order no (l.filter λx=>!own x.tag) S
 |[],S,_=>rfl
 |x::xs,S,h=>by
  have ih:=λS=>WB (b:=b) (order:=order) (no:=no) xs S λy hy=>h y (by grind)
  rw[kE]
  by_cases hx:own x.tag=true
  ·rw[aq (by grind),ko,ay hx,ay (h x (by simp) hx),ih]
  ·rw[ay (by grind),ko,ko]
   simp_all
theorem acf{t:aN}{order:Int}(hm:eI t.ty t.az t.data=true)(ho:bQ t.ty t.az=0):pM t.ty t.az (aY (pI order t) 4 order) order=some t.data:=by
 have hl:t.data.length<=4:=by
  have:=yg hm;rw[ho] at this;split at this
  ·assumption
  ·omega
 have hlen:(lG order t++List.replicate (4 -t.data.length) (0:UInt8)).length=4:=by rw[aP,zA,uK];omega
 have e:aY (pI order t) 4 order=lG order t++List.replicate (4 -t.data.length) (0:UInt8):=by unfold pI;have:=VM [] (lG order t++List.replicate (4 -t.data.length) (0:UInt8)) [] 4 order hlen;simp only[fy,dP,List.length_nil] at this;rw[this];exact ag4 _ 4 order hlen
 rw[e];unfold lG;exact Uh hm _
theorem MW{b:H1 UInt8}{order:Int}{no:Nat}:∀(ts:H1 aN)(pre post:H1 UInt8)(e:Nat)(S:H1 bo),(∀t∈ts,eI t.ty t.az t.data=true)->b=pre++(gH order e ts++post)->pre.length=e->lX S e->
 ko (λ_=>false) b order no (eK order e ts) S=.ok (ts,S++dw no e ts)/\lX (S++dw no e ts) (cn e ts)
 |[],pre,post,e,S,_,_,_,hS=>by
  refine⟨by simp[eK,ko,dw],?_⟩
  unfold cn dw
  simpa using hS
 |t::ts,pre,post,e,S,hm,hb,hp,hS=>by
  have hmt:=hm t (by simp)
  have hms:∀t∈ts,eI t.ty t.az t.data=true:=λt ht=>hm t (by simp[ht])
  obtain⟨k1,k2,k3,k4⟩:=vM hmt
  by_cases ho:bQ t.ty t.az=0
  ·have hb':b=pre++(gH order e ts++post):=by rw[hb,gH,ay ho]
   obtain⟨i1,i2⟩:=MW ts pre post e S hms hb' hp hS
   have hv:sK b order no S ⟨t.tag,t.ty,t.az,pI order t⟩=.ok (t,S):=by
    unfold sK
    rw[aq (by simp only;omega),ay ho]
    simp only[acf hmt ho]
   refine⟨?_,by rw[dw,ay ho,cn,ay ho];exact i2⟩
   rw[eK,ay ho,ko,aq (by simp),dw,ay ho]
   simp_all
  ·have hb':b=pre++(ec e++(lG order t++(gH order (aI e+bQ t.ty t.az) ts++post))):=by rw[hb,gH,aq ho];simp
   have hpe:pre.length+(ec e).length=aI e:=by rw[hp];exact qw e
   have hol:bQ t.ty t.az=t.data.length:=by have:=yg hmt;rw[this] at ho⊢;split<;>simp_all
   have htk:lE b.length S ⟨3,no,t.tag,aI e,bQ t.ty t.az⟩=.ok (S++[⟨3,no,t.tag,aI e,bQ t.ty t.az⟩]):=PR hS (nL e) (Kg e) (by rw[hb'];simp only[aP,zA];omega)
   have hd:b.drop (aI e)=lG order t++(gH order (aI e+bQ t.ty t.az) ts++post):=by
    have:b=(pre++ec e)++(lG order t++(gH order (aI e+bQ t.ty t.az) ts++post)):=by rw[hb'];simp
    rw[this,<-hpe,<-aP,List.drop_left]
   have hv:sK b order no S ⟨t.tag,t.ty,t.az,aI e⟩=.ok (t,S++[⟨3,no,t.tag,aI e,bQ t.ty t.az⟩]):=by
    unfold sK
    rw[aq (by simp only;omega),aq ho]
    simp_all
    unfold lG
    rw[Uh hmt]
   have hS1:lX (S++[⟨3,no,t.tag,aI e,bQ t.ty t.az⟩]) (aI e+bQ t.ty t.az):=hS.add (by have:=nL e;omega) (aM _)
   obtain⟨i1,i2⟩:=MW (b:=b) (order:=order) (no:=no) ts (pre++(ec e++lG order t)) post (aI e+bQ t.ty t.az) _ hms (by rw[hb'];simp) (by simp[zA];omega) hS1
   refine⟨?_,by rw[dw,aq ho,cn,aq ho];simpa using i2⟩
   rw[eK,aq ho,ko,hv,dw,aq ho]
   simp only[i1]
   simp
theorem Li{order:Int}{x:bn}:∀{ts:H1 aN}{e:Nat},x∈eK order e ts->∃t∈ts,x.tag=t.tag/\x.ty=t.ty/\x.az=t.az
 |[],e,h=>by cases h
 |t::ts,e,h=>by
  unfold eK at h;split at h
  ·rcases cX.1 h with rfl|h
   ·simp
   ·obtain⟨u,hu,r⟩:=Li h
    grind
  ·rcases cX.1 h with rfl|h
   ·simp
   ·obtain⟨u,hu,r⟩:=Li h
    grind
theorem TW{x:bn}:∀{r:cK}{e:Nat},x∈iJ e r->x.tag∈lD r/\x.ty=4/\x.az=1
 | .nil,e,h=>by unfold iJ at h;cases h
 | .cons tag d r,e,h=>by
  unfold lD;rcases cX.1 h with rfl|h
  ·simp
  ·obtain⟨h1,h2⟩:=TW h
   grind
theorem Rz{order:Int}:∀{ts:H1 aN}{e:Nat},fP ts=true->ff (eK order e ts)=true
 |[],e,_=>rfl
 |[t],e,_=>by unfold eK;split<;>rfl
 |t::u::ts,e,h=>by
  simp[fP] at h;have key:∀(x:bn)(e':Nat),x.tag=t.tag->ff (x::eK order e' (u::ts))=true:=by
   intro x e' hx;have ih:=Rz (order:=order) (e:=e') h.2;rw[eK] at ih⊢;split at ih
   ·rename_i ho;rw[ay ho];simp[ff];exact⟨by rw[hx];exact h.1,ih⟩
   ·rename_i ho;rw[aq ho];simp[ff];exact⟨by rw[hx];exact h.1,ih⟩
  rw[eK];split<;>grind
theorem Ry:∀{r:cK}{e:Nat},oa (lD r)=true->ff (iJ e r)=true
 | .nil,e,_=>rfl
 | .cons tag d .nil,e,_=>rfl
 | .cons tag d (.cons tag' d' r),e,h=>by simp[lD,oa] at h;have ih:=Ry (r:=.cons tag' d' r) (e:=bB e d) (by simp only[lD];exact h.2);simp[iJ,ff] at ih⊢;simp_all
structure uS(S:bg):Prop where
 bP:∀x∈S.bP,0<=x.tag/\x.tag<65536/\fK S x.tag=false
 pair:S.at_≠0->1<=S.at_/\S.at_<S.cG/\S.cG<65536
theorem abe{S:bg}(hS:uS S){e:Nat}{blob:H1 UInt8}(h:blob.length=0\/S.at_≠0):ff (hU S e blob)=true:=by
 unfold hU;split
 ·rfl
 ·have:=hS.pair (h.resolve_left (by grind));simp[ff];omega
theorem adu{S:bg}{e:Nat}{blob:H1 UInt8}{x:bn}(h:blob.length=0\/S.at_≠0)(hx:x∈hU S e blob):fK S x.tag=true/\x.ty=4/\x.az=1:=by
 unfold hU at hx;split at hx
 ·grind
 ·have:=h.resolve_left (by grind);simp_all;rcases hx with rfl|rfl<;>simp[fK,this]
theorem K6{S:bg}{tag:Int}(h:fG S tag=true):∃x∈S.bP,x.tag=tag:=by
 unfold fG at h
 grind
theorem Ei{sh:H1 bg}{S:bg}:∀{r:cK},jg sh S r=true->∀tag∈lD r,fG S tag=true
 | .nil,_,tag,h=>by unfold lD at h;cases h
 | .cons t d r,h,tag,ht=>by
  simp[jg] at h;simp[lD] at ht;rcases ht with rfl|ht
  ·grind
  ·exact Ei h.2.2 tag ht
theorem QY{order:Int}{sh:H1 bg}{S:bg}(hS:uS S){tags:H1 aN}{subs:cK}{blob:H1 UInt8}{e1 e2 e3:Nat}(ht:ky S tags=true)(hb:blob.length=0\/S.at_≠0)(hr:oa (lD subs)=true)(hs:jg sh S subs=true){E:H1 bn}
 (hE:E=gK (eK order e1 tags++(iJ e2 subs++hU S e3 blob))):
 ff E=true/\(E.filter λx=>!eW S x.tag)=eK order e1 tags/\(E.filter λx=>fG S x.tag)=iJ e2 subs/\(E.filter λx=>fK S x.tag)=hU S e3 blob/\(∀x∈E,eW S x.tag=true->x.ty=4/\x.az=1):=by
 simp[ky] at ht;have lV:∀x∈eK order e1 tags,eW S x.tag=false:=λx hx=>by obtain⟨t,h1,h2,_⟩:=Li hx;rw[h2];exact(ht.2 t h1).2.1
 have lS:∀x∈iJ e2 subs,fG S x.tag=true/\fK S x.tag=false/\x.ty=4/\x.az=1:=λx hx=>by obtain⟨h1,h2⟩:=TW hx;have hl:=Ei hs _ h1;obtain⟨y,y1,y2⟩:=K6 hl;exact⟨hl,by rw[<-y2];exact(hS.bP y y1).2.2,h2⟩
 have lB:∀x∈hU S e3 blob,fG S x.tag=false/\fK S x.tag=true/\x.ty=4/\x.az=1:=λx hx=>by
  obtain⟨h1,h2⟩:=adu hb hx;refine⟨?_,h1,h2⟩;cases hl:fG S x.tag with
  |false=>rfl
  |true=>obtain⟨y,y1,y2⟩:=K6 hl;have:=(hS.bP y y1).2.2;rw[y2,h1] at this;cases this
 have own_of:∀tag,eW S tag=(fG S tag||fK S tag):=λ_=>rfl;have vV:=Rz (order:=order) (e:=e1) ht.1;have vS:=Ry (e:=e2) hr;have vB:=abe hS (e:=e3) hb;have fall:∀(l:H1 bn)(p:bn->Bool),(∀x∈l,p x=true)->l.filter p=l:=λl p h=>List.filter_eq_self.2 h;have fnone:∀(l:H1 bn)(p:bn->Bool),(∀x∈l,p x=false)->l.filter p=[]:=λl p h=>List.filter_eq_nil_iff.2 λx hx=>by simp_all
 have notlink:∀x∈eK order e1 tags,fG S x.tag=false/\fK S x.tag=false:=λx hx=>by have:=lV x hx;rw[own_of,Bool.or_eq_false_iff] at this;exact this
 subst hE;refine⟨?_,?_,?_,?_,?_⟩
 ·refine KY (Jo (zZ vV) (Jo (zZ vS) (zZ vB) ?_) ?_)
  ·intro x hx y hy e;have:=(lS x hx).2.1;rw[<-e,(lB y hy).2.1] at this;cases this
  ·intro x hx y hy e;rcases fQ.1 hy with hy|hy<;>grind
 ·rw[D8,List.filter_append,List.filter_append,fall _ _ (λx hx=>by simp[lV x hx]),fnone _ _ (λx hx=>by simp[own_of,(lS x hx).1]),fnone _ _ (λx hx=>by simp_all)];simp;exact Er vV
 ·rw[D8,List.filter_append,List.filter_append,fnone _ _ (λx hx=>(notlink x hx).1),fall _ _ (λx hx=>(lS x hx).1),fnone _ _ (λx hx=>(lB x hx).1)];simp;exact Er vS
 ·rw[D8,List.filter_append,List.filter_append,fnone _ _ (λx hx=>(notlink x hx).2),fnone _ _ (λx hx=>(lS x hx).2.1),fall _ _ (λx hx=>(lB x hx).2.1)];exact Er vB
 ·intro x hx ho;rcases fQ.1 (xN.1 hx) with hx|hx
  ·rw[lV x hx] at ho;cases ho
  ·rcases fQ.1 hx with hx|hx
   ·exact(lS x hx).2.2
   ·exact(lB x hx).2.2
mutual
def gj:aV->Nat
 | .mk _ subs _=>jX subs+1
def jX:cK->Nat
 | .nil=>0
 | .cons _ d r=>max (gj d) (jX r)
end
theorem Tn{ty:Int}(h:(kindOf ty).1 ≠0):0<=ty/\ty<65536:=by
 by_cases o:ty<1\/12<ty
 ·rw[Et o] at h;exact absurd rfl h
 grind
theorem ahq(l:H1 UInt8)(order:Int):ib (gS l 0 4 order)<4294967296:=by
 have h:=Lw (gS l 0 4 order);have hl:(gS l 0 4 order).length<=4:=by unfold gS;split<;>simp<;>omega
 have:256^(gS l 0 4 order).length<=256^4:=Nat.pow_le_pow_right (by simp) hl;omega
theorem DZ{S:bg}{order:Int}:∀{ts:H1 aN}{e:Nat},(∀t∈ts,np t.tag=true/\eI t.ty t.az t.data=true)->cn e ts<4294967296->∀x∈eK order e ts,mM x
 |[],_,_,_,x,hx=>by cases hx
 |t::ts,e,h,he,x,hx=>by
  obtain⟨h1,h2⟩:=h t (by simp)
  obtain⟨k1,k2,k3,k4⟩:=vM h2
  have hs:∀t∈ts,np t.tag=true/\eI t.ty t.az t.data=true:=λt ht=>h t (by simp[ht])
  have ht:0<=t.tag/\t.tag<65536:=by simpa[np] using h1
  unfold eK at hx
  unfold cn at he
  split at hx
  ·rename_i ho
   rw[ay ho] at he
   rcases cX.1 hx with rfl|hx
   ·exact⟨ht,Tn k1,by simp only;omega,ahq _ _⟩
   ·exact DZ (S:=S) hs he x hx
  ·rename_i ho
   rw[aq ho] at he
   have:=qU ts (aI e+bQ t.ty t.az)
   rcases cX.1 hx with rfl|hx
   ·exact⟨ht,Tn k1,by simp only;omega,by simp only;omega⟩
   ·exact DZ (S:=S) hs he x hx
theorem J9{S:bg}(hS:uS S):∀{r:cK}{e:Nat},(∀tag∈lD r,fG S tag=true)->eH e r<4294967296->∀x∈iJ e r,mM x
 | .nil,_,_,_,x,hx=>by unfold iJ at hx;cases hx
 | .cons tag d r,e,h,he,x,hx=>by
  unfold eH at he;unfold lD at h;have h0:=tJ r (bB e d);have h1:aI e<4294967296:=by
   have:aI e<=bB e d:=by
    cases d with
    |mk tags subs blob=>unfold bB;have h2:=qU tags (aI e+(6+12*bE (.mk tags subs blob)));have h3:=tJ subs (cn (aI e+(6+12*bE (.mk tags subs blob))) tags);have h4:=nL (eH (cn (aI e+(6+12*bE (.mk tags subs blob))) tags) subs);split<;>omega
   omega
  rcases cX.1 hx with rfl|hx
  ·obtain⟨y,y1,y2⟩:=K6 (h tag (by simp));have:=hS.bP y y1;exact⟨by simp only;omega,by simp only;omega,by simp only;omega,h1⟩
  ·exact J9 hS (λt ht=>h t (by simp[ht])) he x hx
theorem Mz{d:aV}{e:Nat}:aI e+6<=bB e d:=by
 cases d with
 |mk tags subs blob=>
  unfold bB;have h2:=qU tags (aI e+(6+12*bE (.mk tags subs blob)));have h3:=tJ subs (cn (aI e+(6+12*bE (.mk tags subs blob))) tags);have h4:=nL (eH (cn (aI e+(6+12*bE (.mk tags subs blob))) tags) subs)
  grind
mutual
theorem WD{order:Int}(ho:order=1\/order=2){sh:H1 bg}(hsh:∀s,uS (aR sh s)):∀(d:aV)(s next e f no:Nat)(Sp:H1 bo)(pre post b:H1 UInt8),
 cM sh s d=true->b=pre++(jq order sh s next e d++post)->pre.length=e->bB e d<4294967296->next<4294967296->lX Sp e->gj d<=f->
 kM b order sh f (aI e) s no Sp=.ok (d,next,no+dL d,Sp++gp no e d)/\lX (Sp++gp no e d) (bB e d)
 | .mk tags subs blob,s,next,e,0,no,Sp,pre,post,b,h,hb,hp,hlt,hnx,hSp,hf=>by unfold gj at hf;omega
 | .mk tags subs blob,s,next,e,f+1,no,Sp,pre,post,b,h,hb,hp,hlt,hnx,hSp,hf=>by
  have hlen:=tD order sh (.mk tags subs blob) s next e h
  simp only[cM,bt,sZ,cm] at h;obtain⟨⟨n1,n2⟩,ht,hbl,hr,hs⟩:=h;have htg:∀t∈tags,np t.tag=true/\eI t.ty t.az t.data=true:=λt h=>by simp only[ky,bt,iE] at ht;exact⟨(ht.2 t h).1,(ht.2 t h).2.2⟩
  obtain⟨N,hN⟩:∃N,bE (.mk tags subs blob)=N:=⟨_,rfl⟩;obtain⟨e1,he1⟩:∃e1,aI e+(6+12*N)=e1:=⟨_,rfl⟩;obtain⟨e2,he2⟩:∃e2,cn e1 tags=e2:=⟨_,rfl⟩;obtain⟨e3,he3⟩:∃e3,eH e2 subs=e3:=⟨_,rfl⟩;obtain⟨S,hS⟩:∃S,aR sh s=S:=⟨_,rfl⟩;have hSo:=hsh s;rw[hS] at hSo ht hbl hs;have g1:=nL e;have g2:=qU tags e1;have g3:=tJ subs e2;have g4:=nL e3;rw[he2] at g2;rw[he3] at g3;have hend:bB e (.mk tags subs blob)=if blob.length=0 then e3 else aI e3+blob.length:=by rw[bB,hN,he1,he2,he3]
  rw[hend] at hlt hlen;have h3lt:e3<4294967296/\(blob.length=0\/aI e3+blob.length<4294967296):=by split at hlt<;>omega
  obtain⟨E,hE⟩:∃E,gK (eK order e1 tags++(iJ e2 subs++hU S e3 blob))=E:=⟨_,rfl⟩;obtain⟨c1,c2,c3,c4,c5⟩:=QY hSo ht hbl hr hs hE.symm;have hEn:E.length=N:=by rw[<-hE,AN,aP,aP,tK,Ax,DY,<-hN];show _=tags.length+cj subs+(if blob.length=0 then 0 else 2);omega
  have hEo:∀x∈E,mM x:=by
   intro x hx;rw[<-hE] at hx;rcases fQ.1 (xN.1 hx) with hx|hx
   ·exact DZ (S:=S) htg (by rw[he2];omega) x hx
   ·rcases fQ.1 hx with hx|hx
    ·exact J9 hSo (Ei hs) (by rw[he3];omega) x hx
    ·unfold hU at hx;split at hx
     ·cases hx
     ·have hat:=hSo.pair (hbl.resolve_left (by assumption));simp only[cX,nu,nA] at hx;rcases hx with rfl|rfl
      ·exact⟨by simp only;omega,by simp only;omega,by simp only;omega,by simp only;omega⟩
      ·exact⟨by simp only;omega,by simp only;omega,by simp only;omega,by simp only;omega⟩
  obtain⟨bl,hblob⟩:∃bl,(if blob.length=0 then[] else ec e3++blob)=bl:=⟨_,rfl⟩;have hbd:jq order sh s next e (.mk tags subs blob)=ec e++(kW order E next++(gH order e1 tags++(jW order sh S e2 subs++bl))):=by rw[jq,hN,he1,he2,he3,hS,hE,hblob]
  rw[hbd] at hlen hb;have iM:=Q9 order E next
  rw[hEn] at iM;have hpl:=qw e;have hvl:=IK order tags e1 λt h=>(htg t h).2;have hsl:=JF order sh subs S e2 hs;rw[he2] at hvl;rw[he3] at hsl;have hbL:b.length=e1+(gH order e1 tags).length+(jW order sh S e2 subs).length+bl.length+post.length:=by rw[hb];simp only[aP,iM];omega
  have hbll:bl.length=if blob.length=0 then 0 else aI e3 -e3+blob.length:=by
   rw[<-hblob];have:=qw e3;split
   ·rfl
   ·rw[aP];omega
  have hat:aI e=(pre++ec e).length:=by rw[aP];omega
  have hnum:cq b (aI e) 2 order=N:=by refine nT (pre:=pre++ec e) (post:=(E.flatMap (jf order)++aY next 4 order)++(gH order e1 tags++(jW order sh S e2 subs++(bl++post)))) ?_ hat (.inr (.inl rfl)) ho (by omega);rw[hb,kW,hEn];simp
  have hents:jZ b order (aI e+2) N=E:=by have:=RA ho E (pre++(ec e++aY N 2 order)) (aY next 4 order++(gH order e1 tags++(jW order sh S e2 subs++(bl++post)))) (aI e+2) (b:=b) (by rw[hb,kW,hEn];simp) (by simp only[aP,eL];omega) hEo;rwa[hEn] at this
  have hnext:cq b (aI e+2+12*N) 4 order=next:=by refine nT (pre:=pre++(ec e++(aY N 2 order++E.flatMap (jf order)))) (post:=gH order e1 tags++(jW order sh S e2 subs++(bl++post))) (by rw[hb,kW,hEn];simp) ?_ (.inr (.inr rfl)) ho (by omega);simp only[aP,eL,xD,hEn];omega
  have hee:=Kg e;have htk:lE b.length Sp ⟨2,no,0,aI e,6+12*N⟩=.ok (Sp++[⟨2,no,0,aI e,6+12*N⟩]):=PR hSp g1 hee (by simp only;omega);have hS1:lX (Sp++[⟨2,no,0,aI e,6+12*N⟩]) e1:=hSp.add (by omega) (by simp only;omega);obtain⟨v1,v2⟩:=MW (b:=b) (order:=order) (no:=no) tags (pre++(ec e++kW order E next)) (jW order sh S e2 subs++(bl++post)) e1 _ (λt h=>(htg t h).2) (by rw[hb];simp) (by simp only[aP,iM];omega) hS1;rw[he2] at v2;have hT:ko (eW S) b order no E (Sp++[⟨2,no,0,aI e,6+12*N⟩])=.ok (tags,Sp++[⟨2,no,0,aI e,6+12*N⟩]++dw no e1 tags):=by rw[WB E _ c5,c2];exact v1
  have kb:jX subs<=f:=by unfold gj at hf;omega
  obtain⟨s1,s2⟩:=WE ho hsh subs S e2 f (no+1) (Sp++[⟨2,no,0,aI e,6+12*N⟩]++dw no e1 tags) (pre++(ec e++(kW order E next++gH order e1 tags))) (bl++post) b hs (by rw[hb];simp) (by simp only[aP,iM];omega) (by rw[he3];omega) v2 kb;rw[he3] at s2;have tQ:no+dL (.mk tags subs blob)=no+1+iu subs:=by unfold dL;omega
  have hsp:gp no e (.mk tags subs blob)=⟨2,no,0,aI e,6+12*N⟩::(dw no e1 tags++(kQ (no+1) e2 subs++(if blob.length=0 then[] else[⟨4,no,0,aI e3,blob.length⟩]))):=by rw[gp,hN,he1,he2,he3]
  rw[tQ,hsp,hend];unfold kM;rw[ay ⟨hee,by omega⟩,hnum,aq (by omega)];simp only[htk];rw[hents,ay c1,hS];simp only[hT];rw[c4,c3];by_cases hz:blob.length=0
  ·have hB:hU S e3 blob=[]:=by unfold hU;rw[ay hz]
   have hbl0:blob=[]:=kC hz;rw[hB,aq (by simp)];simp only[s1,hnext,ay hz,dP];subst hbl0;refine⟨by simp,by simpa using s2⟩
  ·have hB:hU S e3 blob=[⟨S.at_,4,1,aI e3⟩,⟨S.cG,4,1,blob.length⟩]:=by unfold hU;rw[aq hz]
   rw[aq hz] at hblob hbll;rw[hB,aq (by simp)];simp only[s1];rw[aq hz];have htb:lE b.length (Sp++[⟨2,no,0,aI e,6+12*N⟩]++dw no e1 tags++kQ (no+1) e2 subs) ⟨4,no,0,aI e3,blob.length⟩=.ok (Sp++[⟨2,no,0,aI e,6+12*N⟩]++dw no e1 tags++kQ (no+1) e2 subs++[⟨4,no,0,aI e3,blob.length⟩]):=
    PR s2 g4 (Kg e3) (by simp only;omega)
   simp only[htb];have hdrop:(b.drop (aI e3)).take blob.length=blob:=by
    have hp3:=qw e3;have e':b=(pre++(ec e++(kW order E next++(gH order e1 tags++(jW order sh S e2 subs++ec e3)))))++(blob++post):=by rw[hb,<-hblob];simp
    have el:(pre++(ec e++(kW order E next++(gH order e1 tags++(jW order sh S e2 subs++ec e3))))).length=aI e3:=by simp only[aP,iM];omega
    rw[e',<-el,List.drop_left,List.take_left]
   rw[hdrop,hnext,aq hz,aq hz];refine⟨by simp,?_⟩;have:=s2.add (x:=⟨4,no,0,aI e3,blob.length⟩) (e':=aI e3+blob.length) (by omega) (aM _);simpa using this
theorem WE{order:Int}(ho:order=1\/order=2){sh:H1 bg}(hsh:∀s,uS (aR sh s)):∀(r:cK)(S:bg)(e f no:Nat)(Sp:H1 bo)(pre post b:H1 UInt8),
 jg sh S r=true->b=pre++(jW order sh S e r++post)->pre.length=e->eH e r<4294967296->lX Sp e->jX r<=f->
 mB (kM b order sh f) S (iJ e r) no Sp=.ok (r,no+iu r,Sp++kQ no e r)/\lX (Sp++kQ no e r) (eH e r)
 | .nil,S,e,f,no,Sp,pre,post,b,h,hb,hp,hlt,hSp,hf=>by unfold iJ kQ eH iu;refine⟨by simp[mB],by simpa using hSp⟩
 | .cons tag d r,S,e,f,no,Sp,pre,post,b,h,hb,hp,hlt,hSp,hf=>by simp only[jg,bt] at h;unfold eH at hlt;unfold jX at hf;have g:=tJ r (bB e d);rw[jW,ed] at hb;have hl:=tD order sh d ((lO S tag).getD 0) 0 e h.2.1;obtain⟨d1,d2⟩:=WD ho hsh d ((lO S tag).getD 0) 0 e f no Sp pre (jW order sh S (bB e d) r++post) b h.2.1 hb hp (by omega) (by omega) hSp (by omega);obtain⟨r1,r2⟩:=WE ho hsh r S (bB e d) f (no+dL d) _ (pre++jq order sh ((lO S tag).getD 0) 0 e d) post b h.2.2 (by rw[hb];simp) (by rw[aP];omega) hlt d2 (by omega);unfold iJ kQ eH iu;refine⟨?_,by simpa using r2⟩;rw[mB];simp only[d1,r1];simp[o8]
end
structure jc(sh:List bg):Prop where
 ok:∀s,uS (aR sh s)
 bP:∀s,s<sh.length->∀x∈(aR sh s).bP,(s:Int)<x.shape/\x.shape<sh.length
 next:∀s,s<sh.length->(aR sh s).next<0\/((s:Int)<(aR sh s).next/\(aR sh s).next<sh.length)
theorem adb{S:bg}{tag:Int}(h:fG S tag=true):∃x∈S.bP,(lO S tag).getD 0=x.shape.toNat:=by
 unfold fG at h;unfold lO;cases hf:S.bP.find? (λx=>x.tag==tag) with
 |none=>grind
 |some x=>grind
mutual
theorem Q6{sh:H1 bg}(hsh:jc sh):∀(d:aV)(s:Nat),cM sh s d=true->s<sh.length->gj d+s<=sh.length
 | .mk tags subs blob,s,h,hs=>by simp[cM] at h;have:=Q7 hsh subs s h.2.2.2.2 hs;unfold gj;omega
theorem Q7{sh:H1 bg}(hsh:jc sh):∀(r:cK)(s:Nat),jg sh (aR sh s) r=true->s<sh.length->jX r+s+1<=sh.length
 | .nil,s,_,hs=>by unfold jX;omega
 | .cons tag d r,s,h,hs=>by simp[jg] at h;obtain⟨x,hx,e⟩:=adb h.1;have hl:=hsh.bP s hs x hx;have h1:=Q6 hsh d ((lO (aR sh s) tag).getD 0) h.2.1 (by grind);have h2:=Q7 hsh r s h.2.2 hs;unfold jX;omega
end
def eG(e:Nat):H1 aV->Nat
 |[]=>e
 |d::ds=>eG (bB e d) ds
def gZ:H1 aV->Nat
 |[]=>0
 |d::ds=>dL d+gZ ds
def jA(no e:Nat):H1 aV->H1 bo
 |[]=>[]
 |d::ds=>gp no e d++jA (no+dL d) (bB e d) ds
def qs(e:Nat)(d:aV)(ds:H1 aV):Nat:=if ds.isEmpty then 0 else aI (bB e d)
def chainB(order:Int)(sh:H1 bg)(s:Int)(e:Nat):H1 aV->H1 UInt8
 |[]=>[]
 |d::ds=>jq order sh s.toNat (qs e d ds) e d++chainB order sh (aR sh s.toNat).next (bB e d) ds
def gE(sh:H1 bg)(s:Int):H1 aV->Bool
 |[]=>true
 |d::ds=>decide (0<=s)&&(cM sh s.toNat d&&gE sh (aR sh s.toNat).next ds)
def eM(t:mN)(sh:H1 bg):H1 UInt8:=
 (if t.order=1 then[73,73] else[77,77])++(aY 42 2 t.order++(aY 8 4 t.order++chainB t.order sh 0 8 t.dO))
def fD(t:mN):H1 bo:=⟨1,-1,0,0,8⟩::jA 0 8 t.dO
def gT(t:mN):Nat:=eG 8 t.dO
def oS(b:H1 UInt8)(order:Int)(sh:H1 bg):Nat->Bool->Nat->Int->Nat->H1 bo->Except Int (H1 aV×H1 bo)
 |0,_,_,_,_,_=>.error 0
 |f+1,first,at_,s,no,Sp=>
  if at_=0/\first=false then .ok ([],Sp)
  else if s<0 then .error 2
  else match kM b order sh sh.length at_ s.toNat no Sp with
   | .error e=>.error e
   | .ok (d,next,no1,S1)=>match oS b order sh f false next (aR sh s.toNat).next no1 S1 with
    | .error e=>.error e
    | .ok (ds,S2)=>.ok (d::ds,S2)
def lQ(b:H1 UInt8):Int:=if b.take 2=[73,73] then 1 else if b.take 2=[77,77] then 2 else 0
def uH(b:H1 UInt8)(sh:H1 bg):Except Int (mN×H1 bo):=
 if b.length<8 then .error 3
 else if lQ b=0\/cq b 2 2 (lQ b)≠42 then .error 2
 else match oS b (lQ b) sh (sh.length+2) true (cq b 4 4 (lQ b)) 0 0 [⟨1,-1,0,0,8⟩] with
  | .error e=>.error e
  | .ok (ds,S)=>.ok (⟨lQ b,ds⟩,S)
theorem QW{order:Int}{sh:H1 bg}:∀(ds:H1 aV)(s:Int)(e:Nat),gE sh s ds=true->e+(chainB order sh s e ds).length=eG e ds
 |[],_,_,_=>rfl
 |d::ds,s,e,h=>by
  simp[gE] at h
  have h1:=tD order sh d s.toNat (qs e d ds) e h.2.1
  have h2:=QW (order:=order) ds (aR sh s.toNat).next (bB e d) h.2.2
  rw[chainB,eG,aP]
  omega
theorem qm:∀(ds:H1 aV)(e:Nat),e<=eG e ds
 |[],e=>aM _
 |d::ds,e=>by have:=Ar d e;have:=qm ds (bB e d);rw[eG];omega
theorem WC{order:Int}(ho:order=1\/order=2){sh:H1 bg}(hsh:jc sh):∀(ds:H1 aV)(s:Int)(e f no:Nat)(first:Bool)(Sp:H1 bo)(pre b:H1 UInt8),
 gE sh s ds=true->(first=true->ds≠[])->s<sh.length->b=pre++chainB order sh s e ds->pre.length=e->0<e->eG e ds<4294967296->lX Sp e->((sh.length:Int) -s).toNat+2<=f->
 oS b order sh f first (if ds.isEmpty then 0 else aI e) s no Sp=.ok (ds,Sp++jA no e ds)
 |[],s,e,f+1,no,first,Sp,pre,b,h,hfi,hs,hb,hp,he,hlt,hSp,hf=>by
  have:first=false:=by cases first with
   |false=>rfl
   |true=>exact absurd rfl (hfi rfl)
  subst this;rw[oS];simp[jA]
 |d::ds,s,e,f+1,no,first,Sp,pre,b,h,hfi,hs,hb,hp,he,hlt,hSp,hf=>by
  simp[gE] at h;obtain⟨h0,h1,h2⟩:=h;have g1:=nL e;have g3:=qm ds (bB e d);rw[eG] at hlt;rw[chainB] at hb;have hl:=tD order sh d s.toNat (qs e d ds) e h1;have hnx:qs e d ds<4294967296:=by
   unfold qs;split
   ·decide
   ·cases ds with
    |nil=>rename_i hh;exact absurd rfl hh
    |cons d' ds=>have:=Mz (d:=d') (e:=bB e d);have:=qm ds (bB (bB e d) d');rw[eG] at hlt g3;omega
  obtain⟨d1,d2⟩:=WD ho hsh.ok d s.toNat (qs e d ds) e sh.length no Sp pre (chainB order sh (aR sh s.toNat).next (bB e d) ds) b h1 hb hp (by omega) hnx hSp (by have:=Q6 hsh d s.toNat h1 (by omega);omega);have hnext:=hsh.next s.toNat (by omega);have hr:oS b order sh f false (qs e d ds) (aR sh s.toNat).next (no+dL d) (Sp++gp no e d)=.ok (ds,Sp++gp no e d++jA (no+dL d) (bB e d) ds):=by
   cases ds with
   |nil=>
    cases f with
    |zero=>omega
    |succ f=>rw[oS,ay ⟨rfl,rfl⟩];simp[jA]
   |cons d' ds=>
    have hn:0<=(aR sh s.toNat).next:=by simp[gE] at h2;exact h2.1
    have:=WC ho hsh (d'::ds) (aR sh s.toNat).next (bB e d) f (no+dL d) false (Sp++gp no e d) (pre++jq order sh s.toNat (qs e d (d'::ds)) e d) b h2 (by intro h;cases h) (by omega) (by rw[hb];simp) (by rw[aP];omega) (by omega) hlt d2 (by omega);exact this
  rw[oS,aq (by simp;omega),aq (by omega)];simp_all;simp[jA]
 |_,s,e,0,no,first,Sp,pre,b,h,hfi,hs,hb,hp,he,hlt,hSp,hf=>by omega
theorem wQ{t:mN}{sh:H1 bg}(h:gE sh 0 t.dO=true):(eM t sh).length=gT t:=by
 have:=QW (order:=t.order) t.dO 0 8 h;simp[eM,gT,eL]
 grind
theorem P3{t:mN}{sh:H1 bg}(ho:t.order=1\/t.order=2)(hsh:jc sh)(hl:0<sh.length)(cA:t.dO≠[])(h:gE sh 0 t.dO=true)(hlt:gT t<4294967296):uH (eM t sh) sh=.ok (t,fD t):=by
 have h8:=qm t.dO 8;have hord:lQ (eM t sh)=t.order:=by unfold lQ eM;rcases ho with e|e<;>rw[e]<;>simp
 obtain⟨sg,hsg⟩:∃sg,(if t.order=1 then[73,73] else[77,77]:H1 UInt8)=sg:=⟨_,rfl⟩;have hsl:sg.length=2:=by rw[<-hsg];split<;>rfl
 have hb:eM t sh=sg++(aY 42 2 t.order++(aY 8 4 t.order++chainB t.order sh 0 8 t.dO)):=by unfold eM;rw[hsg]
 have hat:cq (eM t sh) 4 4 t.order=8:=nT (pre:=sg++aY 42 2 t.order) (post:=chainB t.order sh 0 8 t.dO) (by rw[hb];simp) (by simp[hsl,eL]) (.inr (.inr rfl)) ho (by decide);have hr:=WC ho hsh t.dO 0 8 (sh.length+2) 0 true [⟨1,-1,0,0,8⟩] (sg++(aY 42 2 t.order++aY 8 4 t.order)) (eM t sh) h (λ_=>cA) (by omega) (by rw[hb];simp) (by simp[hsl,eL]) (by decide) hlt (by intro x hx;rw[nt.1 hx];decide) (by omega);have hem:t.dO.isEmpty=false:=by
  cases hd:t.dO with
  |nil=>exact absurd hd cA
  |cons _ _=>rfl
 rw[hem] at hr;unfold uH;rw[aq (by rw[(wQ h)];unfold gT;omega),hord,(nT hb hsl.symm (.inr (.inl rfl)) ho (by decide)),aq (by rcases ho with e|e<;>rw[e]<;>simp)];rw[(show(if false=true then 0 else aI 8)=8 from rfl)] at hr;simp_all;rfl
def SD(d:Int):H1 ((Int×Int)×H1 Int×Int):=
 ([0x0100,0x0101].map λt=>((d,t),[3,4],1))++([0x0103,0x0112,0x0128,0x0213].map λt=>((d,t),[3],1))++
 ([0x010e,0x010f,0x0110,0x0131,0x013b,0x8298].map λt=>((d,t),[2],0))++[((d,0x0132),[2],20),((d,0x011a),[5],1),((d,0x011b),[5],1)]
def aho(d:Int):H1 ((Int×Int)×H1 Int×Int):=
 ([0x829a,0x829d,0x9202,0x920a].map λt=>((d,t),[5],1))++([0x8822,0x9207,0x9208,0x9209,0xa001,0xa402].map λt=>((d,t),[3],1))++
 ([0x9000,0x9101,0xa000].map λt=>((d,t),[7],4))++([0x9201,0x9204].map λt=>((d,t),[10],1))++([0x9003,0x9004].map λt=>((d,t),[2],20))++
 ([0xa002,0xa003].map λt=>((d,t),[3,4],1))++[((d,0x8827),[3],0),((d,0x9286),[7],0),((d,0x9290),[2],0),((d,0xa300),[7],1),((d,0xa420),[2],33),((d,0xa432),[5],4)]
def abT(d:Int):H1 ((Int×Int)×H1 Int×Int):=
 [((d,0x00),[1],4),((d,0x05),[1],1),((d,0x06),[5],1)]++([0x01,0x03].map λt=>((d,t),[2],2))++([0x02,0x04,0x07].map λt=>((d,t),[5],3))++
 [((d,0x12),[2],0),((d,0x1d),[2],11)]
def amu(d:Int):H1 ((Int×Int)×H1 Int×Int):=
 [((d,0xb000),[7],4)]++([0xb101,0xb201,0xb202].map λt=>((d,t),[4],1))++([0xb204,0xb206].map λt=>((d,t),[5],1))++([0xb205,0xb208].map λt=>((d,t),[10],1))
def W9:H1 ((Int×Int)×H1 Int×Int):=
 SD 0++SD 1++aho 2++abT 3++[((4,1),[2],4),((4,2),[7],4)]++amu 5
def Nc(d t:Int):Zh (H1 Int×Int):=W9.lookup (d,t)
def pO:H1 (Int×Int):=[(0,0x8769),(0,0x8825),(1,0x0201),(1,0x0202),(2,0x927c),(2,0xa005),(5,0xb001),(5,0xb002)]
def sB(d:Int)(x:aN):Bool:=
 decide (0<=d/\d<6/\0<=x.tag/\x.tag<=65535)&&!pO.contains (d,x.tag)&&eI x.ty x.az x.data&&
  (match Nc d x.tag with
   |none=>true
   |some (l,c)=>l.contains x.ty&&(c==0||c==x.az))
def da(d:Int)(l:H1 aN):Bool:=fP l&&l.all (sB d)&&decide (0<=d/\d<6)
structure dJ where
 order:Int
 cu:List aN
 bG:List aN
 bN:List aN
 bm:List aN
 first:List aN
 bF:List UInt8
 cP:List UInt8
 deriving DecidableEq
def iS(x:dJ):Int:=
 if¬(x.order=1\/x.order=2) then 1
 else if(da 0 x.cu&&(da 2 x.bG&&(da 3 x.bN&&(da 4 x.bm&&da 1 x.first))))=false then 6
 else if 65536<x.bF.length\/(x.cu.length=0/\x.bG.length=0/\x.bN.length=0/\x.bm.length=0/\x.bF.length=0) then 6
 else 0
theorem tF{x:dJ}(h:iS x=0):(x.order=1\/x.order=2)/\da 0 x.cu=true/\da 2 x.bG=true/\da 3 x.bN=true/\da 4 x.bm=true/\da 1 x.first=true/\x.bF.length<=65536/\
 ¬(x.cu.length=0/\x.bG.length=0/\x.bN.length=0/\x.bm.length=0/\x.bF.length=0):=by
 unfold iS at h
 grind
def iK(l:H1 aN)(tag:Int):Zh aN:=l.find? λx=>x.tag==tag
def pD(l:H1 aN)(tag:Int):H1 aN:=l.filter λx=>x.tag !=tag
def ku(l:H1 aN)(x:aN):H1 aN:=(l.filter λy=>decide (y.tag<x.tag))++x::l.filter λy=>decide (x.tag<y.tag)
theorem FH:∀{a:aN}{l:H1 aN},fP (a::l)=true->fP l=true/\∀y∈l,a.tag<y.tag
 |a,[],_=>⟨rfl,λy h=>by cases h⟩
 |a,b::l,h=>by
  simp[fP] at h;obtain⟨h1,h2⟩:=FH h.2
  grind
theorem M4{a:aN}:∀{l:H1 aN},fP l=true->(∀y∈l,a.tag<y.tag)->fP (a::l)=true
 |[],_,_=>rfl
 |b::l,h,g=>by simp[fP];simp_all
theorem xG{α:Type}{p:α->Bool}:∀{l:H1 α},(∀y∈l,p y=true)->l.filter p=l
 |[],_=>rfl
 |a::l,h=>by simp_all
theorem filter_nil{α:Type}{p:α->Bool}:∀{l:H1 α},(∀y∈l,p y=false)->l.filter p=[]
 |[],_=>rfl
 |a::l,h=>by simp_all
theorem Y4(t:Int):∀{l:H1 aN},fP l=true->(∀y∈l,y.tag≠t)->(l.filter λy=>decide (y.tag<t))++(l.filter λy=>decide (t<y.tag))=l
 |[],_,_=>rfl
 |a::l,h,hn=>by
  obtain⟨h1,h2⟩:=FH h;have h0:=hn a (by simp);by_cases c:a.tag<t
  ·rw[kE,ay (by grind),kE,aq (by simp;omega),eD,(Y4 t h1 λy hy=>hn y (by simp[hy]))]
  ·rw[kE,aq (by grind),kE,ay (by simp;omega)];rw[filter_nil (λy hy=>by have:=h2 y hy;simp;omega),xG (λy hy=>by have:=h2 y hy;simp;omega)];rfl
theorem XS(x:aN):∀{l:H1 aN},fP l=true->fP (ku l x)=true
 |[],_=>rfl
 |a::l,h=>by
  obtain⟨h1,h2⟩:=FH h;have ih:=XS x h1;unfold ku at ih⊢;by_cases c:a.tag<x.tag
  ·rw[kE,ay (by simpa using c),kE,aq (by simp;omega)];refine M4 ih λy hy=>?_;rcases fQ.1 hy with hy|hy
   ·exact h2 y (o7.1 hy).1
   ·rcases cX.1 hy with rfl|hy
    ·exact c
    ·exact h2 y (o7.1 hy).1
  ·have e:((a::l).filter λy=>decide (y.tag<x.tag))=[]:=filter_nil λy hy=>by
    rcases cX.1 hy with rfl|hy<;>grind
   rw[e];refine M4 ?_ (λy hy=>by simpa using(o7.1 hy).2);rw[kE];split
   ·rename_i q;refine M4 ?_ λy hy=>h2 y (o7.1 hy).1;rw[xG λy hy=>by have:=h2 y hy;simp at q⊢;omega];exact h1
   ·rename_i q;rw[xG λy hy=>by have:=h2 y hy;simp at q⊢;omega];exact h1
theorem XR{x y:aN}{l:H1 aN}(h:y∈ku l x):y=x\/y∈l:=by
 rcases fQ.1 h with h|h
 ·grind
 grind
theorem XQ(l:H1 aN)(x:aN):(ku l x).length<=l.length+1:=by
 unfold ku;have h1:∀l:H1 aN,(l.filter λy=>decide (y.tag<x.tag)).length+(l.filter λy=>decide (x.tag<y.tag)).length<=l.length:=by
  intro l;induction l with
  |nil=>simp
  |cons a l ih=>grind
 grind
theorem drop_set{x:aN}{l:H1 aN}(h:fP l=true)(hn:∀y∈l,y.tag≠x.tag):pD (ku l x) x.tag=l:=by unfold pD ku;rw[List.filter_append,kE,aq (by simp),xG λy hy=>by simpa using hn y (o7.1 hy).1,xG (p:=λy:aN=>y.tag !=x.tag) λy hy=>by simpa using hn y (o7.1 hy).1];exact Y4 x.tag h hn
theorem aby(x:aN)(l:H1 aN):iK (ku l x) x.tag=some x:=by
 unfold iK ku
 grind
theorem abv{l:H1 aN}{t:Int}(hn:∀y∈l,y.tag≠t):iK l t=none:=by
 unfold iK
 grind
theorem aa5{l:H1 aN}{t:Int}(hn:∀y∈l,y.tag≠t):pD l t=l:=xG λy hy=>by simpa using hn y hy
def dC:H1 bg:=[⟨[⟨34665,2⟩,⟨34853,3⟩],0,0,1⟩,⟨[],513,514,-1⟩,⟨[⟨40965,4⟩],0,0,-1⟩,⟨[],0,0,-1⟩,⟨[],0,0,-1⟩]
def jL(b:H1 UInt8):aN:=⟨37500,7,b.length,b⟩
def jQ(x:dJ):aV:=.mk (if x.bF.length=0 then x.bG else ku x.bG (jL x.bF)) (if x.bm.length=0 then .nil else .cons 40965 (.mk x.bm .nil []) .nil) []
def nN(x:dJ):cK:=if x.bN.length=0 then .nil else .cons 34853 (.mk x.bN .nil []) .nil
def jO(x:dJ):cK:=if x.bG.length=0/\x.bm.length=0/\x.bF.length=0 then nN x else .cons 34665 (jQ x) (nN x)
def fg(x:dJ):mN:=⟨x.order,.mk x.cu (jO x) []::(if x.first.length=0/\x.cP.length=0 then[] else[.mk x.first .nil x.cP])⟩
theorem Kl:jc dC:=by
 have key:∀s,aR dC s=Uc\/s<5:=by
  intro s;by_cases h:s<5
  ·exact .inr h
  ·left;unfold aR;rw[kR (by simp[dC];omega)];rfl
 refine⟨λs=>?_,λs hs x hx=>?_,λs hs=>?_⟩
 ·rcases key s with h|h
  ·rw[h];exact⟨λx hx=>(by cases hx),λh=>absurd rfl h⟩
  ·have:s=0\/s=1\/s=2\/s=3\/s=4:=by omega
   rcases this with rfl|rfl|rfl|rfl|rfl
   ·refine⟨λx hx=>?_,λh=>absurd rfl h⟩;have hx:x∈[(⟨34665,2⟩:iF),⟨34853,3⟩]:=hx;simp_all;rcases hx with rfl|rfl<;>exact⟨by decide,by decide,rfl⟩
   ·refine⟨λx hx=>(by cases hx),λ_=>⟨by decide,by decide,by decide⟩⟩
   ·refine⟨λx hx=>?_,λh=>absurd rfl h⟩;have hx:x∈[(⟨40965,4⟩:iF)]:=hx;simp at hx;rcases hx with rfl
    exact⟨by decide,by decide,rfl⟩
   ·exact⟨λx hx=>(by cases hx),λh=>absurd rfl h⟩
   ·exact⟨λx hx=>(by cases hx),λh=>absurd rfl h⟩
 ·have:s=0\/s=1\/s=2\/s=3\/s=4:=by simp[dC] at hs;omega
  rcases this with rfl|rfl|rfl|rfl|rfl
  ·have hx:x∈[(⟨34665,2⟩:iF),⟨34853,3⟩]:=hx;simp_all;rcases hx with rfl|rfl<;>exact⟨by decide,by decide⟩
  ·cases hx
  ·have hx:x∈[(⟨40965,4⟩:iF)]:=hx;simp at hx;rcases hx with rfl;exact⟨by decide,by decide⟩
  ·cases hx
  ·cases hx
 ·have:s=0\/s=1\/s=2\/s=3\/s=4:=by simp[dC] at hs;omega
  rcases this with rfl|rfl|rfl|rfl|rfl
  ·right;exact⟨by decide,by decide⟩
  all_goals left;decide
theorem ED{d:Int}{x:aN}(h:sB d x=true):0<=x.tag/\x.tag<=65535/\pO.contains (d,x.tag)=false/\eI x.ty x.az x.data=true:=by
 unfold sB at h
 grind
theorem yr{d:Int}{l:H1 aN}(h:da d l=true):fP l=true/\∀x∈l,sB d x=true:=by
 unfold da at h
 grind
theorem zu{d:Int}{l:H1 aN}{S:bg}(h:da d l=true)(ho:∀t,eW S t=true->pO.contains (d,t)=true):ky S l=true:=by
 obtain⟨h1,h2⟩:=yr h;unfold ky;rw[bt,iE];refine⟨h1,λt ht=>?_⟩;obtain⟨a,b,c,e⟩:=ED (h2 t ht);have:eW S t.tag=false:=by grind
 rw[this,e];simp[np];omega
theorem EI{S:bg}(h:S.bP=[])(ha:S.at_=0)(t:Int):eW S t=false:=by
 unfold eW fG fK
 grind
theorem Fi(t:Int)(h:eW (aR dC 0) t=true):pO.contains (0,t)=true:=by
 have:t=34665\/t=34853:=by
  have h:(([(⟨34665,2⟩:iF),⟨34853,3⟩].any λx=>x.tag==t)||(decide ((0:Int)≠0)&&(decide (t=0)||decide (t=0))))=true:=h
  grind
 rcases this with rfl|rfl<;>rfl
theorem ag8(t:Int)(h:eW (aR dC 1) t=true):pO.contains (1,t)=true:=by
 have:t=513\/t=514:=by have h:(([]:H1 iF).any (λx=>x.tag==t)||(decide ((513:Int)≠0)&&(decide (t=513)||decide (t=514))))=true:=h;simp_all
 rcases this with rfl|rfl<;>rfl
theorem VC(t:Int)(h:eW (aR dC 2) t=true):t=40965:=by
 have h:(([(⟨40965,4⟩:iF)].any λx=>x.tag==t)||(decide ((0:Int)≠0)&&(decide (t=0)||decide (t=0))))=true:=h
 grind
theorem ag9(t:Int):eW (aR dC 3) t=false:=EI rfl rfl t
theorem aha(t:Int):eW (aR dC 4) t=false:=EI rfl rfl t
theorem adF{b:H1 UInt8}(h1:b.length≠0)(h2:b.length<=65536):eI (jL b).ty (jL b).az (jL b).data=true:=by
 unfold eI jL;have:(kindOf 7).1 =1:=rfl
 grind
def rl(x:dJ)(m:Nat):Prop:=x.cu.length<=m/\x.bG.length<=m/\x.bN.length<=m/\x.bm.length<=m/\x.first.length<=m
theorem Ms{x:dJ}(h:da 2 x.bG=true):∀y∈x.bG,y.tag≠37500:=by intro y hy e;have:=(ED ((yr h).2 y hy)).2.2.1;rw[e] at this;cases this
theorem Zm{x:dJ}(h:iS x=0)(hm:rl x 65000)(hp:¬(x.bG.length=0/\x.bm.length=0/\x.bF.length=0)):cM dC 2 (jQ x)=true:=by
 obtain⟨-,-,h2,-,h4,-,hmk,-⟩:=tF h;obtain⟨-,m2,-,m4,-⟩:=hm;have hl:=XQ x.bG (jL x.bF);have ht:ky (aR dC 2) (if x.bF.length=0 then x.bG else ku x.bG (jL x.bF))=true:=by
  have h0:=zu h2 λt q=>by rw[VC t q];rfl
  split
  ·exact h0
  ·rename_i hmk0;unfold ky at h0⊢;rw[bt,iE] at h0⊢;refine⟨XS _ h0.1,λt ht=>?_⟩;rcases XR ht with rfl|ht
   ·rw[adF hmk0 hmk];have:eW (aR dC 2) (jL x.bF).tag=false:=by
     cases q:eW (aR dC 2) (jL x.bF).tag with
     |false=>rfl
     |true=>exact absurd (VC _ q) (show¬((37500:Int)=40965) by decide)
    rfl
   ·exact h0.2 t ht
 unfold jQ cM;rw[ht];have hn:1<=bE (.mk (if x.bF.length=0 then x.bG else ku x.bG (jL x.bF)) (if x.bm.length=0 then .nil else .cons 40965 (.mk x.bm .nil []) .nil) [])/\
  bE (.mk (if x.bF.length=0 then x.bG else ku x.bG (jL x.bF)) (if x.bm.length=0 then .nil else .cons 40965 (.mk x.bm .nil []) .nil) [])<=65535:=by
  have hl0:1<=(ku x.bG (jL x.bF)).length:=by unfold ku;simp;omega
  by_cases a:x.bF.length=0
  ·by_cases b:x.bm.length=0
   ·rw[ay a,ay b];simp only[bE,cj,List.length_nil,ea];omega
   ·rw[ay a,aq b];simp only[bE,cj,List.length_nil,ea];omega
  ·by_cases b:x.bm.length=0
   ·rw[aq a,ay b];simp only[bE,cj,List.length_nil,ea];omega
   ·rw[aq a,aq b];simp only[bE,cj,List.length_nil,ea];omega
 rw[dZ hn];by_cases b:x.bm.length=0
 ·rw[ay b];rfl
 ·rw[aq b];have hi:cM dC 4 (.mk x.bm .nil [])=true:=by
   unfold cM;rw[zu h4 λt q=>by rw[aha] at q;cases q];have:1<=bE (.mk x.bm .nil [])/\bE (.mk x.bm .nil [])<=65535:=by simp only[bE,cj,List.length_nil,ea];omega
   rw[dZ this];rfl
  show((oa [40965]&&(true&&(cM dC 4 (.mk x.bm .nil [])&&true))))=true;rw[hi];rfl
theorem Sg{x:dJ}(h:iS x=0)(hm:rl x 65000)(hp:x.bN.length≠0):cM dC 3 (.mk x.bN .nil [])=true:=by
 obtain⟨-,-,-,h3,-,-,-,-⟩:=tF h;obtain⟨-,-,m3,-,-⟩:=hm;unfold cM;rw[zu h3 λt q=>by rw[ag9] at q;cases q];have:1<=bE (.mk x.bN .nil [])/\bE (.mk x.bN .nil [])<=65535:=by simp[bE,cj];omega
 rw[dZ this];rfl
theorem Zu{x:dJ}(h:iS x=0)(hm:rl x 65000):gE dC 0 (fg x).dO=true:=by
 obtain⟨-,h0,-,-,-,h1,-,cA⟩:=tF h;have hm':=hm;obtain⟨m0,m2,m3,m4,m1⟩:=hm';have hsub:(oa (lD (jO x))&&jg dC (aR dC 0) (jO x))=true:=by
  unfold jO nN;by_cases a:x.bG.length=0/\x.bm.length=0/\x.bF.length=0
  ·rw[ay a];by_cases b:x.bN.length=0
   ·rw[ay b];rfl
   ·rw[aq b];show((oa [34853]&&(true&&(cM dC 3 (.mk x.bN .nil [])&&true))))=true;rw[Sg h hm b];rfl
  ·rw[aq a];by_cases b:x.bN.length=0
   ·rw[ay b];show((oa [34665]&&(true&&(cM dC 2 (jQ x)&&true))))=true;rw[Zm h hm a];rfl
   ·rw[aq b];show((oa [34665,34853]&&(true&&(cM dC 2 (jQ x)&&(true&&(cM dC 3 (.mk x.bN .nil [])&&true))))))=true;rw[Zm h hm a,Sg h hm b];rfl
 have hs2:cj (jO x)<=2/\(x.cu.length=0->1<=cj (jO x)):=by
  unfold jO nN;by_cases a:x.bG.length=0/\x.bm.length=0/\x.bF.length=0
  ·rw[ay a];by_cases b:x.bN.length=0
   ·rw[ay b];simp only[cj];omega
   ·rw[aq b];simp only[cj];omega
  ·rw[aq a];by_cases b:x.bN.length=0
   ·rw[ay b];simp only[cj];omega
   ·rw[aq b];simp only[cj];omega
 have hd0:cM dC 0 (.mk x.cu (jO x) [])=true:=by
  unfold cM;rw[zu h0 Fi,hsub];have:1<=bE (.mk x.cu (jO x) [])/\bE (.mk x.cu (jO x) [])<=65535:=by simp[bE];omega
  rw[dZ this];rfl
 unfold fg;have hx:∀ds,gE dC 0 (.mk x.cu (jO x) []::ds)=(decide ((0:Int)<=0)&&(cM dC 0 (.mk x.cu (jO x) [])&&gE dC 1 ds)):=λds=>rfl;simp only;rw[hx,hd0];by_cases a:x.first.length=0/\x.cP.length=0
 ·rw[ay a];rfl
 ·rw[aq a];have hd1:cM dC 1 (.mk x.first .nil x.cP)=true:=by
   unfold cM;rw[zu h1 ag8];have:1<=bE (.mk x.first .nil x.cP)/\bE (.mk x.first .nil x.cP)<=65535:=by simp only[bE,cj];split<;>omega
   rw[dZ this];have:decide ((aR dC 1).at_≠0)=true:=rfl;rw[this];simp[jg,oa,lD]
  have hx:gE dC 1 [.mk x.first .nil x.cP]=(decide ((0:Int)<=1)&&(cM dC 1 (.mk x.first .nil x.cP)&&true)):=rfl;rw[hx,hd1];rfl
def xP(l:H1 aN):cK->H1 aN
 | .nil=>l
 | .cons _ (.mk tags _ _) r=>xP tags r
def rf(r:dJ):aV->Zh dJ
 | .mk tags subs _=>match iK tags 37500 with
  |some v=>if v.ty=7 then some {r with bG:=pD tags 37500,bF:=v.data,bm:=xP r.bm subs} else none
  |none=>some {r with bG:=pD tags 37500,bF:=[],bm:=xP r.bm subs}
def rH(r:dJ):cK->Zh dJ
 | .nil=>some r
 | .cons tag d s=>if tag=34853 then rH {r with bN:=(match d with| .mk tags _ _=>tags)} s else(rf r d).bind λr=>rH r s
def vp(r:dJ):H1 aV->dJ
 |[]=>r
 | .mk tags _ blob::ds=>vp {r with first:=tags,cP:=blob} ds
def xV(t:mN):Zh dJ:=match t.dO with
 |[]=>none
 | .mk tags subs _::ds=>(rH ⟨t.order,tags,[],[],[],[],[],[]⟩ subs).bind λr=>if iS (vp r ds)=0 then some (vp r ds) else none
theorem mV{α:Type}{l:H1 α}(h:l.length=0):l=[]:=qM.1 h
theorem ahp{x:dJ}(h:da 2 x.bG=true)(r:dJ)(hi:r.bm=[]):rf r (jQ x)=some {r with bG:=x.bG,bF:=x.bF,bm:=x.bm}:=by
 have hl:xP r.bm (if x.bm.length=0 then .nil else .cons 40965 (.mk x.bm .nil []) .nil)=x.bm:=by
  split
  ·rename_i q;rw[mV q];exact hi
  ·rfl
 unfold jQ rf;simp only;rw[hl];by_cases a:x.bF.length=0
 ·rw[ay a,abv (Ms h),aa5 (Ms h),mV a]
 ·rw[aq a];have e1:=aby (jL x.bF) x.bG;have e2:=drop_set (x:=jL x.bF) (yr h).1 (Ms h);rw[(show(jL x.bF).tag=37500 from rfl)] at e1 e2;rw[e1,e2];rfl
theorem Un{x:dJ}(h:iS x=0):xV (fg x)=some x:=by
 obtain⟨-,-,h2,-,-,-,-,-⟩:=tF h;have hs:rH ⟨x.order,x.cu,[],[],[],[],[],[]⟩ (jO x)=some {x with first:=[],cP:=[]}:=by
  have hg:∀r:dJ,r.bN=[]->rH r (nN x)=some {r with bN:=x.bN}:=by
   intro r hr;unfold nN;split
   ·rename_i q;rw[mV q,<-hr];rfl
   ·rfl
  unfold jO;split
  ·rename_i q;rw[hg _ rfl,mV q.1,mV q.2.1,mV q.2.2]
  ·show(if(34665:Int)=34853 then rH _ (nN x) else(rf _ (jQ x)).bind λr=>rH r (nN x))=_;rw[ahp h2 _ rfl];exact hg _ rfl
 have hf:vp {x with first:=[],cP:=[]} (if x.first.length=0/\x.cP.length=0 then[] else[.mk x.first .nil x.cP])=x:=by
  split
  ·rename_i q;show dJ.mk _ _ _ _ _ [] _ []=x;rw[<-mV q.1,<-mV q.2]
  ·rfl
 unfold xV fg;simp only;rw[hs];simp only[Option.bind];rw[hf,ay h]
structure cS where
 attr:Int
 size:Int
 at_:Int
 ee:Int
 ef:Int
 deriving DecidableEq
def kL(p:cS):Bool:=decide ((0<=p.attr/\p.attr<4294967296)/\(0<=p.size/\p.size<4294967296)/\(0<=p.at_/\p.at_<4294967296)/\(0<=p.ee/\p.ee<65536)/\(0<=p.ef/\p.ef<65536))
def eX(o:Int)(p:cS):H1 UInt8:=aY p.attr.toNat 4 o++(aY p.size.toNat 4 o++(aY p.at_.toNat 4 o++(aY p.ee.toNat 2 o++aY p.ef.toNat 2 o)))
theorem Fq(o:Int)(p:cS):(eX o p).length=16:=by simp[eX,eL]
theorem rj(o:Int):∀l:H1 cS,(l.flatMap (eX o)).length=16*l.length
 |[]=>rfl
 |p::l=>by rw[dG,aP,Fq,rj o l,cc];omega
def nW(b:H1 UInt8)(p:Nat)(o:Int):cS:=⟨cq b p 4 o,cq b (p+4) 4 o,cq b (p+8) 4 o,cq b (p+12) 2 o,cq b (p+14) 2 o⟩
def placesOf(b:H1 UInt8)(o:Int):Nat->Nat->H1 cS
 |_,0=>[]
 |p,n+1=>nW b p o::placesOf b o (p+16) n
theorem aht{b pre post:H1 UInt8}{k:Nat}{o:Int}{p:cS}(e:b=pre++(eX o p++post))(hk:k=pre.length)(ho:o=1\/o=2)(h:kL p=true):nW b k o=p:=by
 unfold kL at h;simp at h;obtain⟨a1,a2,a3,a4,a5⟩:=h;have e0:b=pre++(aY p.attr.toNat 4 o++(aY p.size.toNat 4 o++(aY p.at_.toNat 4 o++(aY p.ee.toNat 2 o++(aY p.ef.toNat 2 o++post))))):=by rw[e];simp[eX]
 have e1:b=(pre++aY p.attr.toNat 4 o)++(aY p.size.toNat 4 o++(aY p.at_.toNat 4 o++(aY p.ee.toNat 2 o++(aY p.ef.toNat 2 o++post)))):=by rw[e0];simp
 have e2:b=(pre++aY p.attr.toNat 4 o++aY p.size.toNat 4 o)++(aY p.at_.toNat 4 o++(aY p.ee.toNat 2 o++(aY p.ef.toNat 2 o++post))):=by rw[e0];simp
 have h3:=nT (p:=k+8) e2 (by simp[eL,hk]) (.inr (.inr rfl)) ho (by omega);have e3:b=(pre++aY p.attr.toNat 4 o++aY p.size.toNat 4 o++aY p.at_.toNat 4 o)++(aY p.ee.toNat 2 o++(aY p.ef.toNat 2 o++post)):=by rw[e0];simp
 have h4:=nT (p:=k+12) e3 (by simp[eL,hk]) (.inr (.inl rfl)) ho (by omega);have e4:b=(pre++aY p.attr.toNat 4 o++aY p.size.toNat 4 o++aY p.at_.toNat 4 o++aY p.ee.toNat 2 o)++(aY p.ef.toNat 2 o++post):=by rw[e0];simp
 have h5:=nT (p:=k+14) e4 (by simp[eL,hk]) (.inr (.inl rfl)) ho (by omega);unfold nW;rw[(nT e0 hk (.inr (.inr rfl)) ho (by omega)),(nT (p:=k+4) e1 (by simp[eL,hk]) (.inr (.inr rfl)) ho (by omega)),h3,h4,h5];rw[mI a1.1,mI a2.1,mI a3.1,mI a4.1,mI a5.1]
theorem Mu{b:H1 UInt8}{o:Int}(ho:o=1\/o=2):∀(l:H1 cS)(pre post:H1 UInt8)(k:Nat),b=pre++(l.flatMap (eX o)++post)->k=pre.length->(∀p∈l,kL p=true)->placesOf b o k l.length=l
 |[],_,_,_,_,_,_=>rfl
 |p::l,pre,post,k,e,hk,h=>by
  rw[dG,ed] at e;rw[cc,placesOf,aht e hk ho (h p (by simp))]
  congr 1
  exact Mu ho l (pre++eX o p) post (k+16) (by grind) (by simp[Fq,hk]) λy hy=>h y (by grind)
def gB:H1 bg:=[⟨[],0,0,1⟩,⟨[],0,0,-1⟩]
def kU:H1 bg:=[⟨[],0,0,-1⟩]
theorem VU{sh:H1 bg}(h:∀s∈sh,s.bP=[]/\s.at_=0)(hn:∀s,s<sh.length->(aR sh s).next<0\/((s:Int)<(aR sh s).next/\(aR sh s).next<sh.length)):jc sh:=by
 have key:∀s,(aR sh s).bP=[]/\(aR sh s).at_=0:=by
  intro s;unfold aR;cases q:sh[s]? with
  |none=>exact⟨rfl,rfl⟩
  |some x=>grind
 refine⟨λs=>⟨λx hx=>?_,λq=>absurd (key s).2 q⟩,λs _ x hx=>?_,hn⟩<;>grind
theorem JK:jc gB:=by
 refine VU (λs hs=>?_) λs hs=>?_
 ·simp[gB] at hs
  grind
 ·have:s=0\/s=1:=by simp[gB] at hs;omega
  rcases this with rfl|rfl<;>decide
theorem Jn:jc kU:=by
 refine VU (λs hs=>?_) λs hs=>?_
 ·simp[kU] at hs
  grind
 ·have:s=0:=by simp[kU] at hs;omega
  rcases this with rfl
  decide
def fA(o:Int)(l:H1 cS):aV:=.mk [⟨45056,7,4,[48,49,48,48]⟩,⟨45057,4,1,fa l.length 4⟩,⟨45058,7,((16*l.length:Nat):Int),l.flatMap (eX o)⟩] .nil []
def dM(o:Int)(l:H1 cS)(view:H1 aN):mN:=⟨o,fA o l::(if view.length=0 then[] else[.mk view .nil []])⟩
def gx(o:Int)(view:H1 aN):mN:=⟨o,[.mk view .nil []]⟩
def gG:H1 UInt8:=[77,80,70,0]
def iU(o:Int)(l:H1 cS)(view:H1 aN):Except Int (H1 UInt8):=
 if¬(o=1\/o=2)\/l.length<2 then .error 1
 else if l.all kL=false then .error 1
 else if da 5 view=false then .error 6
 else if 65536<16*l.length then .error 7
 else if 65533<4+gT (dM o l view) then .error 7
 else .ok (gG++eM (dM o l view) gB)
def rL(o:Int)(view:H1 aN):Except Int (H1 UInt8):=
 if¬(o=1\/o=2)\/view.length=0 then .error 1
 else if da 5 view=false then .error 6
 else if 65533<4+gT (gx o view) then .error 7
 else .ok (gG++eM (gx o view) kU)
theorem aab{n:Nat}:eI 4 1 (fa n 4)=true:=by unfold eI;have:(kindOf 4).1 =4:=rfl;simp[this,pB]
theorem ZO{view:H1 aN}{S:bg}{sh:H1 bg}{s:Nat}(hS:aR sh s=S)(hl:S.bP=[])(ha:S.at_=0)(h:da 5 view=true)(h0:view.length≠0)(hm:view.length<=65000):cM sh s (.mk view .nil [])=true:=by
 unfold cM;rw[hS,zu h λt q=>by rw[EI hl ha] at q;cases q];have:1<=bE (.mk view .nil [])/\bE (.mk view .nil [])<=65535:=by simp[bE,cj];omega
 rw[dZ this];rfl
theorem SN{o:Int}{l:H1 cS}{view:H1 aN}(hl:2<=l.length/\16*l.length<=65536)(hv:da 5 view=true)(hm:view.length<=65000):gE gB 0 (dM o l view).dO=true:=by
 have hd:cM gB 0 (fA o l)=true:=by
  unfold fA cM;have ht:ky (aR gB 0) [⟨45056,7,4,[48,49,48,48]⟩,⟨45057,4,1,fa l.length 4⟩,⟨45058,7,((16*l.length:Nat):Int),l.flatMap (eX o)⟩]=true:=by
   unfold ky;have m3:eI 7 ((16*l.length:Nat):Int) (l.flatMap (eX o))=true:=by unfold eI;have:(kindOf 7).1 =1:=rfl;rw[rj];simp_all;omega
   rw[bt,iE];refine⟨by simp[fP],λt ht=>?_⟩;simp at ht;rw[(λt=>EI rfl rfl t)];rcases ht with rfl|rfl|rfl
   ·rfl
   ·rfl
   ·simp_all;rfl
  rw[ht];rfl
 unfold dM;have hx:∀ds,gE gB 0 (fA o l::ds)=(decide ((0:Int)<=0)&&(cM gB 0 (fA o l)&&gE gB 1 ds)):=λds=>rfl;rw[hx,hd];by_cases a:view.length=0
 ·rw[ay a];rfl
 ·rw[aq a];have hx:gE gB 1 [.mk view .nil []]=(decide ((0:Int)<=1)&&(cM gB 1 (.mk view .nil [])&&true)):=rfl;rw[hx,ZO rfl rfl rfl hv a hm];rfl
theorem P2{o:Int}{view:H1 aN}(hv:da 5 view=true)(h0:view.length≠0)(hm:view.length<=65000):gE kU 0 (gx o view).dO=true:=by have hx:gE kU 0 [.mk view .nil []]=(decide ((0:Int)<=0)&&(cM kU 0 (.mk view .nil [])&&true)):=rfl;show gE kU 0 [.mk view .nil []]=true;rw[hx,ZO rfl rfl rfl hv h0 hm];rfl
def indexOf(t:mN):Zh (Int×H1 cS×H1 aN):=match t.dO with
 | .mk [a,b,c] _ _::ds=>
  if a.tag=45056/\a.ty=7/\a.data=[48,49,48,48]/\b.tag=45057/\b.ty=4/\b.data.length=4/\c.tag=45058/\c.ty=7/\2<=ib b.data/\c.data.length=16*ib b.data then
   match ds with
   |[]=>some (t.order,placesOf c.data t.order 0 (ib b.data),[])
   | .mk view _ _::_=>if da 5 view=true then some (t.order,placesOf c.data t.order 0 (ib b.data),view) else none
  else none
 |_=>none
theorem ab9{o:Int}(ho:o=1\/o=2){l:H1 cS}{view:H1 aN}(hl:2<=l.length/\16*l.length<=65536)(hp:l.all kL=true)(hv:da 5 view=true):indexOf (dM o l view)=some (o,l,view):=by
 have hb:ib (fa l.length 4)=l.length:=Lv 4 _ (by omega);unfold dM fA indexOf;simp only;rw[ay ⟨trivial,trivial,trivial,trivial,trivial,pB _ _,trivial,trivial,by rw[hb];exact hl.1,by rw[rj,hb]⟩,hb,(Mu ho l [] [] 0 (by simp) rfl λp hp'=>iE.1 hp p hp')]
 grind
theorem YY{t:mN}(h:¬65533<4+gT t):gT t<4294967296:=by omega
theorem SK{o:Int}{l:H1 cS}{view:H1 aN}{b:H1 UInt8}(h:iU o l view=.ok b)(hm:view.length<=65000):
 ∃r,b=gG++r/\r=eM (dM o l view) gB/\uH r gB=.ok (dM o l view,fD (dM o l view))/\indexOf (dM o l view)=some (o,l,view)/\b.length<=65533:=by
 unfold iU at h;split at h
 ·cases h
 ·rename_i h1;split at h
  ·cases h
  ·rename_i h2;split at h
   ·cases h
   ·rename_i h3;split at h
    ·cases h
    ·rename_i h4;split at h
     ·cases h
     ·rename_i h5;cases h;have ho:o=1\/o=2:=by omega
      have hv:da 5 view=true:=by simpa using h3
      have hh:=SN (o:=o) (l:=l) ⟨by omega,by omega⟩ hv hm;refine⟨_,rfl,rfl,P3 ho JK (by decide) (by simp[dM]) hh (YY h5),ab9 ho ⟨by omega,by omega⟩ (by simpa using h2) hv,?_⟩;rw[aP,(wQ hh)];have:gG.length=4:=rfl;omega
theorem Zz(a b:UInt8):UInt8.ofNat ((a.toNat*256+b.toNat)/256)=a/\UInt8.ofNat ((a.toNat*256+b.toNat)%256)=b:=by have hb:=b.toNat_lt;rw[(show(a.toNat*256+b.toNat)/256=a.toNat from by omega)];simp
theorem amr(m:UInt8):UInt8.ofNat ((m.toNat:Int)).toNat=m:=by simp
theorem BW{b:UInt8}{t:H1 UInt8}(h:b≠255):gm (b::t)=gm t+1:=by
 conv=>lhs;unfold gm
 grind
theorem ai1:gm [255]=0:=rfl
theorem NS(c:UInt8)(r:H1 UInt8):gm (255::c::r)=if c≠0/\oT c.toNat=false then 0 else gm (c::r)+1:=by rw[gm,ay rfl]
theorem Xy:∀l:H1 UInt8,gm (l.take (gm l))=gm l
 |[]=>rfl
 |b::t=>by
  have ih:=Xy t;by_cases hb:b=255
  ·subst hb;cases t with
   |nil=>rfl
   |cons c r=>
    rw[NS];by_cases hc:c≠0/\oT c.toNat=false
    ·rw[ay hc];rfl
    ·rw[aq hc,ox];have h5:c≠255:=by
      intro h5;apply hc;rw[h5];exact⟨by decide,rfl⟩
     rw[BW h5] at ih⊢;rw[ox] at ih⊢;rw[NS,aq hc,ih]
  ·rw[BW hb,ox,BW hb,ih]
theorem XJ{l:H1 UInt8}{s:bJ}{t:H1 UInt8}(h:lA true l=.more s t):ma s 216=true/\l=dt s++t:=by
 cases l with
 |nil=>cases h
 |cons x l=>
  cases l with
  |nil=>dsimp only[lA] at h;split at h<;>grind
  |cons m l=>
   dsimp only[lA] at h;split at h
   ·cases h
   ·rename_i h1;split at h
    ·cases h
    ·rename_i h2;split at h
     ·cases h
     ·rename_i h3;split at h
      ·rename_i h4;injection h with h5 h6;subst h5 h6 h4;refine⟨rfl,?_⟩;have:x=255:=qK.1 h1;subst this;rfl
      ·rename_i h4;exfalso;apply h2;rw[eB h4];rfl
theorem XI{f:Bool}{l:H1 UInt8}{s:bJ}{t:H1 UInt8}(h:lA f l=.last s t):ma s 217=true/\l=dt s++t:=by
 cases l with
 |nil=>cases h
 |cons x l=>
  cases l with
  |nil=>dsimp only[lA] at h;split at h<;>grind
  |cons m l=>
   dsimp only[lA] at h;split at h
   ·cases h
   ·rename_i h1;split at h
    ·cases h
    ·rename_i h2;split at h
     ·rename_i h3;injection h with h5 h6;subst h5 h6 h3;refine⟨rfl,?_⟩;have:x=255:=qK.1 h1;subst this;rfl
     ·split at h
      ·cases h
      ·split at h
       ·split at h
        ·cases h
        ·split at h
         ·cases h
         ·cases h
       ·cases h
theorem XK{l:H1 UInt8}{s:bJ}{t:H1 UInt8}(h:lA false l=.more s t):nh s=true/\l=dt s++t:=by
 cases l with
 |nil=>cases h
 |cons x l=>
  cases l with
  |nil=>
   dsimp only[lA] at h;split at h
   ·cases h
   ·cases h
  |cons m l=>
   dsimp only[lA] at h;split at h
   ·cases h
   ·rename_i h1;split at h
    ·cases h
    ·rename_i h2;split at h
     ·cases h
     ·rename_i h3;split at h
      ·rename_i h4;exfalso;apply h2;rw[dZ h4];rfl
      ·rename_i h4;have hx:x=255:=qK.1 h1;have hm:lM (m.toNat:Int)=true:=by
        cases q:lM (m.toNat:Int) with
        |true=>rfl
        |false=>
         exfalso;apply h2;rw[q,eB h4];have:je (m.toNat:Int)=false:=by
          unfold je;rw[eB]
          rintro (e|e)
          ·exact h4 (oy.1 (by have:(216:UInt8).toNat=216:=rfl;omega))
          ·exact h3 (oy.1 (by have:(217:UInt8).toNat=217:=rfl;omega))
         rw[this];rfl
       cases l with
       |nil=>cases h
       |cons a l=>
        cases l with
        |nil=>cases h
        |cons b l=>
         dsimp only at h;split at h
         ·cases h
         ·rename_i h5;split at h
          ·cases h
          ·rename_i h6;injection h with h7 h8;have hb:=b.toNat_lt;have ha:=a.toNat_lt;have hs:=Gh ((a::b::l).drop (a.toNat*256+b.toNat));have e0:(a::b::l).drop (a.toNat*256+b.toNat)=l.drop (a.toNat*256+b.toNat -2):=by
            obtain⟨k,hk⟩:∃k,a.toNat*256+b.toNat=k+2:=⟨a.toNat*256+b.toNat -2,by omega⟩;rw[hk];rfl
           have hlen:l.length+2>=a.toNat*256+b.toNat:=by simpa using h6
           rw[e0] at hs h7 h8;have hd:((a::b::l).drop 2)=l:=rfl;rw[hd] at h7;have iM:(l.take (a.toNat*256+b.toNat -2)).length+2=a.toNat*256+b.toNat:=by rw[dk];omega
           have hal:je (m.toNat:Int)=false:=by simp only[lM,bt,uI] at hm;exact hm.2
           subst h7 h8;constructor
           ·unfold nh;simp only[hm,eY,bt,cm,sZ,List.isEmpty_iff];refine⟨by omega,?_⟩;by_cases hq:m=218
            ·right;rw[ay hq];refine⟨by rw[hq];rfl,?_⟩;rw[Xy,dk];omega
            ·left;rw[aq hq];rfl
           ·unfold dt;rw[aq (by simp[hal])];simp only[iM,amr,(Zz a b).1,(Zz a b).2,hx,eD,fy,ed];rw[kF,kF]
theorem Ul(L:Nat):∀(f:Nat)(r:H1 UInt8)(l:H1 bJ)(e:Nat),r.length<=L->mu L f false r=.ok l e->jw l=true/\∃x,r=dA l++x/\e=L -x.length
 |0,_,_,_,_,h=>by cases h
 |f+1,r,l,e,hr,h=>by
  unfold mu at h;split at h
  ·cases h
  ·cases h
  ·rename_i s t hs;cases h;obtain⟨h1,h2⟩:=XI hs;exact⟨h1,t,by rw[h2];simp[dA],rfl⟩
  ·rename_i s t hs;obtain⟨h1,h2⟩:=XK hs;split at h
   ·rename_i l' e' h3;cases h;obtain⟨a,x,b,c⟩:=Ul L f t l' _ (by rw[h2] at hr;simp at hr;omega) h3;refine⟨?_,x,by rw[mH,ed,<-b,h2],c⟩;cases l' with
    |nil=>cases a
    |cons s' l'=>simp[jw,h1,a]
   ·rename_i q;rw[h] at q;exact absurd rfl (q _ _)
theorem Um{b:H1 UInt8}{l:H1 bJ}{e:Nat}(h:ofM b=.ok l e):mZ l=true/\e<=b.length/\dA l=b.take e/\∃r,l=⟨216,[],[]⟩::r/\jw r=true:=by
 unfold ofM at h;unfold mu at h;split at h
 ·cases h
 ·cases h
 ·rename_i s t hs;obtain⟨h1,h2⟩:=XI hs;rw[h2] at hs;have:s=⟨217,[],[]⟩:=by
   obtain⟨m,d,c⟩:=s;simp[ma] at h1;obtain⟨⟨rfl,rfl⟩,rfl⟩:=h1;rfl
  rw[this] at hs;cases hs
 ·rename_i s t hs;obtain⟨h1,h2⟩:=XJ hs;have hs0:s=⟨216,[],[]⟩:=by
   obtain⟨m,d,c⟩:=s;simp[ma] at h1;obtain⟨⟨rfl,rfl⟩,rfl⟩:=h1;rfl
  split at h
  ·rename_i l' e' h3;cases h;obtain⟨a,x,k,c⟩:=Ul b.length b.length t l' _ (by rw[h2];simp) h3;have hb:b=(dt s++dA l')++x:=by rw[ed,<-k,<-h2]
   have hl:b.length=(dt s++dA l').length+x.length:=by rw[hb,aP]
   refine⟨by simp[mZ,h1,a],by omega,?_,l',by rw[hs0],a⟩;rw[mH,(show e=(dt s++dA l').length from by omega)];rw[hb,List.take_left]
  ·rename_i q;rw[h] at q;exact absurd rfl (q _ _)
def qe(m:Int):Bool:=decide (224<=m/\m<=239)
def nJ(b:H1 UInt8):Bool:=match ofM b with
 | .ok l e=>decide (e=b.length)&&(l.any (λs=>s.bZ==218)&&l.all λs=>!qe s.bZ)
 |_=>false
def nM:H1 UInt8:=[69,120,105,102,0,0]
def fT:H1 UInt8:=[73,67,67,95,80,82,79,70,73,76,69,0]
def iQ(x:dJ):Except Int (H1 UInt8):=
 if iS x≠0 then .error (iS x) else if 65533<6+gT (fg x) then .error 7 else .ok (nM++eM (fg x) dC)
def QC(b:H1 UInt8):Zh dJ:=
 if 65533<b.length then none else if nM.isPrefixOf b=true then(match uH (b.drop 6) dC with| .ok (t,_)=>xV t| .error _=>none) else none
theorem Ab{x:dJ}{b:H1 UInt8}(h:iQ x=.ok b)(hm:rl x 65000):QC b=some x/\nM.isPrefixOf b=true/\b.length<=65533/\b=nM++eM (fg x) dC/\uH (eM (fg x) dC) dC=.ok (fg x,fD (fg x)):=by
 unfold iQ at h;split at h
 ·cases h
 ·rename_i h1;have h1:=qK.1 h1;split at h
  ·cases h
  ·rename_i h2;injection h with h;have hh:=Zu h1 hm;have hw:=P3 (tF h1).1 Kl (by decide) (by simp[fg]) hh (by omega);have hl:b.length<=65533:=by rw[<-h,aP,(wQ hh)];have:nM.length=6:=rfl;omega
   refine⟨?_,(by rw[<-h];rw[qL];exact s9 _ _),hl,h.symm,hw⟩;unfold QC;rw[aq (by omega),<-h];have:(nM++eM (fg x) dC).drop 6=eM (fg x) dC:=rfl;rw[this,hw];exact Un h1
def gD(b:H1 UInt8):H1 (H1 UInt8):=if b.length=0 then[] else[fT++1::1::b]
structure oA where
 aG:dJ
 cg:List UInt8
 core:List UInt8
 cO:List UInt8
 at_:Nat
 cG:Nat
def DJ(b:H1 UInt8):H1 bJ:=match ofM b with
 | .ok l _=>l
 |_=>[]
def jK(x:oA)(aT:H1 UInt8):H1 bJ:=
 ⟨216,[],[]⟩::⟨225,aT,[]⟩::((if x.cO.length=0 then[] else[⟨226,x.cO,[]⟩])++((gD x.cg).map (λc=>⟨226,c,[]⟩)++(DJ x.core).tail))
theorem DK{b:H1 UInt8}(h:nJ b=true):∃r,ofM b=.ok (⟨216,[],[]⟩::r) b.length/\DJ b=⟨216,[],[]⟩::r/\jw r=true/\dA (⟨216,[],[]⟩::r)=b/\(∃s∈r,s.bZ=218)/\∀s∈r,qe s.bZ=false:=by
 unfold nJ at h;split at h
 ·rename_i l e q;simp at h;obtain⟨h1,⟨s,hs,hm⟩,h3⟩:=h;obtain⟨a,b1,c,r,hr,hmid⟩:=Um q;subst hr;refine⟨r,by rw[q,h1],by unfold DJ;rw[q],hmid,by rw[c,h1,mL],?_,λs hs=>h3 s (by grind)⟩
  grind
 grind
theorem Lm{s:bJ}{l:H1 bJ}(h:nh s=true)(hl:jw l=true):jw (s::l)=true:=by
 cases l with
 |nil=>cases hl
 |cons s' l=>simp[jw,h,hl]
theorem MZ{m:Int}{d:H1 UInt8}(hm:m=225\/m=226)(h:d.length<=65533):nh ⟨m,d,[]⟩=true:=by
 unfold nh;rcases hm with rfl|rfl
 ·simp;exact⟨rfl,h⟩
 ·simp;exact⟨rfl,h⟩
theorem Q4{b c:H1 UInt8}(hb:b.length<=65519)(h:c∈gD b):c.length<=65533:=by
 unfold gD at h;split at h
 ·grind
 ·rw[nt.1 h];have:fT.length=12:=rfl
  grind
theorem KO{x:oA}{aT:H1 UInt8}(hc:nJ x.core=true)(hcam:aT.length<=65533)(hi:x.cg.length<=65519)(hm:x.cO.length<=65533):mZ (jK x aT)=true:=by
 obtain⟨r,-,h1,h2,-⟩:=DK hc;unfold jK;rw[h1];refine Lm (MZ (.inl rfl) hcam) ?_;have k:jw ((gD x.cg).map (λc=>⟨226,c,[]⟩)++r)=true:=by
  have hl:=λc=>Q4 (c:=c) hi;generalize gD x.cg=cs at hl⊢;induction cs with
  |nil=>grind
  |cons c cs ih=>exact Lm (MZ (.inr rfl) (hl c (by simp))) (ih λc hc=>hl c (by grind))
 split
 ·grind
 ·exact Lm (MZ (.inr rfl) hm) k
def fj(x:oA)(aT:H1 UInt8):H1 UInt8:=dA (jK x aT)
structure xe(x:oA)(aT:List UInt8):Prop where
 app:iQ x.aG=.ok aT
 rows:rl x.aG 65000
 cg:x.cg.length<=65519
 core:nJ x.core=true
 cO:x.cO.length=0\/(gG.isPrefixOf x.cO=true/\x.cO.length<=65533)
theorem aml(l:H1 UInt8)(o:Int):iY l 1 o=l:=by
 unfold iY;split
 ·refine rP λi=>?_;by_cases h:i<l.length
  ·rw[C2 _ _ _ _ h,ay h];simp[Nat.mod_one,h]
  ·rw[kR (by rw[pT];omega),kR (by omega)]
 ·rfl
theorem Fh{n:Nat}(h:2<=n/\16*n<=65536):bQ 7 ((16*n:Nat):Int)=16*n:=by
 have e:ji 7 ((16*n:Nat):Int)=((16*n:Nat):Int):=by unfold ji;rw[aq (by omega),show(kindOf 7).1 =1 from rfl];omega
 unfold bQ;rw[e,ay (by omega)];omega
theorem acd(o:Int){n:Nat}(h:2<=n/\16*n<=65536)(e:Nat):∃E,∀l:H1 cS,l.length=n->eK o e [⟨45056,7,4,[48,49,48,48]⟩,⟨45057,4,1,fa l.length 4⟩,⟨45058,7,((16*l.length:Nat):Int),l.flatMap (eX o)⟩]=E:=
 ⟨_,λl hl=>by simp only[hl,eK,show bQ 7 4=0 from rfl,show bQ 4 1=0 from rfl,ea,Fh h];rw[aq (by omega)]⟩
theorem ace(o:Int){n:Nat}(h:2<=n/\16*n<=65536)(e:Nat)(l:H1 cS)(hl:l.length=n):gH o e [⟨45056,7,4,[48,49,48,48]⟩,⟨45057,4,1,fa l.length 4⟩,⟨45058,7,((16*l.length:Nat):Int),l.flatMap (eX o)⟩]=ec e++l.flatMap (eX o):=by
 simp only[hl,gH,show bQ 7 4=0 from rfl,show bQ 4 1=0 from rfl,ea,Fh h];rw[aq (by omega),dP]
 congr 1
 exact aml _ o
theorem aca(o:Int){n:Nat}(h:2<=n/\16*n<=65536)(view:H1 aN):∃A B,∀l:H1 cS,l.length=n->eM (dM o l view) gB=A++(l.flatMap (eX o)++B):=by
 obtain⟨E,hE⟩:=acd o h (aI 8+(6+12*3));have hend:∀(l:H1 cS),l.length=n->bB 8 (fA o l)=aI (aI 8+(6+12*3))+16*n:=by intro l hl;unfold fA bB eH;simp only[bE,cc,List.length_nil,cj,ea,cn,hl,show bQ 7 4=0 from rfl,show bQ 4 1=0 from rfl,Fh h];rw[aq (by omega)]
 suffices H:∃X Y,∀l:H1 cS,l.length=n->eM (dM o l view) gB=X++(ec (aI 8+(6+12*3))++(l.flatMap (eX o)++Y)) by obtain⟨X,Y,H⟩:=H;exact⟨X++ec (aI 8+(6+12*3)),Y,λl hl=>by rw[H l hl,ed]⟩
 refine⟨(if o=1 then[73,73] else[77,77])++(aY 42 2 o++(aY 8 4 o++(ec 8++kW o (gK E) (qs 8 (fA o (List.replicate n ⟨0,0,0,0,0⟩)) (if view.length=0 then[] else[.mk view .nil []]))))),chainB o gB 1 (aI (aI 8+(6+12*3))+16*n) (if view.length=0 then[] else[.mk view .nil []]),λl hl=>?_⟩;unfold eM dM;have hd:=hend l hl;have hd':=hend (List.replicate n ⟨0,0,0,0,0⟩) (by simp);simp only[chainB,qs,hd,hd'];unfold fA;simp only[jq,jW,iJ,hU,eH,bE,cc,List.length_nil,cj,ea,dP,ed];rw[hE l hl,ace o h _ l hl];simp only[ed];rfl
theorem ab4(o:Int){n:Nat}(h:2<=n/\16*n<=65536)(view:H1 aN):∃N,∀l:H1 cS,l.length=n->gT (dM o l view)=N:=by
 refine⟨eG (aI (aI 8+(6+12*3))+16*n) (if view.length=0 then[] else[.mk view .nil []]),λl hl=>?_⟩;unfold gT dM;rw[eG]
 congr 1
 unfold fA bB eH;simp only[bE,cc,List.length_nil,cj,ea,cn,hl,show bQ 7 4=0 from rfl,show bQ 4 1=0 from rfl,Fh h];rw[aq (by omega)]
theorem SL{o:Int}{l:H1 cS}{view:H1 aN}{b:H1 UInt8}(h:iU o l view=.ok b):b=gG++eM (dM o l view) gB/\2<=l.length/\16*l.length<=65536/\l.all kL=true:=by
 unfold iU at h
 repeat(split at h;· cases h)
 injection h with h;exact⟨h.symm,by omega,by omega,by simp_all⟩
namespace Lt
section
open Tryz
def ints(t:Nat):Bool:=[3,36].any (Nat.beq t)
theorem acq:∀t,ints t=true->Da Tryz.prog t:=by
 intro t h;have h:t∈([3,36]:H1 Nat):=by unfold ints at h;rw[List.any_eq_true] at h;obtain⟨x,hx,e⟩:=h;rw[bT e];exact hx
 simp only[cX,nu,nA] at h;rcases h with rfl|rfl
 ·exact⟨⟨_,Tryz.underlying3⟩,Tryz.t3,vE Tryz.type3,by kernel_rfl⟩
 ·exact⟨⟨_,Tryz.underlying36⟩,Tryz.t36,vE Tryz.type36,by kernel_rfl⟩
structure TE where
 t:Nat
 i:jd
 h:Qj Tryz.prog t i
noncomputable def tx{t:Nat}{n:TypeInfo}{d:TypeDesc}(h:Tryz.prog.types[t]? =some n)(u:Tryz.prog.underlying t=some d):TE:=
 ⟨t,⟨d,n.size,n.bytes,n.zero,false,[]⟩,u,⟨n,vE h,rfl,rfl,λ_ h=>h⟩,(λh=>by cases h),λ_ h=>by cases h⟩
noncomputable def tn{t:Nat}{n:TypeInfo}{d:TypeDesc}(h:Tryz.prog.types[t]? =some n)(u:Tryz.prog.underlying t=some d):TE:=
 ⟨t,⟨d,n.size,n.bytes,none,false,[]⟩,u,⟨n,vE h,rfl,rfl,λ_ h=>by cases h⟩,(λh=>by cases h),λ_ h=>by cases h⟩
noncomputable def tf{t:Nat}{n:TypeInfo}{d:TypeDesc}(h:Tryz.prog.types[t]? =some n)(u:Tryz.prog.underlying t=some d)(e:Tryz.prog.eqGuardType Tryz.prog.depth t=false)(s:Tryz.prog.stoodInHeld t=false:=by kernel_rfl)
 (f:Kt ints n.size d=true:=by kernel_rfl):TE:=
 ⟨t,⟨d,n.size,n.bytes,n.zero,true,[]⟩,u,⟨n,vE h,rfl,rfl,λ_ h=>h⟩,λ_=>⟨e,s,abB acq f⟩,λ_ h=>by cases h⟩
noncomputable def tm{t:Nat}{n:TypeInfo}{d:TypeDesc}(h:Tryz.prog.types[t]? =some n)(u:Tryz.prog.underlying t=some d)(nm:String)(g:FuncId)(f:(n.methods.find? (·.name==nm)).isSome=true:=by kernel_rfl)(p:((n.methods.find? (·.name==nm)).get f).path=#[]:=by kernel_rfl)
 (k:((n.methods.find? (·.name==nm)).get f).func=some (g,false):=by kernel_rfl) (a:oM d=true:=by kernel_rfl):TE:=
 ⟨t,⟨d,n.size,n.bytes,n.zero,false,[(nm,g)]⟩,u,⟨n,vE h,rfl,rfl,λ_ h=>h⟩,(λh=>by cases h),λe he=>by rw[nt.1 he];exact⟨n,_,vE h,(Option.some_get f).symm,p,k,λu q=>by rw[show d=.pointer u from q] at a;cases a⟩⟩
structure FE where
 n:Nat
 f:Func
 h:Tryz.prog.funcs[n]? =some f/\(f.name== "runtime.NumGoroutine")=false/\f.body.isSome=true
noncomputable def fx{n:Nat}{f:Func}(h:Tryz.prog.funcs[n]? =some f)(k:(f.name== "runtime.NumGoroutine")=false:=by kernel_rfl)(b:f.body.isSome=true:=by kernel_rfl):FE:=⟨n,f,h,k,b⟩
noncomputable def tl:H1 TE:=[tx type0 underlying0,tx type1 underlying1,tx type3 underlying3,tx type4 underlying4,tx type5 underlying5,tx type9 underlying9,tx type20 underlying20,tx type22 underlying22,tx type24 underlying24,tx type25 underlying25,tx type26 underlying26,tx type28 underlying28,tx type30 underlying30,tx type35 underlying35,tx type36 underlying36,tx type37 underlying37,tx type41 underlying41,tx type43 underlying43,tx type44 underlying44,tx type47 underlying47,tx type48 underlying48,tx type50 underlying50,tx type52 underlying52,tx type53 underlying53,tx type56 underlying56,tx type57 underlying57,tx type70 underlying70,tx type72 underlying72,tx type73 underlying73,tx type77 underlying77,tx type78 underlying78,tx type83 underlying83,tx type84 underlying84,tf type97 underlying97 eqGuardType97,tx type98 underlying98,tx type99 underlying99,tx type103 underlying103,tx type105 underlying105,tx type107 underlying107,tx type109 underlying109,tx type112 underlying112,tx type113 underlying113,tx type115 underlying115,tx type117 underlying117,tx type119 underlying119,tx type121 underlying121,tx type123 underlying123,tx type125 underlying125,tx type128 underlying128,tx type129 underlying129,tx type132 underlying132,tx type134 underlying134,tx type136 underlying136,tx type159 underlying159,tx type160 underlying160,tx type163 underlying163,tx type166 underlying166,tx type167 underlying167,tx type168 underlying168,tx type173 underlying173,tx type174 underlying174,tx type176 underlying176,tx type179 underlying179,tx type181 underlying181,tx type182 underlying182,tx type185 underlying185,tx type186 underlying186,tx type189 underlying189,tx type192 underlying192,tx type194 underlying194,tx type198 underlying198,tx type199 underlying199,tx type203 underlying203,tx type205 underlying205,tx type207 underlying207,tx type209 underlying209,tx type210 underlying210,tx type212 underlying212,tx type215 underlying215,tx type217 underlying217,tx type218 underlying218,tx type219 underlying219,tx type221 underlying221,tx type223 underlying223,tx type229 underlying229,tx type230 underlying230,tx type232 underlying232,tx type233 underlying233,tx type245 underlying245,tx type259 underlying259,tx type261 underlying261,tx type266 underlying266,tx type269 underlying269,tf type271 underlying271 eqGuardType271,tx type272 underlying272,tx type273 underlying273,tx type275 underlying275,tx type278 underlying278,tx type280 underlying280,tx type283 underlying283,tx type286 underlying286,tx type288 underlying288,tx type289 underlying289,tx type291 underlying291,tx type293 underlying293,tx type295 underlying295,tx type300 underlying300,tx type301 underlying301,tx type303 underlying303,tf type304 underlying304 eqGuardType304,tf type307 underlying307 eqGuardType307,tx type311 underlying311,tf type314 underlying314 eqGuardType314,tx type325 underlying325,tx type327 underlying327,tf type331 underlying331 eqGuardType331,tx type334 underlying334,tx type340 underlying340,tx type346 underlying346,tx type348 underlying348,tx type349 underlying349,tx type352 underlying352,tx type354 underlying354,tx type356 underlying356,tx type361 underlying361,tx type365 underlying365,tx type366 underlying366,tx type368 underlying368,tx type377 underlying377,tf type385 underlying385 eqGuardType385,tx type386 underlying386,tx type388 underlying388,tx type394 underlying394,tx type395 underlying395,tx type397 underlying397,tx type399 underlying399,tx type400 underlying400,tf type402 underlying402 eqGuardType402,tx type404 underlying404,tf type406 underlying406 eqGuardType406,tx type413 underlying413,tf type415 underlying415 eqGuardType415,tx type417 underlying417,tx type418 underlying418,tx type422 underlying422,tx type424 underlying424,tx type425 underlying425,tx type426 underlying426,tx type429 underlying429,tx type433 underlying433,tx type435 underlying435,tx type437 underlying437,tx type438 underlying438,tf type440 underlying440 eqGuardType440,tx type441 underlying441,tx type443 underlying443,tx type446 underlying446,tx type456 underlying456,tx type458 underlying458,tx type460 underlying460,tf type463 underlying463 eqGuardType463,tf type464 underlying464 eqGuardType464,tf type465 underlying465 eqGuardType465,tx type467 underlying467,tx type472 underlying472,tx type473 underlying473,tx type479 underlying479,tx type481 underlying481,tx type482 underlying482,tx type483 underlying483,tx type486 underlying486,tx type493 underlying493,tx type498 underlying498,tx type502 underlying502,tx type506 underlying506,tx type517 underlying517,tx type522 underlying522,tx type524 underlying524,tx type545 underlying545]
noncomputable def fl:H1 FE:=[fx func10,fx func18,fx func19,fx func20,fx func22,fx func23,fx func24,fx func25,fx func26,fx func29,fx func31,fx func37,fx func40,fx func41,fx func42,fx func43,fx func44,fx func45,fx func54,fx func57,fx func58,fx func59,fx func60,fx func61,fx func62,fx func63,fx func64,fx func65,fx func66,fx func67,fx func68,fx func70,fx func74,fx func80,fx func87,fx func90,fx func91,fx func92,fx func93,fx func94,fx func95,fx func96,fx func97,fx func98,fx func99,fx func104,fx func105,fx func106,fx func107,fx func108,fx func109,fx func110,fx func111,fx func112,fx func113,fx func114,fx func115,fx func116,fx func117,fx func118,fx func119,fx func120,fx func121,fx func122,fx func123,fx func124,fx func125,fx func126,fx func127,fx func128,fx func129,fx func130,fx func131,fx func132,fx func133,fx func134,fx func135,fx func136,fx func138,fx func139,fx func140,fx func141,fx func142,fx func144,fx func145,fx func148,fx func149,fx func150,fx func154,fx func155,fx func156,fx func157,fx func158,fx func159,fx func160,fx func161,fx func162,fx func163,fx func164,fx func165,fx func166,fx func167,fx func168,fx func169,fx func170,fx func171,fx func172,fx func173,fx func174,fx func175,fx func176,fx func177,fx func178,fx func179,fx func180,fx func181,fx func182,fx func183,fx func184,fx func185,fx func186,fx func187,fx func188,fx func189,fx func190,fx func191,fx func192,fx func193,fx func194,fx func195,fx func196,fx func197,fx func198,fx func199,fx func200,fx func201,fx func202,fx func203,fx func204,fx func207,fx func208,fx func209,fx func210,fx func216,fx func217,fx func218,fx func219,fx func220,fx func221,fx func222,fx func223,fx func224,fx func225,fx func226,fx func227,fx func228,fx func229,fx func230,fx func231,fx func232,fx func233,fx func234,fx func235,fx func236,fx func237,fx func238,fx func239,fx func240,fx func241,fx func242,fx func243,fx func244,fx func245,fx func246,fx func247,fx func248,fx func249,fx func250,fx func251,fx func252,fx func253,fx func254,fx func255,fx func256,fx func257,fx func258,fx func259,fx func260,fx func261,fx func262,fx func263,fx func264,fx func265,fx func266,fx func267,fx func268,fx func269,fx func270,fx func271,fx func272,fx func273,fx func274,fx func275,fx func276,fx func277,fx func278,fx func279,fx func280,fx func281,fx func286,fx func293,fx func294,fx func295,fx func299,fx func300,fx func301,fx func302,fx func303,fx func304,fx func305,fx func306,fx func307,fx func308,fx func309,fx func310,fx func311,fx func312,fx func313,fx func314,fx func315,fx func316,fx func317,fx func318,fx func319,fx func320,fx func321,fx func322,fx func323,fx func324,fx func325,fx func326,fx func327,fx func328,fx func329,fx func330,fx func331,fx func332,fx func333,fx func334,fx func335,fx func336,fx func337,fx func338,fx func339,fx func340,fx func341,fx func342,fx func343,fx func344,fx func345,fx func346,fx func347,fx func348,fx func349,fx func350,fx func351,fx func352,fx func353,fx func354,fx func355,fx func361,fx func362,fx func363,fx func364,fx func365,fx func366,fx func367,fx func368,fx func369,fx func370,fx func371,fx func372,fx func373,fx func374,fx func375,fx func376,fx func377,fx func378,fx func379,fx func380,fx func381,fx func382,fx func383,fx func384,fx func385,fx func386,fx func387,fx func388,fx func389,fx func390,fx func391,fx func392,fx func393,fx func394,fx func395,fx func396,fx func397,fx func398,fx func399,fx func400,fx func401,fx func402,fx func403,fx func404,fx func405,fx func406,fx func407,fx func408,fx func409,fx func410,fx func411,fx func412,fx func413,fx func414,fx func415,fx func416,fx func417,fx func418,fx func419,fx func428,fx func429,fx func430,fx func431,fx func434,fx func435,fx func436,fx func437,fx func438,fx func439,fx func440,fx func441,fx func442,fx func443,fx func444,fx func445,fx func446,fx func447,fx func448,fx func449,fx func450,fx func451,fx func452,fx func453,fx func454,fx func455,fx func456,fx func457,fx func458,fx func459,fx func460,fx func461,fx func462,fx func463,fx func464,fx func465,fx func466,fx func467,fx func468,fx func469,fx func470,fx func471,fx func472,fx func473,fx func474,fx func478,fx func479,fx func480,fx func481,fx func482,fx func483,fx func484,fx func485,fx func486,fx func487,fx func488,fx func489,fx func490,fx func491,fx func492,fx func494,fx func495,fx func496,fx func497,fx func498,fx func499]
noncomputable def amb:TT:=tX (tl.map λe=>(e.t,e.i))
noncomputable def ama:FT:=tX (fl.map λe=>(e.n,e.f))
noncomputable def nk:eC:=⟨amb,ama,[]⟩
theorem pR:iP Tryz.prog nk:=amc rfl rfl
 (λp hp=>by obtain⟨e,_,rfl⟩:=mK.1 hp;exact e.h) (λp hp=>by obtain⟨e,_,rfl⟩:=mK.1 hp;exact e.h)
def qfs:H1 Nat:=[397,317,193,181,254,255,249,239,94,267,144,130,262,398,367,81,369,318,317,142,246,269,443,258,458,231,429,444,200,178,241,312,313,240,388,330,307,389,245,162,226,300,224,167,31,148,492,210,147,474,89,414,415,470,417,71,82,102,91]
noncomputable instance:QF:=⟨λn=>List.any qfs (Nat.beq n)⟩
theorem mixed:Tryz.prog.follows .mixedOrders=true:=Tryz.checked.mixed
end
abbrev bD(m:Nat->Nat->Zh Qu):=PW (aK m)
abbrev Qb(P:Program)(g:FuncId)(us:H1 Qu)(pv:Qu):Prop:=xf P g us λm v=>aK m pv v
theorem cQ.mk{P:Program}{g:FuncId}{avt:H1 VT}{rvt:VT}{Sh:Fn (VT.fu avt) (Zh (bL rvt.ks))}
 (H:∀ls r,iI (VT.fu avt) Sh ls=some r->fF ls->∀us,fR avt ls=some (us,[])->fF (gP rvt.ks r)/\∃pv,jY rvt (gP rvt.ks r)=some (pv,[])/\Qb P g us pv):cQ P g avt rvt Sh:=λls r e lo us hu m args' w K A=>by
 obtain⟨h1,pv,h2,h3⟩:=H ls r e lo us hu;exact(h3 m args' w K A).mono λx w' ⟨v,a,b,c⟩=>⟨v,a,b,pv,h2,h1,c⟩
def KX:Qu->Bool
 | .func (.via _ _ 7 _) _ _=>true
 |_=>false
theorem Ew{w:Hx}{b i:Nat}{v:Qu}(ht:KX v=false)(h:fJ w b i=some v):w.cell? ⟨b,i,none⟩=some v:=by
 unfold fJ at h;split at h
 ·cases h;cases ht
 grind
abbrev gz(v:Qu):Prop:=aZ [v]=true
theorem bD.length{m:Nat->Nat->Zh Qu}{xs ys:H1 Qu}(h:bD m xs ys):xs.length=ys.length:=h.1
theorem bD.get{m:Nat->Nat->Zh Qu}{xs ys:H1 Qu}(h:bD m xs ys){i:Nat}{x:Qu}(e:xs[i]? =some x):∃y,ys[i]? =some y/\aK m x y:=PW.get h e
theorem aK.Ue{m:Nat->Nat->Zh Qu}{v v':Qu}(h:aK m v v'):KX v'=false:=by cases h<;>rfl
theorem aK.fn0{m:Nat->Nat->Zh Qu}{f:FuncId}:aK m (.func (.func f) #[] #[]) (.func (.func f) #[] #[]):=.fn rfl (λi x y h=>by simp at h) rfl λi x y h=>by simp at h
theorem aK.row{m:Nat->Nat->Zh Qu}{n c:Nat}{cs ys:H1 Qu}{a:Addr}(r:bD m cs ys)(hm:∀(i:Nat) y,ys[i]? =some y->m a.block (a.off+i)=some y)(hs:a.spot=none)(hn:n<=c)(ho:aZ cs=true):aK m (ae n cs) (.slice (some a) n c):=.kv r.1 r.2 hm hs hn ho
theorem aK.EM{m:Nat->Nat->Zh Qu}{xs ys:H1 Qu}(h:bD m xs ys):aK m (.agg ⟨xs⟩) (.agg ⟨ys⟩):=.agg h.1 h.2
def rK:H1 Qu->Zh (H1 Int)
 |[]=>some []
 | .int .u8 b::l=>ob (rK l) λxs=>some (b::xs)
 |_=>none
theorem ZE:∀{l:H1 Qu}{xs:H1 Int},rK l=some xs->xs.length=l.length/\∀i,i<xs.length->l[i]? =some (.int .u8 (xs.getD i 0))
 |[],_,e=>by cases e;exact⟨rfl,λi h=>by simp at h⟩
 |v::l,xs,e=>by
  unfold rK at e;split at e
  ·rename_i q;cases q
  ·rename_i b l' q;cases q;replace e:=ax e;obtain⟨ys,h1,e⟩:=e;cases e;obtain⟨k1,k2⟩:=ZE h1;refine⟨by simp[k1],λi h=>?_⟩;cases i with
   |zero=>simp
   |succ i=>simp at h;simpa using k2 i h
  ·cases e
def jV{β:Type}(x:Qu)(K:H1 Int->Zh β):Zh β:=match x with
 | .func (.via n _ 0 true) cs _=>cond (Nat.ble n cs.toList.length) (ob (rK (cs.toList.take n)) K) none
 |_=>none
theorem xu{β:Type}{m:Nat->Nat->Zh Qu}{w:Hx}(hm:Kn m w){x v:Qu}{K:H1 Int->Zh β}{b:β}(e:jV x K=some b)(h:aK m x v):
 ∃(xs:H1 Int),K xs=some b/\((∃a c,v=.slice (some a) xs.length c/\xs.length<=c/\∀i,i<xs.length->w.cell? (a.add i)=some (.int .u8 (xs.getD i 0)))\/(xs=[]/\∃c,v=.slice none 0 c)):=by
 unfold jV at e;split at e
 case h_2=>cases e
 rename_i n p cs ys;obtain⟨e1,e2⟩:=aW e;clear e;have e1:=dW e1;replace e2:=ax e2;obtain⟨xs,h1,h2⟩:=e2;obtain⟨k1,k2⟩:=ZE h1;have hl:xs.length=n:=by rw[k1,dk];omega
 refine⟨xs,h2,?_⟩;cases h with
 |kv r1 r2 q hs hn ho=>
  have r:bD m cs.toList _:=⟨r1,r2⟩;rename_i c a zs;subst hl;refine .inl ⟨a,c,rfl,hn,λi hi=>?_⟩;have h3:=k2 i hi;have h4:cs.toList[i]? =some (.int .u8 (xs.getD i 0)):=by rw[<-h3,zK hi]
  obtain⟨y,y1,y2⟩:=r.get h4;cases y2;have h5:=Ew rfl (hm _ _ _ (q i _ y1));rw[<-h5];obtain⟨blk,off,sp⟩:=a;have hs:sp=none:=hs;subst hs;unfold Addr.add;split
  ·rename_i h0;subst h0;rfl
  ·rfl
 |@fW c a=>
  have:xs=[]:=kC hl;subst this;rcases a with _|a
  ·exact .inr ⟨rfl,c,rfl⟩
  ·exact .inl ⟨a,c,rfl,gU _,λi hi=>by simp at hi⟩
end Lt
section
open Go.RowKit Go.Shelf
variable{n:Nat} {P:Program}
def iX(fn:FuncId)(tmps:Array Qu)(ps:Array Tmp)(assign body:Code)(D:Nat)(st:LoopState):Loop:={state:=st,pending:=none,fn,tmps,params:=ps,assign,body,defers:=D}
theorem FN{l D:Nat}{fn:FuncId}{tmps:Array Qu}{ps:Array Tmp}{assign body:Code}{args:Array Qu}{W:Hx}{R:Hx->Prop}(hl:W.heap[l]? =some (.loop (iX fn tmps ps assign body D .ready)))(hps:args.size=ps.size)
 (h:assign.wpIn (Fence.wide.inRound l) n P (Exit.then (λa' Wa=>Wa.heap[l]? =some (.loop (iX fn tmps ps assign body D .ready))/\
  body.wpIn (Fence.wide.inRound l) n P (Exit.then (λ_ W3=>W3.heap[l]? =some (.loop (iX fn tmps ps assign body D .busy))/\R (W3.putObj l (.loop (iX fn tmps ps assign body D .ready)))) (λ_ _ _=>False)) a' (Wa.putObj l (.loop (iX fn tmps ps assign body D .busy)))) (λ_ _ _=>False))
  {tmps:=(ps.zip args).foldl (λt (p,v)=>t.setIfInBounds p v) tmps,defers:=[]} W):
 YieldAt Fence.wide n P l args W λe W'=>e=.returned (.bool true)/\R W':=by
 refine⟨fn,_,assign,body,run_yield (P:=P) (args:=args) hl hps,roundIn_of_wpIn trivial (wpIn_mono h ?_)⟩
 rintro (_|_|_|_|_|_) a' Wa q
 case normal=>
  obtain⟨q1,q2⟩:=q;refine⟨_,run_beginRound q1 rfl,wpIn_mono q2 ?_⟩
  rintro (_|_|_|_|_|_) a3 W3 r
  case normal=>exact⟨_,_,run_endRound none r.1,rfl,r.2⟩
  all_goals exact r.elim
 all_goals exact q.elim
theorem Bz{g:Operand}{ps:Array Tmp}{assign body:Code}{Q:Exit->Act->Hx->Prop}{a:Act}{w:Hx}{gf:Nat}{lb:Array Qu}(hg:a.eval g=.func (.func gf) #[] lb)(eg:∀args w,(callFunc gf args).run P w=.ok (.enter gf args) w)
 (h:∀fn W1,W1=(w.alloc (.deferred (some []))).alloc (.loop (iX fn a.tmps ps assign body w.heap.size .ready))->
  Calls P gf (#[.func (.yield (w.heap.size+1)) #[] #[]]++lb) W1 λe W2=>(∃v,e=.returned v)/\W2.heap[w.heap.size+1]? =some (.loop (iX fn a.tmps ps assign body w.heap.size .ready))/\
   Q .normal {a with defers:={target:=.collected w.heap.size,args:=#[]}::a.defers} (W2.putObj (w.heap.size+1) (.loop (iX fn a.tmps ps assign body w.heap.size .exhausted)))):
 (Code.rangeFunc g ps assign body).wpIn Fence.wide n P Q a w:=by
 refine wpIn_rangeFunc ?_;intro fn _;obtain⟨W1,hW⟩:∃W1,W1=(w.alloc (.deferred (some []))).alloc (.loop (iX fn a.tmps ps assign body w.heap.size .ready)):=⟨_,rfl⟩;refine⟨w.heap.size+1,_,W1,{target:=.fn (.func gf) lb,args:=#[.func (.yield (w.heap.size+1)) #[] #[]]},W1,gf,#[.func (.yield (w.heap.size+1)) #[] #[]]++lb,W1,hW▸run_enterLoop_outer _ _ _ _ _,?_,λ_ _=>trivial,?_,?_,?_⟩
 ·simp only[resolve,hg];simp[go_sem]
 ·simp[invoke,go_sem,eg]
 ·intro q;exact absurd q (by simp[Fence.wide])
 ·refine callsIn_wide.2 ((h fn W1 hW).mono ?_)
  rintro e W2 ⟨⟨v,rfl⟩,h1,h2⟩
  exact⟨none,_,run_endLoop h1 (by simp[iX]),h2⟩
end
end Go.Proofs.YtcfjfbeadhnknaaGreatDoor

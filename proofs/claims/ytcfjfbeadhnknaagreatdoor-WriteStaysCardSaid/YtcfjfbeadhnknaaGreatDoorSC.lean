import Derived.Recover
import Derived.Still
import Derived.Laws.BitsLemmas
import Derived.Test.YtcfjfbeadhnknaaGreatDoorChecked
import Derived.KernelRfl
import Derived.Eval
import Derived.Test.YtcfjfbeadhnknaaGreatDoorSB
namespace Go.Proofs.YtcfjfbeadhnknaaGreatDoor
set_option linter.unusedVariables false
set_option linter.unusedSimpArgs false
set_option linter.unusedSectionVars false
set_option linter.constructorNameAsVariable false
set_option maxRecDepth 100000
namespace Lt
section
set_option linter.unusedVariables false
set_option linter.unusedSimpArgs false
set_option linter.unusedSectionVars false
set_option linter.constructorNameAsVariable false
variable{β:Type}
structure HT where
 n:Nat
 ti:ca
 an:Nat
 to:ca
theorem wq{t:ca}{ls:List bd}{st:St}(e:fI t ls=some st):st.sx=t.sx:=by
 obtain⟨p,h1,e⟩:=aq e
 obtain⟨q,h2,e⟩:=aq e
 grind
def qk(t:ca):VT:=match t.De with
 |(_,v)::_=>v
 |[]=>.b
def AT:Nat->VT->Bool
 |0,_=>false
 |f+1,t=>match t with
  | .agg l=>l.all (AT f)
  | .aC l=>l.all (AT f)
  | .i _=>true
  | .b=>true
  | .s=>true
  | .v=>true
  |_=>false
def s8:Nat->SV->List Nat
 |0,_=>[]
 |f+1,x=>match x with
  | .agg l=>l.flatMap (s8 f)
  | .aC l=>l.flatMap (s8 f)
  | .gr id _=>[id]
  |_=>[]
def qm(h:Tr SO):List Nat->Tr SO
 |[]=>.nil
 |i::l=>match h.get i with
  |some s=>(qm h l).set i s
  |none=>qm h l
def qM(h:Tr SO):List Nat->Tr SO
 |[]=>h
 |i::l=>(qM h l).del i
theorem ym{h:Tr SO}{i:Nat}{s:SO}:∀{l:List Nat},(qm h l).get i=some s->h.get i=some s/\i∈l
 |[],q=>by
  have q:(Tr.nil:Tr SO).get i=some s:=q
  rw[Tr.get_nil] at q;cases q
 |j::l,q=>by
  unfold qm at q
  split at q
  ·rename_i s' hs
   rw[Tr.eW] at q
   by_cases z:i=j
   ·grind
   ·rw[if_neg z] at q
    have:=ym q
    simp_all
  ·have:=ym q
   grind
theorem zm{h:Tr SO}{i:Nat}{s:SO}:∀{l:List Nat},(qM h l).get i=some s->h.get i=some s/\i∉l
 |[],q=>⟨q,by simp⟩
 |j::l,q=>by
  have q:((qM h l).del j).get i=some s:=q
  rw[Tr.pD] at q
  by_cases z:i=j
  ·grind
  ·rw[if_neg z] at q
   have:=zm q
   grind
def rD(h:Tr SO):Nat->SV->Option SV
 |0,_=>none
 |f+1,x=>match x with
  | .agg l=>ob (qV (rD h f) l) λp=>some (.agg p)
  | .aC l=>ob (qV (rD h f) l) λp=>some (.aC p)
  | .i k n=>some (.i k n)
  | .b q=>some (.b q)
  | .s q=>some (.s q)
  |x=>ob (gv h 1 x) λu=>some (.v u)
def rz(t:VT)(sv:SV)(st:St)(K:SV->St->Option β):Option β:=match t,sv with
 | .aC ts,.aC l=>cond (AT 5 (.aC ts)&&!(s8 5 (.aC l)).isEmpty) (ob (rD (qm st.h (s8 5 (.aC l))) 5 (.aC l)) λp=>K p {st with h:=qM st.h (s8 5 (.aC l))}) (K (.aC l) st)
 | .v,.gr id E=>ob (rD (qm st.h [id]) 1 (.gr id E)) λp=>K p {st with h:=qM st.h [id]}
 |_,sv=>K sv st
theorem Hp{σ:Ren}{m:Nat->Nat->Option Value}{h:Tr SO}{w:World}(S:Seen σ m h w):∀(f:Nat)(x x':SV)(v:Value),rD h f x=some x'->DV σ x v->DV ⟨σ.nm,m⟩ x' v
 |0,x,p,v,e,_=>by cases e
 |f+1,x,p,v,e,d=>by
  unfold rD at e
  split at e
  ·obtain⟨q,h1,e⟩:=aq e
   cases e
   cases d with
   |agg hl ds=>have q:=s9 (λx u v=>Hp S f x u v) h1 ⟨hl,ds⟩;exact .agg q.1 q.2
  ·obtain⟨q,h1,e⟩:=aq e
   cases e
   cases d with
   |aC hl ds=>have q:=s9 (λx u v=>Hp S f x u v) h1 ⟨hl,ds⟩;exact .aC q.1 q.2
  ·cases e;cases d;exact .i _ _
  ·cases e;cases d;exact .b _
  ·cases e;cases d;exact .s _
  ·obtain⟨u,h1,e⟩:=aq e
   cases e
   obtain⟨a,b⟩:=nC S 1 _ _ _ h1 d
   exact .v a b
theorem Bd{t:VT}{sv:SV}{st:St}{K:SV->St->Option β}{b:β}(e:rz t sv st K=some b):
 ∃sv2 st2,K sv2 st2=some b/\∀{B:Bs}{σ:Ren}{w:World}{v:Value},DV σ sv v->gD B σ st.h st.sx w->∃σ',DV σ' sv2 v/\gD B σ' st2.h st2.sx w:=by
 have key:∀{ids:List Nat}{f:Nat}{p:SV},rD (qm st.h ids) f sv=some p->∀{B:Bs}{σ:Ren}{w:World}{v:Value},DV σ sv v->gD B σ st.h st.sx w->∃σ',DV σ' p v/\gD B σ' (qM st.h ids) st.sx w:=λ{ids f p} h B σ w v d M=>
  ⟨_,Hp (M.seen λi s h=>(ym h).1) _ _ _ _ h d,(M.Fi (A:=hG (qm st.h ids)) (G':=hG (qM st.h ids)) (λi s h=>(ym h).1) (λi s h=>⟨s,(zm h).1,λs' q=>(zm h).2 (ym q).2⟩) λE i s h=>(M.obj i s (zm h).1).mono E λ_ _ _=>rfl).2⟩
 unfold rz at e
 split at e
 ·rename_i ts l
  generalize s8 5 (.aC l)=ids at e
  cases hc:AT 5 (.aC ts)&&!ids.isEmpty with
  |false=>rw[hc] at e;exact⟨_,_,e,λd M=>⟨_,d,M⟩⟩
  |true=>
   rw[hc] at e
   obtain⟨p,h1,f⟩:=aq e
   exact⟨_,_,f,key h1⟩
 ·obtain⟨p,h1,f⟩:=aq e
  exact⟨_,_,f,key h1⟩
 ·exact⟨_,_,e,λd M=>⟨_,d,M⟩⟩
def yA(P:Program)(g:FuncId)(n an:Nat)(st so:St)(p:Bool):Prop:=∀{B:Bs}{σ:Ren}{w:World}(args':Array Value),args'.size=n->B.an=an->Ev σ st.tm ⟨args',[]⟩->gD B σ st.h st.sx w->
 Calls P g args' w λx w'=>∃σ' v,x=End p v/\(∀sv,so.tm.get 0=some sv->DV σ' sv v)/\gD B σ' so.h so.sx w'
def jt(P:Program)(g:FuncId)(T:HT)(Sh:Fn T.ti.ks (Option (bo T.to.ks))):Prop:=
 ∀ls r st so,fR T.ti.ks Sh ls=some r->fI T.ti ls=some st->fI T.to (ff T.to.ks r)=some so->yA P g T.n T.an st so false
theorem Mem.nd{B:Bs}{σ:Ren}{G:Nat->SO->Prop}{F:Nat->Prop}{w:World}{n:Nat}{cO:List Deferred}(M:Mem B σ G F w):Mem {B with n:=n,cO:=cO} σ G F w:=⟨M.obj,M.inj,M.fresh,M.lit,M.free,M.base,M.owned,M.jD,M.iD,M.kH⟩
theorem tL{B:Bs}{to:ca}{sv:SV}{st so:St}{K:List bd->Option β}{b:β}{L:List bd}(e:iU B.an to ⟨Tr.nil.set 0 sv,st.h,st.sx⟩ K=some b)(hL:∀ls,K ls=some b->L=ls)(hso:fI to L=some so){σ:Ren}{w:World}{v:Value}(d:DV σ sv v)(M:gD B σ st.h st.sx w):
 ∃σ',(∀sv,so.tm.get 0=some sv->DV σ' sv v)/\gD B σ' so.h so.sx w:=by
 obtain⟨ls,q1,st',q2,_,q4⟩:=qP e
 rw[hL _ q1,q2] at hso
 cases hso
 obtain⟨σ',z1,z2⟩:=q4 (σ:=σ) (a:=⟨#[v],[]⟩) (w:=w) (λt x h=>by
  rw[Tr.eW] at h
  split at h
  ·rename_i q;subst q;cases h;exact d
  ·rw[Tr.get_nil] at h;cases h) M
 exact⟨σ',λx h=>z1 0 x h,z2⟩
noncomputable def KO[QF](w:Nat)(X:dL)(pt:(β:Type)->FuncId->Option (cd β))(fn:Func)(T:HT)(lv jv:Nat->Option ca)(un:Nat->Bool):Fn T.ti.ks (Option (bo T.to.ks)):=
 jx T.ti.ks λls=>ob (fI T.ti ls) λst=>dn {X:=X,pt:=pt _,n:=T.n+(fn.ntmps -T.n),rs:=fn.results.toList,lv:=lv,jv:=jv,un:=un,df:=false,fuel:=w,an:=T.an,fG:=λsv st=>rz (qk T.to) sv st λsv st=>iU T.an T.to ⟨Tr.nil.set 0 sv,st.h,st.sx⟩ (dec T.to.ks),jB:=λ_ _=>bq 52} 100000 [] [.code (fn.body.getD .skip)] st
theorem pC[QF]{P:Program}{X:dL}(OK:gP P X)(mx:P.follows .mixedOrders=true){pt:(β:Type)->FuncId->Option (cd β)}(PT:gO P pt){g:FuncId}{fn:Func}{T:HT}{lv jv:Nat->Option ca}{un:Nat->Bool}{w:Nat}{Sh:Fn T.ti.ks (Option (bo T.to.ks))}
 (hF:X.F.get g=some fn) (hb:fn.body=some (fn.body.getD .skip)) (hS:Sh=KO w X pt fn T lv jv un):jt P g T Sh:=by
 intro ls r st so e hst hso B σ w0 args' hn ha ev M
 subst hS
 have e1:=kx _ _ _ _ e
 obtain⟨st1,g1,e2⟩:=aq e1
 rw[hst] at g1
 cases g1
 refine vz (B:={B with n:=T.n+(fn.ntmps -T.n),cO:=[]}) (OK.F _ _ hF).1 hb rfl rfl (pg OK mx (PT _) rfl rfl ha _ _ _ _ _ e2 (λr hr=>by cases hr) ⟨by simp[hn],rfl,pB ev,M.nd⟩) λR d=>⟨λkr=>?_,λkp=>by cases kp⟩
 obtain⟨sv2,st2,k1,k2⟩:=Bd (t:=qk T.to) (K:=λsv st=>iU T.an T.to ⟨Tr.nil.set 0 sv,st.h,st.sx⟩ (dec T.to.ks)) kr
 obtain⟨σ2,d2,M2⟩:=k2 d R.mem.nd
 obtain⟨σ3,z1,z2⟩:=tL (B:=B) (by rw[ha];exact k1) (λls q=>mT _ _ _ q) hso d2 M2
 exact⟨σ3,_,rfl,z1,z2⟩
mutual
def mF(f:Nat->Nat):SV->SV
 | .ptr id off=>.ptr (f id) off
 | .sl id off n c=>.sl (f id) off n c
 | .gr id E=>.gr (f id) E
 | .agg l=>.agg (pU f l)
 | .aC l=>.aC (pU f l)
 | .fn g l=>.fn g (pU f l)
 | .ea t x=>.ea t (mF f x)
 | .em b=>.em b
 | .ni=>.ni
 | .mp id=>.mp (f id)
 | .i k n=>.i k n
 | .b x=>.b x
 | .s x=>.s x
 | .v x=>.v x
 | .nl=>.nl
 | .lp c=>.lp c
def pU(f:Nat->Nat):List SV->List SV
 |[]=>[]
 |x::xs=>mF f x::pU f xs
end
def A1(f:Nat->Nat):SO->SO
 | .cells c t=>.cells (pU f c) t
 | .arr c t=>.arr c t
 | .grow E c t=>.grow E c t
 | .mp es=>.mp (es.map λe=>(e.1,mF f e.2))
theorem PN{f:Nat->Nat}:∀l:List SV,pU f l=l.map (mF f)
 |[]=>rfl
 |x::l=>by unfold pU;rw[PN l];rfl
theorem A3{σ':Ren}{f:Nat->Nat}{l:List SV}{ys:List Value}(hl:l.length=ys.length)(ih:∀(i:Nat) x y,l[i]? =some x->ys[i]? =some y->DV σ' (mF f x) y):dF σ' (pU f l) ys:=by
 rw[PN]
 refine⟨by simp[hl],λi x y a b=>?_⟩
 rw[List.getElem?_map] at a
 obtain⟨x',a1,rfl⟩:=Option.map_eq_some_iff.1 a
 exact ih i x' y a1 b
theorem Hc{σ σ':Ren}{f:Nat->Nat}(hl:σ'.lit=σ.lit)(e:∀k x,σ.nm k=some x->σ'.nm (f k)=some x){x:SV}{v:Value}(d:DV σ x v):DV σ' (mF f x) v:=by
 induction d with
 |i=>exact .i _ _
 |b=>exact .b _
 |s=>exact .s _
 |v h h1=>exact .v (hl▸h) h1
 |nl=>exact .nl
 |agg kl _ ih=>have q:=A3 kl ih;exact .agg q.1 q.2
 |aC kl _ ih=>have q:=A3 kl ih;exact .aC q.1 q.2
 |ptr h=>exact .ptr (e _ _ h)
 |lp h=>exact .lp (hl▸h)
 |sl h hn=>exact .sl (e _ _ h) hn
 |gR h=>exact .gR (e _ _ h)
 |gr h hc hn=>exact .gr (e _ _ h) hc hn
 |fn kl _ ih=>have q:=A3 kl ih;exact .fn q.1 q.2
 |ea _ ih=>exact .ea ih
 |em h=>exact .em (hl▸h)
 |ni=>exact .ni
 |mp h=>exact .mp (e _ _ h)
theorem Z7{σ σ':Ren}{f:Nat->Nat}(hl:σ'.lit=σ.lit)(e:∀k x,σ.nm k=some x->σ'.nm (f k)=some x){w:World}{k:Nat}{so:SO}(d:DO σ w k so):DO σ' w (f k) (A1 f so):=by
 cases so with
 |cells c t=>obtain⟨o,n,vs,a,b,c⟩:=d;exact⟨o,n,vs,e _ _ a,b,A3 c.1 λi x y h1 h2=>Hc hl e (c.2 i x y h1 h2)⟩
 |arr c t=>obtain⟨o,n,vs,a,b,c⟩:=d;exact⟨o,n,vs,e _ _ a,b,hl▸c⟩
 |grow E c t=>
  obtain⟨a,p,g⟩:=d
  refine⟨a,p,?_⟩
  rcases g with⟨g,h⟩|⟨o,n,cs,g,h⟩
  ·exact .inl ⟨e _ _ g,h⟩
  ·exact .inr ⟨o,n,cs,e _ _ g,hl▸h⟩
 |mp es=>
  obtain⟨o,n,es',ck,a,b,c⟩:=d
  refine⟨o,n,es',ck,e _ _ a,b,by simp[c.1],λi x y h1 h2=>?_⟩
  rw[List.getElem?_map] at h1
  obtain⟨x',h3,rfl⟩:=Option.map_eq_some_iff.1 h1
  have q:=c.2 i x' y h3 h2
  exact⟨q.1,Hc hl e q.2⟩
def jZ(an sx:Nat)(m:Mp)(k:Nat):Nat:=cond (Nat.blt k an) (match cP k m with
 |some (some a)=>a
 |_=>0) (sx+k)
def oz(h:Tr SO):Mp->Bool
 |[]=>true
 |(_,some a)::m=>(match h.get a with|some _=>oz h m|none=>false)
 |(_,none)::m=>oz h m
def o6(m:Mp):Nat->Bool
 |0=>true
 |n+1=>(match cP n m with|some (some _)=>o6 m n|_=>false)
def oq:Mp->Tr SO->Tr SO
 |[],h=>h
 |(_,some a)::m,h=>oq m (h.del a)
 |(_,none)::m,h=>oq m h
def nL(f:Nat->Nat)(s:Tr SO):List (Nat×OT)->Tr SO->Tr SO
 |[],h=>h
 |(k,_)::l,h=>match s.get k with
  |some so=>(nL f s l h).set (f k) (A1 f so)
  |none=>nL f s l h
def LA(T:HT)(Sh:Fn T.ti.ks (Option (bo T.to.ks))):cd β:=λst args K=>
 cond (Nat.beq args.length T.n) (qO [] T.ti ⟨lP args 0 .nil,st.h,st.sx⟩ λls m=>
  cond (oz st.h m&&o6 m T.an) (ob (fR T.ti.ks Sh ls) λr=>ob (fI T.to (ff T.to.ks r)) λso=>ob (so.tm.get 0) λsv=>
   K false (mF (jZ T.an st.sx m) sv) ⟨st.tm,nL (jZ T.an st.sx m) so.h T.to.nb (oq m st.h),st.sx+T.to.sx⟩) none) none
theorem rh{h:Tr SO}:∀{m:Mp},oz h m=true->∀k a,cP k m=some (some a)->∃so,h.get a=some so
 |[],_,k,a,e=>by cases e
 |(j,x)::m,hl,k,a,e=>by
  rw[nH] at e
  cases x with
  |none=>
   by_cases q:j=k
   ·grind
   ·rw[if_neg q] at e;exact rh (m:=m) hl k a e
  |some y=>
   unfold oz at hl
   split at hl
   ·rename_i so hso
    by_cases q:j=k
    ·grind
    ·rw[if_neg q] at e;exact rh hl k a e
   grind
theorem sE{m:Mp}:∀{n:Nat},o6 m n=true->∀k,k<n->∃a,cP k m=some (some a)
 |0,_,k,h=>by omega
 |n+1,e,k,h=>by
  unfold o6 at e
  split at e
  ·rename_i a ha
   by_cases q:k=n
   ·grind
   ·exact sE e k (by omega)
  grind
def zR(a:Nat):Mp->Prop
 |[]=>False
 |(_,x)::m=>x=some a\/zR a m
theorem Eu:∀{m:Mp}{h:Tr SO}{id:Nat}{so:SO},(oq m h).get id=some so->h.get id=some so/\¬zR id m
 |[],h,id,so,e=>⟨e,λh=>h⟩
 |(j,none)::m,h,id,so,e=>by
  obtain⟨a,b⟩:=Eu (m:=m) e
  exact⟨a,λq=>by
   rcases q with q|q
   ·grind
   ·exact b q⟩
 |(j,some x)::m,h,id,so,e=>by
  obtain⟨a,b⟩:=Eu (m:=m) e
  rw[Tr.pD] at a
  by_cases q:id=x
  ·grind
  ·rw[if_neg q] at a
   exact⟨a,λw=>by
    rcases w with w|w
    ·grind
    ·exact b w⟩
theorem MF:∀{m:Mp}{k a:Nat},cP k m=some (some a)->zR a m
 |[],k,a,e=>by cases e
 |(j,x)::m,k,a,e=>by
  rw[nH] at e
  by_cases q:j=k
  ·rw[if_pos q] at e;cases e;exact .inl rfl
  ·rw[if_neg q] at e;exact .inr (MF e)
theorem GY{f:Nat->Nat}{s:Tr SO}:∀{l:List (Nat×OT)}{h:Tr SO}{id:Nat}{so:SO},(nL f s l h).get id=some so->h.get id=some so\/∃k x,id=f k/\s.get k=some x/\so=A1 f x
 |[],h,id,so,e=>.inl e
 |(k,t)::l,h,id,so,e=>by
  unfold nL at e
  split at e
  ·rename_i x hx
   rw[Tr.eW] at e
   by_cases q:id=f k
   ·grind
   ·rw[if_neg q] at e;exact GY e
  ·exact GY e
theorem vD{P:Program}{g:FuncId}{an n:Nat}{nb:List (Nat×OT)}{st:St}{args:List SV}{m:Mp}{stT so:St}{sv:SV}{pb:Bool}(hlen:args.length=n)(hinj:jb m)(hsx:∀id x,cP id m=some x->id<stT.sx)
 (h4:∀{σ:Ren}{a:Act}{w:World},Ev σ (lP args 0 .nil) a->(∀id so,st.h.get id=some so->DO σ w id so)->Ev (σm σ m) stT.tm a/\∀id so,stT.h.get id=some so->DO (σm σ m) w id so/\(cP id m=some none\/∃a so',cP id m=some (some a)/\st.h.get a=some so'))
 (L:∀k a,cP k m=some (some a)->∃so,st.h.get a=some so) (A:∀k,k<an->∃a,cP k m=some (some a)) (k3:so.tm.get 0=some sv) (Fg:yA P g n an stT so pb)
 {B:Bs} {σ:Ren} {F:Nat->Prop} {w:World} (hF:∀id,st.sx<=id->id<st.sx+so.sx->F id) (M:Mem B σ (hG st.h) F w) (args':Array Value) (d:dF σ args args'.toList):
 Calls P g args' w λx w'=>∃σ' v,x=End pb v/\Ext σ σ'/\DV σ' (mF (jZ an st.sx m) sv) v/\Mem B σ' (hG (nL (jZ an st.sx m) so.h nb (oq m st.h))) (jy F st.sx (st.sx+so.sx)) w':=by
 let G':Nat->SO->Prop:=λid x=>st.h.get id=some x/\zR id m
 have sG:∀id x,G' id x->hG st.h id x:=λ_ _ h=>h.1
 obtain⟨ev,ob⟩:=h4 (σ:=σ) (a:=⟨args',[]⟩) (w:=w) (ye d) M.obj
 have MT:gD ⟨w,Own σ G',σ.lit,an,(σm σ m).nm,0,[]⟩ (σm σ m) stT.h stT.sx w:=(M.zK sG).map hinj hsx (λid x h=>⟨(ob id x h).1,(ob id x h).2.imp_right λ⟨a,s,h1,h2⟩=>⟨a,s,h1,h2,MF h1⟩⟩) (dG.refl _ _) (λb q=>.inl q) (λ_ _ _ q=>.inl q) (λ_ _ _ q=>q) λ_ _ _ q=>q
 refine Calls.mono (Fg args' (by rw[<-hlen,d.1,Array.length_toList]) rfl ev MT) λx w' ⟨σ2,v,e1,dv,M2⟩=>?_
 generalize hf:jZ an st.sx m=f
 let σn:Ren:=⟨λid=>if st.sx<=id/\id<st.sx+so.sx then σ2.nm (id -st.sx) else σ.nm id,σ2.lit⟩
 have E:Ext σ σn:=⟨λid x e=>by
  show(if _ then _ else _)=_
  rw[if_neg λq=>by rw[M.fresh id (hF id q.1 q.2)] at e;cases e]
  exact e,M2.kH⟩
 have n1:∀k x,σ2.nm k=some x->σn.nm (f k)=some x:=λk x e=>by
  rcases Nat.lt_or_ge k an with hk|hk
  ·obtain⟨a,ha⟩:=A k hk
   obtain⟨s0,hs0⟩:=L k a ha
   have fk:f k=a:=by
    rw[<-hf]
    unfold jZ
    rw[show Nat.blt k an=true from Nat.ble_eq_true_of_le hk,cond_true,ha]
   have hy:∃y,σ.nm a=some y:=(M.obj a s0 hs0).nm.elim (λq=>⟨_,q⟩) λ⟨_,_,q,_⟩=>⟨_,q⟩
   obtain⟨y,hy⟩:=hy
   have:=M2.iD k hk y ((σm_some ha).trans hy)
   rw[e] at this
   cases this
   rw[fk]
   exact E.nm _ _ hy
  ·have lt:k<so.sx:=Nat.not_le.1 λq=>by rw[M2.fresh k q] at e;cases e
   have fk:f k=st.sx+k:=by
    rw[<-hf]
    unfold jZ
    rw[show Nat.blt k an=false from Bool.eq_false_iff.2 λq=>by have:=eu q;omega]
    rfl
   rw[fk]
   show(if _ then _ else _)=_
   rw[if_pos ⟨by omega,by omega⟩,show st.sx+k -st.sx=k by omega]
   exact e
 have back:∀{k y o n},so.h.get k=some y->σn.nm (f k)=some (some o,n)->σ2.nm k=some (some o,n):=λ{k y o n} h1 h2=>by
  rcases(M2.obj k y h1).nm with q|⟨_,_,q,_⟩<;>rw[n1 _ _ q] at h2<;>cases h2
  exact q
 have M3:Mem (wW w (Own σ G') σ.lit) σn (λid x=>∃k y,id=f k/\so.h.get k=some y/\x=A1 f y) (jy F st.sx (st.sx+so.sx)) w':=by
  refine⟨λid x ⟨k,y,h1,h2,h3⟩=>?_,λi j s s' o o' n n' ⟨k,y,h1,h2,_⟩ ⟨k',y',h1',h2',_⟩ p p' q=>?_,λid h=>?_,M2.lit,λb i v q ⟨id,x,o,n,⟨k,y,h1,h2,_⟩,p,r⟩=>?_,M2.base,λb ⟨id,x,o,n,⟨k,y,h1,h2,_⟩,p,r⟩=>?_,M2.jD,λk hk=>(Nat.not_lt_zero k hk).elim,M2.kH⟩
  ·rw[h1,h3]
   exact Z7 (σ:=σ2) (σ':=σn) rfl n1 (M2.obj k y h2)
  ·rw[h1] at p⊢;rw[h1'] at p'⊢
   rw[M2.inj _ _ _ _ _ _ _ _ h2 h2' (back h2 p) (back h2' p') q]
  ·show(if _ then _ else _)=_
   rw[if_neg h.2]
   exact M.fresh id h.1
  ·rw[h1] at p
   exact M2.free b i v q ⟨k,y,o,n,h2,back h2 p,r⟩
  ·rw[h1] at p
   exact M2.owned b ⟨k,y,o,n,h2,back h2 p,r⟩
 refine⟨σn,v,e1,E,Hc (σ:=σ2) (σ':=σn) rfl n1 (dv sv k3),(M.frame sG E M3).less (λid x h=>?_) λ_ h=>h⟩
 rcases GY h with q|q
 ·have⟨q1,q2⟩:=Eu q
  exact .inr ⟨q1,λs' z=>q2 z.2⟩
 ·exact .inl q
theorem TN{P:Program}{g:FuncId}{T:HT}{Sh:Fn T.ti.ks (Option (bo T.to.ks))}(F:jt P g T Sh):jN P g (LA (β:=β) T Sh):=by
 intro st args K b e
 obtain⟨hlen,e⟩:=aR e
 obtain⟨ls,m,h1,_,hinj,hsx,stT,h2,h3,h4⟩:=zC (λi j a q=>by cases q) e
 obtain⟨hl,h1⟩:=aR h1
 rw[Bool.and_eq_true] at hl
 obtain⟨r,k1,h1⟩:=aq h1
 obtain⟨so,k2,h1⟩:=aq h1
 obtain⟨sv,k3,h1⟩:=aq h1
 have sx:=wq k2
 rw[<-sx] at h1
 exact⟨false,_,_,h1,rfl,Nat.le_add_right _ _,λhF M args' d=>vD (Nat.eq_of_beq_eq_true hlen) hinj (by rw[h3];exact hsx) h4 (rh hl.1) (sE hl.2) k3 (F ls r stT so k1 h2 k2) hF M args' d⟩
def Mc(T:HT)(st:St)(args:List SV):Bool:=cond (Nat.beq args.length T.n) ((qO (β:=Unit) [] T.ti ⟨lP args 0 .nil,st.h,st.sx⟩ λ_ m=>cond (oz st.h m&&o6 m T.an) (some ()) none).isSome) false
def GP(pt:(β:Type)->FuncId->Option (cd β))(g:FuncId)(T:HT)(Sh:Fn T.ti.ks (Option (bo T.to.ks))):(β:Type)->FuncId->Option (cd β):=
 λβ f=>cond (Nat.beq f g) (some λst args K=>cond (Mc T st args) (LA T Sh st args K) (ob (pt β f) λe=>e st args K)) (pt β f)
theorem jl{P:Program}{pt:(β:Type)->FuncId->Option (cd β)}(PT:gO P pt){g:FuncId}{T:HT}{Sh:Fn T.ti.ks (Option (bo T.to.ks))}(F:jt P g T Sh):gO P (GP pt g T Sh):=by
 intro β f e h
 unfold GP at h
 cases hb:Nat.beq f g with
 |true=>
  rw[hb] at h
  have hg:=Nat.eq_of_beq_eq_true hb
  subst hg
  cases h
  intro st args K b k
  cases hf:Mc T st args with
  |true=>
   simp[hf] at k
   exact TN F st args K b k
  |false=>
   simp[hf] at k
   obtain⟨e0,h0,k⟩:=aq k
   exact PT β f e0 h0 st args K b k
 |false=>
  rw[hb] at h
  exact PT β f e h
def mX{α:Type}(z:α)(F:α->α)(n:Nat):α:=Nat.rec z (λ_ r=>F r) n
theorem Uj{P:Program}{g:FuncId}{T:HT}:jt P g T (iP T.ti.ks):=λ_ _ _ _ e=>(vg _ _ _ e).elim
theorem Ul{P:Program}{g:FuncId}{avt:List VT}{rvt:VT}:bZ P g avt rvt (iP (VT.dW avt)):=λ_ _ e=>(vg _ _ _ e).elim
theorem Mh{P:Program}{g:FuncId}{T:HT}{F:Fn T.ti.ks (Option (bo T.to.ks))->Fn T.ti.ks (Option (bo T.to.ks))}(h:∀r,jt P g T r->jt P g T (F r))(n:Nat):jt P g T (mX (iP T.ti.ks) F n):=by
 induction n with
 |zero=>exact Uj
 |succ n ih=>exact h _ ih
theorem Uk{P:Program}{g:FuncId}{avt:List VT}{rvt:VT}{F:Fn (VT.dW avt) (Option (bo rvt.ks))->Fn (VT.dW avt) (Option (bo rvt.ks))}(h:∀r,bZ P g avt rvt r->bZ P g avt rvt (F r))(n:Nat):bZ P g avt rvt (mX (iP (VT.dW avt)) F n):=by
 induction n with
 |zero=>exact Ul
 |succ n ih=>exact h _ ih
end
section
set_option linter.unusedVariables false
set_option linter.unusedSimpArgs false
set_option linter.unusedSectionVars false
set_option linter.constructorNameAsVariable false
variable{β:Type}
structure PT where
 n:Nat
 ti:ca
 an:Nat
 to:ca
 tp:ca
def PT.out(T:PT)(p:Bool):ca:=cond p T.tp T.to
def oU(P:Program)(g:FuncId)(T:PT)(Sh:Fn T.ti.ks (Option (bo T.to.ks⊕bo T.tp.ks))):Prop:=
 ∀ls r st,fR T.ti.ks Sh ls=some r->fI T.ti ls=some st->∀(p:Bool)(l:List bd) so,(match r with| .inl a=>p=false/\l=ff T.to.ks a| .inr a=>p=true/\l=ff T.tp.ks a)->fI (T.out p) l=some so->yA P g T.n T.an st so p
noncomputable def KR[QF](w:Nat)(X:dL)(pt:(β:Type)->FuncId->Option (cd β))(fn:Func)(T:PT)(lv jv:Nat->Option ca)(un:Nat->Bool):Fn T.ti.ks (Option (bo T.to.ks⊕bo T.tp.ks)):=
 jx T.ti.ks λls=>ob (fI T.ti ls) λst=>dn {X:=X,pt:=pt _,n:=T.n+(fn.ntmps -T.n),rs:=fn.results.toList,lv:=lv,jv:=jv,un:=un,df:=false,fuel:=w,an:=T.an,fG:=λsv st=>rz (qk T.to) sv st λsv st=>iU T.an T.to ⟨Tr.nil.set 0 sv,st.h,st.sx⟩ λls=>ob (dec T.to.ks ls) λa=>some (.inl a),jB:=λsv st=>iU T.an T.tp ⟨Tr.nil.set 0 sv,st.h,st.sx⟩ λls=>ob (dec T.tp.ks ls) λa=>some (.inr a)} 100000 [] [.code (fn.body.getD .skip)] st
theorem Mi[QF]{P:Program}{X:dL}(OK:gP P X)(mx:P.follows .mixedOrders=true){pt:(β:Type)->FuncId->Option (cd β)}(PTO:gO P pt){g:FuncId}{fn:Func}{T:PT}{lv jv:Nat->Option ca}{un:Nat->Bool}{w:Nat}{Sh:Fn T.ti.ks (Option (bo T.to.ks⊕bo T.tp.ks))}
 (hF:X.F.get g=some fn) (hb:fn.body=some (fn.body.getD .skip)) (hS:Sh=KR w X pt fn T lv jv un):oU P g T Sh:=by
 intro ls r st e hst p l so hr hso B σ w0 args' hn ha ev M
 subst hS
 have e1:=kx _ _ _ _ e
 obtain⟨st1,g1,e2⟩:=aq e1
 rw[hst] at g1
 cases g1
 refine vz (B:={B with n:=T.n+(fn.ntmps -T.n),cO:=[]}) (OK.F _ _ hF).1 hb rfl rfl (pg OK mx (PTO _) rfl rfl ha _ _ _ _ _ e2 (λr hr=>by cases hr) ⟨by simp[hn],rfl,pB ev,M.nd⟩) λR d=>⟨λkr=>?_,λkp=>?_⟩
 ·obtain⟨sv2,st2,k1,k2⟩:=Bd (β:=bo T.to.ks⊕bo T.tp.ks) (t:=qk T.to) (K:=λsv st=>iU T.an T.to ⟨Tr.nil.set 0 sv,st.h,st.sx⟩ λls=>ob (dec T.to.ks ls) λa=>some (.inl a)) kr
  obtain⟨σ2,d2,M2⟩:=k2 d R.mem.nd
  replace k1:iU T.an T.to ⟨Tr.nil.set 0 sv2,st2.h,st2.sx⟩ (λls=>ob (dec T.to.ks ls) λa=>some (Sum.inl a))=some r:=k1
  cases r with
  |inl a=>
   obtain⟨rfl,rfl⟩:=hr
   obtain⟨σ3,z1,z2⟩:=tL (B:=B) (by rw[ha];exact k1) (λls q=>by obtain⟨a',q1,q2⟩:=aq q;cases q2;exact mT _ _ _ q1) hso d2 M2
   exact⟨σ3,_,rfl,z1,z2⟩
  |inr a=>
   obtain⟨ls',q1,_⟩:=qP (B:=B) (by rw[ha];exact k1)
   obtain⟨a',_,q2⟩:=aq q1
   cases q2
 ·replace kp:iU T.an T.tp ⟨Tr.nil.set 0 _,_,_⟩ (λls=>ob (dec T.tp.ks ls) λa=>some (Sum.inr a))=some r:=kp
  cases r with
  |inl a=>
   obtain⟨ls',q1,_⟩:=qP (B:=B) (by rw[ha];exact kp)
   obtain⟨a',_,q2⟩:=aq q1
   cases q2
  |inr a=>
   obtain⟨rfl,rfl⟩:=hr
   obtain⟨σ3,z1,z2⟩:=tL (B:=B) (by rw[ha];exact kp) (λls q=>by obtain⟨a',q1,q2⟩:=aq q;cases q2;exact mT _ _ _ q1) hso d R.mem.nd
   exact⟨σ3,_,rfl,z1,z2⟩
def cD{α γ δ:Type}(r:α⊕γ)(f:α->δ)(g:γ->δ):δ:=match r with
 | .inl a=>f a
 | .inr a=>g a
def LB(T:PT)(Sh:Fn T.ti.ks (Option (bo T.to.ks⊕bo T.tp.ks))):cd β:=λst args K=>
 cond (Nat.beq args.length T.n) (qO [] T.ti ⟨lP args 0 .nil,st.h,st.sx⟩ λls m=>
  cond (oz st.h m&&o6 m T.an) (ob (fR T.ti.ks Sh ls) λr=>cD r
   (λa=>ob (fI T.to (ff T.to.ks a)) λso=>ob (so.tm.get 0) λsv=>K false (mF (jZ T.an st.sx m) sv) ⟨st.tm,nL (jZ T.an st.sx m) so.h T.to.nb (oq m st.h),st.sx+T.to.sx⟩)
   (λa=>ob (fI T.tp (ff T.tp.ks a)) λso=>ob (so.tm.get 0) λsv=>K true (mF (jZ T.an st.sx m) sv) ⟨st.tm,nL (jZ T.an st.sx m) so.h T.tp.nb (oq m st.h),st.sx+T.tp.sx⟩)) none) none
theorem TP{P:Program}{g:FuncId}{T:PT}{Sh:Fn T.ti.ks (Option (bo T.to.ks⊕bo T.tp.ks))}(F:oU P g T Sh):jN P g (LB (β:=β) T Sh):=by
 intro st args K b e
 obtain⟨hlen,e⟩:=aR e
 obtain⟨ls,m,h1,_,hinj,hsx,stT,h2,h3,h4⟩:=zC (λi j a q=>by cases q) e
 obtain⟨hl,h1⟩:=aR h1
 rw[Bool.and_eq_true] at hl
 obtain⟨r,k1,h1⟩:=aq h1
 cases r with
 |inl a=>
  obtain⟨so,k2,h1⟩:=aq h1
  obtain⟨sv,k3,h1⟩:=aq h1
  have sx:=wq k2
  rw[<-sx] at h1
  exact⟨false,_,_,h1,rfl,Nat.le_add_right _ _,λhF M args' d=>vD (Nat.eq_of_beq_eq_true hlen) hinj (by rw[h3];exact hsx) h4 (rh hl.1) (sE hl.2) k3 (F ls _ stT k1 h2 false _ so ⟨rfl,rfl⟩ k2) hF M args' d⟩
 |inr a=>
  obtain⟨so,k2,h1⟩:=aq h1
  obtain⟨sv,k3,h1⟩:=aq h1
  have sx:=wq k2
  rw[<-sx] at h1
  exact⟨true,_,_,h1,rfl,Nat.le_add_right _ _,λhF M args' d=>vD (Nat.eq_of_beq_eq_true hlen) hinj (by rw[h3];exact hsx) h4 (rh hl.1) (sE hl.2) k3 (F ls _ stT k1 h2 true _ so ⟨rfl,rfl⟩ k2) hF M args' d⟩
def zI(T:PT)(st:St)(args:List SV):Bool:=cond (Nat.beq args.length T.n) ((qO (β:=Unit) [] T.ti ⟨lP args 0 .nil,st.h,st.sx⟩ λ_ m=>cond (oz st.h m&&o6 m T.an) (some ()) none).isSome) false
def GQ(pt:(β:Type)->FuncId->Option (cd β))(g:FuncId)(T:PT)(Sh:Fn T.ti.ks (Option (bo T.to.ks⊕bo T.tp.ks))):(β:Type)->FuncId->Option (cd β):=
 λβ f=>cond (Nat.beq f g) (some λst args K=>cond (zI T st args) (LB T Sh st args K) (ob (pt β f) λe=>e st args K)) (pt β f)
theorem nh{P:Program}{pt:(β:Type)->FuncId->Option (cd β)}(PTO:gO P pt){g:FuncId}{T:PT}{Sh:Fn T.ti.ks (Option (bo T.to.ks⊕bo T.tp.ks))}(F:oU P g T Sh):gO P (GQ pt g T Sh):=by
 intro β f e h
 unfold GQ at h
 cases hb:Nat.beq f g with
 |true=>
  rw[hb] at h
  have hg:=Nat.eq_of_beq_eq_true hb
  subst hg
  cases h
  intro st args K b k
  cases hf:zI T st args with
  |true=>
   simp[hf] at k
   exact TP F st args K b k
  |false=>
   simp[hf] at k
   obtain⟨e0,h0,k⟩:=aq k
   exact PTO β f e0 h0 st args K b k
 |false=>
  rw[hb] at h
  exact PTO β f e h
theorem Un{P:Program}{g:FuncId}{T:PT}:oU P g T (iP T.ti.ks):=λ_ _ _ e=>(vg _ _ _ e).elim
theorem Um{P:Program}{g:FuncId}{T:PT}{F:Fn T.ti.ks (Option (bo T.to.ks⊕bo T.tp.ks))->Fn T.ti.ks (Option (bo T.to.ks⊕bo T.tp.ks))}(h:∀r,oU P g T r->oU P g T (F r))(n:Nat):oU P g T (mX (iP T.ti.ks) F n):=by
 induction n with
 |zero=>exact Un
 |succ n ih=>exact h _ ih
end
section
set_option linter.unusedVariables false
set_option linter.unusedSimpArgs false
set_option linter.unusedSectionVars false
set_option linter.constructorNameAsVariable false
variable{β:Type}
def MX:List Operand->Bool
 |[]=>true
 |_=>false
def G4(o:Oper)(n:Nat)(K:Nat->Option β):Option β:=match o.op with
 | .call c=>match c.callee with
  | .builtin .recover=>match o.guard with
   |none=>cond (MX c.args.toList) (match o.dst with|some d=>cond (Nat.blt d n) (K d) none|none=>none) none
   |some _=>none
  |_=>none
 |_=>none
theorem ZQ{o:Oper}{n:Nat}{K:Nat->Option β}{b:β}(e:G4 o n K=some b):∃d,K d=some b/\o.dst=some d/\Nat.blt d n=true/\o.guard=none/\∃c,o.op=.call c/\c.callee=.builtin .recover/\c.args.toList=[]:=by
 unfold G4 at e
 split at e
 ·rename_i c hop
  split at e
  ·rename_i hc
   split at e
   ·rename_i hg
    obtain⟨e1,e⟩:=aR e
    split at e
    ·rename_i d hd
     obtain⟨e2,e⟩:=aR e
     refine⟨d,e,hd,e2,hg,c,hop,hc,?_⟩
     generalize c.args.toList=l at e1
     cases l with
     |nil=>rfl
     |cons _ _=>cases e1
    grind
   grind
  grind
 grind
def Ew(o:Oper)(K:Nat->Option β):Option β:=match o.op with
 | .defer c=>match c.callee with
  | .value (.tmp t)=>match o.guard,o.dst with
   |none,none=>cond (MX c.args.toList) (K t) none
   |_,_=>none
  |_=>none
 |_=>none
theorem Ty{o:Oper}{K:Nat->Option β}{b:β}(e:Ew o K=some b):∃t,K t=some b/\o.dst=none/\o.guard=none/\∃c,o.op=.defer c/\c.callee=.value (.tmp t)/\c.args.toList=[]:=by
 unfold Ew at e
 split at e
 ·rename_i c hop
  split at e
  ·rename_i t hc
   split at e
   ·rename_i hg hd
    obtain⟨e1,e⟩:=aR e
    refine⟨t,e,hd,hg,c,hop,hc,?_⟩
    generalize c.args.toList=l at e1
    cases l with
    |nil=>rfl
    |cons _ _=>cases e1
   grind
  grind
 grind
def An(q:Option SV)(r:Option β):Option β:=match q with
 |none=>r
 |some _=>bq 60
theorem F4{q:Option SV}{r:Option β}{b:β}(e:An q r=some b):q=none/\r=some b:=by
 cases q with
 |none=>exact⟨rfl,e⟩
 |some _=>cases e
section
variable[QF]
noncomputable def qJ(C:Ctx β)(gn:Func)(lvg jvg:Nat->Option ca)(ung:Nat->Bool)(caps:List SV)(rv:SV)(st:St)(K:St->Option β):Option β:=match gn.body with
 |some (.seq (.region _ ops false) rest)=>match ops.toList with
  |o::os=>cond (Nat.ble C.an st.sx) (G4 o (caps.length+(gn.ntmps -caps.length)) λd=>
   tW C.X C.pt (caps.length+(gn.ntmps -caps.length)) ops os ⟨(lP caps 0 .nil).set d rv,st.h,st.sx⟩ λq st1=>An q
    (dn {C with n:=caps.length+(gn.ntmps -caps.length),rs:=[],lv:=lvg,jv:=jvg,un:=ung,df:=true,an:=st.sx,fG:=λ_ st2=>K ⟨st.tm,st2.h,st2.sx⟩,jB:=λ_ _=>bq 62} 100000 [] [.code rest] st1)) (bq 61)
  |[]=>bq 63
 |_=>bq 64
noncomputable def sV(C:Ctx β)(st:St):Option β:=qR C.X.T st C.rs (vH C.fG st)
noncomputable def zp(C:Ctx β)(g:FuncId)(gn:Func)(lvg jvg:Nat->Option ca)(ung:Nat->Bool)(body:Code)(st:St):Option β:=match body with
 | .seq (.region _ ops0 false) (.seq (.region _ ops1 false) rest)=>tW C.X C.pt C.n ops0 ops0.toList st λq st1=>An q (match ops1.toList with
  |[o1,o2]=>match o1.guard with
   |none=>zq C.n o1 (wJ C.X C.pt st1 o1 λq st2=>An q (Ew o2 λt=>ob (st2.tm.get t) λfv=>match fv with
    | .fn g' caps=>cond (Nat.beq g' g&&(Nat.blt g' 65536&&Nat.ble C.an st2.sx)) (dn {C with df:=true,an:=st2.sx,fG:=λ_ st3=>qJ C gn lvg jvg ung caps .ni st3 (sV C),jB:=λrv st3=>qJ C gn lvg jvg ung caps rv st3 (sV C)} 100000 [] [.code rest] st2) (bq 65)
    |_=>bq 66))
   |some _=>bq 68
  |_=>bq 69)
 |_=>bq 67
end
theorem Mem.KD{B:Bs}{σ:Ren}{h:Tr SO}{sx:Nat}{w:World}(M:gD B σ h sx w){n:Nat}{cO:List Deferred}:gD ⟨B.w,B.own,σ.lit,sx,σ.nm,n,cO⟩ σ h sx w:=
 ⟨M.obj,M.inj,M.fresh,M.lit,M.free,M.base,M.owned,λ_ _ _ q=>.inl q,λ_ _ _ q=>q,λ_ _ _ q=>q⟩
theorem Mem.Se{B:Bs}{σ σ':Ren}{h:Tr SO}{sx:Nat}{w w':World}{G:Nat->SO->Prop}{F:Nat->Prop}(M:gD B σ h sx w)(ha:B.an<=sx){n:Nat}{cO:List Deferred}(M':Mem ⟨B.w,B.own,σ.lit,sx,σ.nm,n,cO⟩ σ' G F w'):Ext σ σ'/\Mem B σ' G F w':=by
 have E:Ext σ σ':=⟨λid x e=>M'.iD id (Nat.not_le.1 λq=>by rw[M.fresh id q] at e;cases e) x e,M'.kH⟩
 refine⟨E,M'.obj,M'.inj,M'.fresh,M'.lit,M'.free,M'.base,M'.owned,λb i v q=>?_,λk hk x hx=>E.nm _ _ (M.iD k hk x hx),λb i v q=>E.lit b i v (M.kH b i v q)⟩
 rcases M'.jD b i v q with k|k
 ·exact M.jD b i v k
 ·exact .inr k
theorem AJ{P:Program}{ops:Array Oper}{Q:Exit->Act->List Frame->World->Prop}{cs:List Frame}(hQ:∀a w,¬Q .outgrown a cs w):∀(l:List Nat){a:Act}{w:World},wpOps P ops (λe a w=>Q e a cs w) l a w->wpOpsS P ops Q l a cs w
 |[],a,w,h=>h
 |i::l,a,w,h=>by
  unfold wpOps at h
  unfold wpOpsS
  split at h
  ·rename_i ho
   simp only[ho]
   exact AJ hQ l h
  ·rename_i o ho
   simp only[ho]
   split at h
   ·rename_i hw
    simp only[hw,if_true]
    rcases h with h|⟨_,a',w',q⟩
    ·have h:=Oper.wp_mono (K':=λa w=>wpOpsS P ops Q l a cs w) (λa w h=>AJ hQ l h) h
     unfold Oper.wp at h
     split
     ·rename_i w' hr
      rw[hr] at h
      exact h.elim
     ·exact h
    ·exact(hQ _ _ q).elim
   ·rename_i hw
    simp only[hw]
    exact AJ hQ l h
section
variable[QF]
theorem Tb{P:Program}{C:Ctx β}(OK:gP P C.X)(mx:P.follows .mixedOrders=true)(PT:mM P C.pt){g:FuncId}{gn:Func}(hG:C.X.F.get g=some gn)(hres:gn.results.toList=[]){lvg jvg:Nat->Option ca}{ung:Nat->Bool}{caps:List SV}{cv:Array Value}{rv:SV}{st:St}{K:St->Option β}{b:β}
 (e:qJ C gn lvg jvg ung caps rv st K=some b) {B:Bs} (ha:B.an=C.an) {σ:Ren} {a:Act} {w:World} {u:FrameMode} (hm:(u=.returning/\rv=.ni)\/∃v,u=.panicking [pe v]/\DV σ rv v) (R:dJ B σ st a w) (d:dF σ caps cv.toList):
 CallsD P g cv u w λe u' w'=>∃v,e=.returned v/\settle u'=.returning/\∃st',K st'=some b/\∃σ',dJ B σ' st' a w':=by
 unfold qJ at e
 split at e
 case h_2=>cases e
 rename_i id ops rest hb
 split at e
 case h_2=>cases e
 rename_i o os hops
 obtain⟨han,e⟩:=aR e
 have han:=Nat.le_of_ble_eq_true han
 obtain⟨dR,e,hdst,hlt,hgd,c,hop,hcal,harg⟩:=ZQ e
 have hlen:cv.size=caps.length:=by rw[<-Array.length_toList];exact d.1.symm
 have ho:ops[0]? =some o:=by rw[<-Array.getElem?_toList,hops];rfl
 have hrg:List.range ops.size=0::List.range' 1 os.length:=by
  rw[List.range_eq_range',show ops.size=os.length+1 by rw[<-Array.length_toList,hops];rfl,List.range'_succ]
 refine callsD_of_wpS (OK.F _ _ hG).1 hb λc₀ cs hu=>wpS_seq (wpS_region ?_)
 rw[hrg]
 let a0:Act:={tmps:=cv++Array.replicate (gn.ntmps -cv.size) undef,defers:=[]}
 have hsz:a0.tmps.size=caps.length+(gn.ntmps -caps.length):=by simp[a0,hlen]
 obtain⟨q,st1,e1,G⟩:=xk OK PT os 1 (λi o' hi=>by rw[<-Array.getElem?_toList,hops,Nat.add_comm];exact hi) _ _ _ e
 obtain⟨rfl,e2⟩:=F4 e1
 have run:(execOp a0.eval o).run P w=.ok .recover w:=by
  have:c.args=#[]:=by simpa using harg
  unfold execOp resolve
  simp only[hop,hcal,this]
  rfl
 have key:∀(y:Value)(u':FrameMode),settle u'=.returning->DV σ rv y->wpOpsS P ops (Exit.thenS (rest.wpS P (bodyPostS P gn c₀ cs λe u' w'=>∃v,e=.returned v/\settle u'=.returning/\∃st',K st'=some b/\∃σ',dJ B σ' st' a w')) (bodyPostS P gn c₀ cs λe u' w'=>∃v,e=.returned v/\settle u'=.returning/\∃st',K st'=some b/\∃σ',dJ B σ' st' a w')) (List.range' 1 os.length) (a0.put o.dst y) ({c₀ with mode:=u'}::cs) w:=by
  intro y u' hu' dy
  let B2:Bs:=⟨B.w,B.own,σ.lit,st.sx,σ.nm,caps.length+(gn.ntmps -caps.length),[]⟩
  refine AJ (λa w q=>by obtain⟨_,_,h,_⟩:=q;cases h) _ (G (B:=B2) (σ:=σ) rfl ⟨by rw[hdst];simp[Act.put,hsz,B2],by rw[hdst];rfl,?_,R.mem.KD⟩ _ ?_)
  ·rw[hdst]
   exact(pB (ye d (cO:=[]))).put (Ext.refl _) (d:=some dR) (λk hk=>by cases hk;show dR<a0.tmps.size;rw[hsz];exact eu hlt) dy
  ·intro σ1 a1 w1 R1
   refine wpS_of_wp (wp_mono (λb k cs=>(pg (fn:=gn) (B:=B2) (C:={C with n:=caps.length+(gn.ntmps -caps.length),rs:=[],lv:=lvg,jv:=jvg,un:=ung,df:=true,an:=st.sx,fG:=λ_ st2=>K ⟨st.tm,st2.h,st2.sx⟩,jB:=λ_ _=>bq 62}) OK mx PT hres rfl rfl _ _ _ _ _ e2 (λr hr=>by cases hr) R1) b k cs) λx a2 w2 q=>?_)
   have fin2:(∃σ2 st2 sv,dJ B2 σ2 st2 a2 w2/\K ⟨st.tm,st2.h,st2.sx⟩=some b/\sv=SV.aC [])->a2.defers=[]/\∃u2,({c₀ with mode:=u'}:Frame)::cs={c₀ with mode:=u2}::cs/\∃v,(results gn a2.tmps).run P w2=.ok v w2/\∃v2,Ending.returned v=.returned v2/\settle u2=.returning/\∃st',K st'=some b/\∃σ',dJ B σ' st' a w2:=λ⟨σ2,st2,_,r,kr,_⟩=>by
    obtain⟨E,M⟩:=R.mem.Se (ha▸han) r.mem
    refine⟨r.cO,u',rfl,.tuple #[],?_,_,rfl,hu',_,kr,σ2,R.size,R.cO,λt sv h=>(R.ev t sv h).mono E,M⟩
    have:gn.results=#[]:=by simpa using hres
    simp[results,this]
   cases x with
   |normal=>exact fin2 q
   |ret=>exact fin2 q
   |panic ch=>obtain⟨_,_,_,_,_,kp,_⟩:=q;cases kp
   |_=>exact q.elim
 unfold wpOpsS
 have hw:Region.wanted o (yielded ops a0.tmps)=true:=by unfold Region.wanted;rw[hgd]
 simp only[ho]
 rw[if_pos hw]
 rcases hm with⟨rfl,rfl⟩|⟨v,rfl,dv⟩
 ·have hr:recoverD (c₀::cs)=none:=by unfold recoverD;simp only[hu]
  have hc:({c₀ with mode:=.returning}:Frame)=c₀:=by rw[<-hu]
  have:=key .nilIface .returning rfl .ni
  rw[hc] at this
  rw[show(execOp ({tmps:=cv++Array.replicate (gn.ntmps -cv.size) undef,defers:=[]}:Act).eval o).run P w=.ok .recover w from run]
  simp only[hr]
  exact this
 ·have hr:recoverD (c₀::cs)=some (v,{c₀ with mode:=.panicking [{v:=v,recovered:=true}]}::cs):=by unfold recoverD;simp only[hu,pe]
  rw[show(execOp ({tmps:=cv++Array.replicate (gn.ntmps -cv.size) undef,defers:=[]}:Act).eval o).run P w=.ok .recover w from run]
  simp only[hr]
  exact key v _ rfl dv
theorem Lk{P:Program}{C:Ctx β}(OK:gP P C.X)(mx:P.follows .mixedOrders=true)(PT:mM P C.pt){f:FuncId}{fn:Func}(hF:P.funcs[f]? =some fn){body:Code}(hb:fn.body=some body)(hrs:fn.results.toList=C.rs)(hdf:C.df=false){g:FuncId}{gn:Func}(hG:C.X.F.get g=some gn)(hres:gn.results.toList=[]){lvg jvg:Nat->Option ca}{ung:Nat->Bool}{st:St}{b:β}
 (e:zp C g gn lvg jvg ung body st=some b) {B:Bs} (hn:B.n=C.n) (ha:B.an=C.an) (hB:B.cO=[]) {σ:Ren} {args:Array Value} {w:World} (R:dJ B σ st {tmps:=args++Array.replicate (fn.ntmps -args.size) undef,defers:=[]} w) {Rp:Ending->World->Prop}
 (k:∀{σ:Ren}{st:St}{sv:SV}{a:Act}{w':World}{v:Value},dJ B σ st a w'->DV σ sv v->C.fG sv st=some b->Rp (.returned v) w'):Calls P f args w Rp:=by
 unfold zp at e
 split at e
 case h_2=>cases e
 rename_i id0 ops0 id1 ops1 rest
 obtain⟨q,st1,e1,G1⟩:=xk OK PT ops0.toList 0 (λi o ho=>by rw[Nat.zero_add,<-Array.getElem?_toList];exact ho) _ _ _ e
 obtain⟨rfl,e2⟩:=F4 e1
 split at e2
 case h_2=>cases e2
 rename_i o1 o2 hops
 split at e2
 case h_2=>cases e2
 rename_i hg1
 obtain⟨e3,hd1⟩:=Lp e2
 obtain⟨q,sv,st2,e4,hx,ht,D⟩:=Gx OK PT e3
 obtain⟨rfl,e5⟩:=F4 e4
 have ht:st2.tm=iJ st1.tm o1.dst sv:=by rcases ht with h|h;exact h.2;cases h.1
 obtain⟨t,e6,hd2,hg2,c,hop,hcal,harg⟩:=Ty e5
 obtain⟨fv,hfv,e7⟩:=aq e6
 split at e7
 case h_2=>cases e7
 rename_i g' caps
 obtain⟨hq,e8⟩:=aR e7
 simp only[Bool.and_eq_true] at hq
 have hgg:=Nat.eq_of_beq_eq_true hq.1
 have hsm:=eu hq.2.1
 have han:=Nat.le_of_ble_eq_true hq.2.2
 subst hgg
 have ho1:ops1[0]? =some o1:=by rw[<-Array.getElem?_toList,hops];rfl
 have ho2:ops1[1]? =some o2:=by rw[<-Array.getElem?_toList,hops];rfl
 have hrg1:List.range ops1.size=[0,1]:=by
  rw[show ops1.size=2 by rw[<-Array.length_toList,hops];rfl];rfl
 have leave:∀{σ:Ren}{st:St}{a:Act}{w:World},sV C st=some b->dJ B σ st a w->Leaves P fn a.tmps Rp [] .returning w:=λ{σ st a w} h R=>by
  obtain⟨σ',st',sv,R',kr,q⟩:=E5 (fn:=fn) OK.T hrs (st:=st) (b:=b) (by rw[hdf];exact h) R
  rw[hdf] at q
  obtain⟨v,q1,q2⟩:=q
  exact⟨v,q1,k R' q2 kr⟩
 have G:ku P [.code (.seq (.region id0 ops0 false) (.seq (.region id1 ops1 false) rest))] (λe a w=>bodyPostD P fn Rp e a w) {tmps:=args++Array.replicate (fn.ntmps -args.size) undef,defers:=[]} w:=by
  refine .step (T':=[.code (.region id0 ops0 false),.code (.seq (.region id1 ops1 false) rest)]) (λ_ _ _=>step_seq) (.code (wp_region ?_))
  rw[(show List.range ops0.size=List.range' 0 ops0.toList.length from by rw[List.range_eq_range'];simp)]
  refine G1 hn R _ λσ1 a1 w1 R1=>?_
  refine .step (T':=[.code (.region id1 ops1 false),.code rest]) (λ_ _ _=>step_seq) (.code (wp_region ?_))
  rw[hrg1,wpOps_cons]
  have hw1:Region.wanted o1 (yielded ops1 a1.tmps)=true:=by unfold Region.wanted;rw[hg1]
  unfold wpOp
  simp only[ho1,hw1,if_true]
  refine .inl (D a1 R1.ev (λ_ h _=>h) R1.mem _ _ λσ2 v w2 E dv M=>?_)
  have R2:dJ B σ2 st2 (a1.put o1.dst v) w2:=by
   have:=R1.put E (gD.next hx M) (λk hk=>by rw[hn];exact hd1 k hk) dv
   rwa[<-ht] at this
  generalize a1.put o1.dst v=a2 at R2
  have hw2:Region.wanted o2 (yielded ops1 a2.tmps)=true:=by unfold Region.wanted;rw[hg2]
  have dfv:=R2.ev t _ hfv
  generalize hfx:a2.eval (.tmp t)=fx at dfv
  cases dfv with
  |fn hl hr=>
  rename_i cv
  rw[Fa hsm] at hfx
  have dcv:dF σ2 caps cv:=⟨hl,hr⟩
  let d:Deferred:={target:=.fn (.func g') ⟨cv⟩,args:=#[]}
  have run:(execOp a2.eval o2).run P w2=.ok (.defer d) w2:=by
   have:c.args=#[]:=by simpa using harg
   unfold execOp resolve
   simp[hop,hcal,this,hfx,Deferred.ofValue,d]
  rw[wpOps_cons]
  unfold wpOp
  simp only[ho2,hw2,if_true]
  refine .inl ?_
  unfold Oper.wp
  rw[run,Oper.upon_defer,hd2,R2.cO,hB]
  show ku P [.code rest] _ {tmps:=a2.tmps,defers:=[d]} w2
  let B2:Bs:=⟨B.w,B.own,σ2.lit,st2.sx,σ2.nm,B.n,[d]⟩
  have inv:∀w,(invoke d.target d.args).run P w=.ok (.enter g' ⟨cv⟩) w:=λw=>by
   obtain⟨f1,f2,f3⟩:=OK.F _ _ hG
   have h4:gn.body.isNone=false:=by cases hb:gn.body with
    |none=>rw[hb] at f3;cases f3
    |some b=>rfl
   unfold invoke callFunc
   simp only[d,Sem.run_bind,run_program,Result.andThen_ok,f1,f2,h4,Bool.false_eq_true,if_false,Sem.run_pure]
   simp
  have dn2:=pg (fn:=fn) (B:=B2) (C:={C with df:=true,an:=st2.sx,fG:=λ_ st3=>qJ C gn lvg jvg ung caps .ni st3 (sV C),jB:=λrv st3=>qJ C gn lvg jvg ung caps rv st3 (sV C)}) OK mx PT hrs hn rfl _ _ _ _ _ e8 (λr hr=>by cases hr) (σ:=σ2) (a:={tmps:=a2.tmps,defers:=[d]}) (w:=w2) ⟨R2.size,rfl,R2.ev,R2.mem.KD⟩
  have last:∀{u:FrameMode}{σ3:Ren}{st3:St}{rv:SV}{a3:Act}{w3:World},u≠.run->(u=.returning/\rv=.ni)\/(∃v,u=.panicking [pe v]/\DV σ3 rv v)->qJ C gn lvg jvg ung caps rv st3 (sV C)=some b->dJ B2 σ3 st3 a3 w3->Leaves P fn a3.tmps Rp a3.defers u w3:=by
   intro u σ3 st3 rv a3 w3 hu hm kr R3
   obtain⟨E3,M3⟩:=R2.mem.Se (ha▸han) R3.mem
   rw[R3.cO]
   have Rx:dJ B σ3 st3 {tmps:=a3.tmps,defers:=[]} w3:=⟨R3.size,hB.symm,R3.ev,M3⟩
   refine leaves_cons hu (inv w3) (CallsD.mono (Tb OK mx PT hG hres kr ha hm Rx (show dF σ3 caps (⟨cv⟩:Array Value).toList from dcv.mono E3)) λx u' w' ⟨v,h1,h2,st',h3,σ',R'⟩=>?_)
   subst h1
   show Leaves P fn a3.tmps Rp [] (settle u') w'
   rw[h2]
   exact leave (a:={tmps:=a3.tmps,defers:=[]}) h3 R'
  intro b0 k0 cs0
  obtain⟨x,a3,w3,q,arr⟩:=dn2 b0 k0 cs0
  refine⟨x,a3,w3,?_,arr⟩
  cases x with
  |normal=>obtain⟨σ3,st3,sv3,R3,kr,_⟩:=q;exact last (by simp) (.inl ⟨rfl,rfl⟩) kr R3
  |ret=>obtain⟨σ3,st3,sv3,R3,kr,_⟩:=q;exact last (by simp) (.inl ⟨rfl,rfl⟩) kr R3
  |panic ch=>obtain⟨σ3,st3,sv3,v3,R3,kr,rfl,dv3⟩:=q;exact last (by simp) (.inr ⟨v3,rfl,dv3⟩) kr R3
  |_=>exact q.elim
 exact calls_of_wp_defers hF hb λb k cs=>G b k cs
end
end
section
set_option linter.unusedVariables false
set_option linter.unusedSimpArgs false
set_option linter.unusedSectionVars false
set_option linter.constructorNameAsVariable false
variable[QF]
noncomputable def SJ{β:Type}(C:Ctx β)(g:FuncId)(gn:Func)(lvg jvg:Nat->Option ca)(ung:Nat->Bool)(avt:List VT)(body:Code)(ls:List bd):Option β:=
 ob (rX avt ls) λq=>zp C g gn lvg jvg ung body ⟨lP q.1 0 .nil,.nil,0⟩
noncomputable def SL(w:Nat)(X:dL)(pt:(β:Type)->FuncId->Option (cd β))(fn:Func)(g:FuncId)(gn:Func)(avt:List VT)(rvt:VT)(lv jv:Nat->Option ca)(un:Nat->Bool)(lvg jvg:Nat->Option ca)(ung:Nat->Bool):Fn (VT.dW avt) (Option (bo rvt.ks)):=
 jx (VT.dW avt) (SJ {X:=X,pt:=pt _,n:=avt.length+(fn.ntmps -avt.length),rs:=fn.results.toList,lv:=lv,jv:=jv,un:=un,df:=false,fuel:=w,an:=0,fG:=λsv st=>vL st rvt sv (dec rvt.ks),jB:=λ_ _=>none} g gn lvg jvg ung avt (fn.body.getD .skip))
theorem Uh{P:Program}{X:dL}(OK:gP P X)(mx:P.follows .mixedOrders=true){pt:(β:Type)->FuncId->Option (cd β)}(PT:gO P pt){f:FuncId}{fn:Func}{g:FuncId}{gn:Func}{avt:List VT}{rvt:VT}{lv jv:Nat->Option ca}{un:Nat->Bool}{lvg jvg:Nat->Option ca}{ung:Nat->Bool}{w:Nat}{Sh:Fn (VT.dW avt) (Option (bo rvt.ks))}
 (hF:X.F.get f=some fn) (hb:fn.body=some (fn.body.getD .skip)) (hG:X.F.get g=some gn) (hres:gn.results.toList=[]) (hS:Sh=SL w X pt fn g gn avt rvt lv jv un lvg jvg ung):bZ P f avt rvt Sh:=by
 intro ls r e lo us hu m args' w0 K A
 subst hS
 have e1:=kx _ _ _ _ e
 obtain⟨⟨svs,rest⟩,h1,e2⟩:=aq e1
 obtain⟨_,q1,_⟩:=sQ avt ls _ _ _ _ lo hu h1
 have hl:args'.size=avt.length:=by rw[<-EA _ _ _ _ hu,<-Array.length_toList];exact A.1.symm
 refine Lk (B:=⟨w0,λ_=>False,m,0,λ_=>none,avt.length+(fn.ntmps -avt.length),[]⟩) OK mx (PT _) (OK.F _ _ hF).1 hb rfl rfl hG hres e2 rfl rfl rfl (σ:=⟨λ_=>none,m⟩) ⟨by simp[hl],rfl,pB (ye (q1 A) (cO:=[])),Mem.start K⟩ λR d kr=>?_
 obtain⟨ls',f1,f3⟩:=Fc _ _ _ _ kr
 obtain⟨pv,g1,g3⟩:=f3 []
 rw[List.append_nil,<-mT _ _ _ f1] at g1
 obtain⟨z1,z2⟩:=g3 (Mem.Qm K R.mem) d
 rw[<-mT _ _ _ f1] at z2
 exact⟨_,rfl,R.mem.base.below,pv,g1,z2,z1⟩
noncomputable def SK(w:Nat)(X:dL)(pt:(β:Type)->FuncId->Option (cd β))(fn:Func)(g:FuncId)(gn:Func)(T:HT)(lv jv:Nat->Option ca)(un:Nat->Bool)(lvg jvg:Nat->Option ca)(ung:Nat->Bool):Fn T.ti.ks (Option (bo T.to.ks)):=
 jx T.ti.ks λls=>ob (fI T.ti ls) λst=>zp {X:=X,pt:=pt _,n:=T.n+(fn.ntmps -T.n),rs:=fn.results.toList,lv:=lv,jv:=jv,un:=un,df:=false,fuel:=w,an:=T.an,fG:=λsv st=>iU T.an T.to ⟨Tr.nil.set 0 sv,st.h,st.sx⟩ (dec T.to.ks),jB:=λ_ _=>bq 52} g gn lvg jvg ung (fn.body.getD .skip) st
theorem Ui{P:Program}{X:dL}(OK:gP P X)(mx:P.follows .mixedOrders=true){pt:(β:Type)->FuncId->Option (cd β)}(PT:gO P pt){f:FuncId}{fn:Func}{g:FuncId}{gn:Func}{T:HT}{lv jv:Nat->Option ca}{un:Nat->Bool}{lvg jvg:Nat->Option ca}{ung:Nat->Bool}{w:Nat}{Sh:Fn T.ti.ks (Option (bo T.to.ks))}
 (hF:X.F.get f=some fn) (hb:fn.body=some (fn.body.getD .skip)) (hG:X.F.get g=some gn) (hres:gn.results.toList=[]) (hS:Sh=SK w X pt fn g gn T lv jv un lvg jvg ung):jt P f T Sh:=by
 intro ls r st so e hst hso B σ w0 args' hn ha ev M
 subst hS
 have e1:=kx _ _ _ _ e
 obtain⟨st1,g1,e2⟩:=aq e1
 rw[hst] at g1
 cases g1
 refine Lk (B:={B with n:=T.n+(fn.ntmps -T.n),cO:=[]}) OK mx (PT _) (OK.F _ _ hF).1 hb rfl rfl hG hres e2 rfl ha rfl ⟨by simp[hn],rfl,pB ev,M.nd⟩ λR d kr=>?_
 obtain⟨σ3,z1,z2⟩:=tL (B:=B) (by rw[ha];exact kr) (λls q=>mT _ _ _ q) hso d R.mem.nd
 exact⟨σ3,_,rfl,z1,z2⟩
end
section
set_option linter.unusedVariables false
set_option linter.unusedSimpArgs false
set_option linter.unusedSectionVars false
set_option linter.constructorNameAsVariable false
theorem zi{a b:Bool}(h:cond a b false=true):a=true/\b=true:=zh h
theorem zS{P:Program}{t:Nat}{inf:TypeInfo}(h:P.types[t]? =some inf):P.info? t=some inf:=by
 unfold Tables.info?
 grind
def yB(P:Program)(t:Nat):Prop:=(∃k,P.underlying t=some (.int k))/\∃inf,P.info? t=some inf/\inf.size=1
def zJ:List Field->Nat->(Nat->Bool)->Bool
 |[],_,_=>true
 |f::fs,n,ints=>cond (f.name== "_") false (cond (Nat.beq f.offset n) (cond (ints f.type) (zJ fs (n+1) ints) false) false)
theorem Me{P:Program}{ints:Nat->Bool}(hi:∀t,ints t=true->yB P t):∀(fs:List Field)(n:Nat),zJ fs n ints=true->∀(i:Nat)(f:Field),fs[i]? =some f->f.name≠ "_"/\f.offset=n+i/\yB P f.type
 |[],n,_,i,f,h=>by grind
 |g::fs,n,e,i,f,h=>by
  unfold zJ at e
  cases hn:(g.name== "_") with
  |true=>grind
  |false=>
   simp only[hn] at e
   obtain⟨e1,e2⟩:=zi e
   obtain⟨e3,e4⟩:=zi e2
   cases i with
   |zero=>
    simp_all
   |succ i=>
    obtain⟨a,b,c⟩:=Me hi fs (n+1) e4 i f (by grind)
    grind
def E7(ints:Nat->Bool)(n:Nat):TypeDesc->Bool
 | .struct fs=>cond (Nat.beq fs.toList.length n) (zJ fs.toList 0 ints) false
 | .array len e=>cond (Nat.beq len n) (ints e) false
 |_=>false
theorem Ue{P:Program}{ints:Nat->Bool}(hi:∀t,ints t=true->yB P t){n:Nat}{d:TypeDesc}(h:E7 ints n d=true):uW P n d:=by
 unfold E7 at h
 split at h
 ·rename_i fs
  obtain⟨h1,h2⟩:=zi h
  have:=Nat.eq_of_beq_eq_true h1
  refine⟨by simpa using this,λi f hf=>?_⟩
  obtain⟨a,b,c⟩:=Me hi _ _ h2 i f (by grind)
  exact⟨a,by omega,c⟩
 ·rename_i len e
  obtain⟨h1,h2⟩:=zi h
  exact⟨Nat.eq_of_beq_eq_true h1,hi _ h2⟩
 grind
def pN{α:Type}:List (Nat×α)->Tr α
 |[]=>.nil
 |(n,x)::l=>(pN l).set n x
theorem wB{α:Type}:∀{l:List (Nat×α)}{n:Nat}{x:α},(pN l).get n=some x->(n,x)∈l
 |[],n,x,h=>by rw[pN,Tr.get_nil] at h;cases h
 |(m,y)::l,n,x,h=>by
  rw[pN,Tr.eW] at h
  by_cases e:n=m
  ·grind
  ·rw[if_neg e] at h;exact List.mem_cons_of_mem _ (wB h)
structure Kr(P:Program)(t:Nat)(i:gE):Prop where
 under:P.underlying t=some i.desc
 info:∃inf,P.info? t=some inf/\inf.size=i.size/\inf.bytes=i.bytes/\∀z,i.zero=some z->inf.zero=some z
 flat:i.flat=true->P.eqGuardType P.depth t=false/\P.stoodInHeld t=false/\uW P i.size i.desc
theorem adi{P:Program}{T:TT}{F:FT}{lT:List (Nat×gE)}{lF:List (Nat×Func)}(eT:T=pN lT)(eF:F=pN lF)(hT:∀p∈lT,Kr P p.1 p.2)(hF:∀p∈lF,P.funcs[p.1]? =some p.2 /\(p.2.name== "runtime.NumGoroutine")=false/\p.2.body.isSome=true):gP P ⟨T,F⟩:=by
 subst eT eF
 exact⟨⟨λt i h=>(hT _ (wB h)).under,λt i h=>(hT _ (wB h)).info,λt i h=>(hT _ (wB h)).flat⟩,λf fn h=>hF _ (wB h)⟩
end
section
set_option linter.unusedVariables false
set_option linter.unusedSimpArgs false
set_option linter.unusedSectionVars false
set_option linter.constructorNameAsVariable false
variable{β:Type}
theorem zP{x:SV}{id:Nat}(h:id∈SV.ids x):∀{l:List SV},x∈l->id∈SV.iu l
 |y::l,hx=>by
  unfold SV.iu
  rcases List.mem_cons.1 hx with rfl|hx
  ·exact List.mem_append_left _ h
  ·exact List.mem_append_right _ (zP h hx)
theorem DV.via{σ σ':Ren}(hl:σ'.lit=σ.lit){x:SV}{v:Value}(d:DV σ x v):(∀id∈SV.ids x,∀z,σ.nm id=some z->σ'.nm id=some z)->DV σ' x v:=by
 have sub:∀{l:List SV}{i:Nat}{x:SV}{p:Nat->Prop},(∀id∈SV.iu l,p id)->l[i]? =some x->∀id∈SV.ids x,p id:=λh e id q=>h id (zP q (List.mem_of_getElem? e))
 induction d with
 |i=>exactλ_=>.i _ _
 |b=>exactλ_=>.b _
 |s=>exactλ_=>.s _
 |v h h1=>exactλ_=>.v (hl▸h) h1
 |nl=>exactλ_=>.nl
 |agg kl _ ih=>exactλp=>.agg kl λi x y a b=>ih i x y a b (sub (by unfold SV.ids at p;exact p) a)
 |aC kl _ ih=>exactλp=>.aC kl λi x y a b=>ih i x y a b (sub (by unfold SV.ids at p;exact p) a)
 |ptr h=>exactλp=>.ptr (p _ (by unfold SV.ids;simp) _ h)
 |lp h=>exactλ_=>.lp (hl▸h)
 |sl h hn=>exactλp=>.sl (p _ (by unfold SV.ids;simp) _ h) hn
 |gR h=>exactλp=>.gR (p _ (by unfold SV.ids;simp) _ h)
 |gr h hc hn=>exactλp=>.gr (p _ (by unfold SV.ids;simp) _ h) hc hn
 |fn kl _ ih=>exactλp=>.fn kl λi x y a b=>ih i x y a b (sub (by unfold SV.ids at p;exact p) a)
 |ea _ ih=>exactλp=>.ea (ih (by unfold SV.ids at p;exact p))
 |em h=>exactλ_=>.em (hl▸h)
 |ni=>exactλ_=>.ni
 |mp h=>exactλp=>.mp (p _ (by unfold SV.ids;simp) _ h)
def yf(p:Nat->Bool):SO->Bool
 | .cells c _=>(SV.iu c).all p
 | .mp es=>es.all λe=>(SV.ids e.2).all p
 |_=>true
theorem DO.via{σ σ':Ren}(hl:σ'.lit=σ.lit){w:World}{id:Nat}{so:SO}(d:DO σ w id so){p:Nat->Bool}(h:∀id,p id=true->∀z,σ.nm id=some z->σ'.nm id=some z)(hi:p id=true)(hs:yf p so=true):DO σ' w id so:=by
 have e:=h id hi
 cases so with
 |cells c t=>
  obtain⟨o,n,vs,a,b,c⟩:=d
  exact⟨o,n,vs,e _ a,b,c.1,λi x y h1 h2=>(c.2 i x y h1 h2).via hl λk hk=>h k (List.all_eq_true.1 hs k (zP hk (List.mem_of_getElem? h1)))⟩
 |arr c t=>obtain⟨o,n,vs,a,b,c⟩:=d;exact⟨o,n,vs,e _ a,b,hl▸c⟩
 |grow E c t=>
  obtain⟨a,q,g⟩:=d
  refine⟨a,q,?_⟩
  rcases g with⟨g,k⟩|⟨o,n,cs,g,k⟩
  ·exact .inl ⟨e _ g,k⟩
  ·exact .inr ⟨o,n,cs,e _ g,hl▸k⟩
 |mp es=>
  obtain⟨o,n,es',ck,a,b,c⟩:=d
  exact⟨o,n,es',ck,e _ a,b,c.1,λi x y h1 h2=>have q:=c.2 i x y h1 h2;⟨q.1,q.2.via hl λk hk=>h k (List.all_eq_true.1 (List.all_eq_true.1 hs x (List.mem_of_getElem? h1)) k hk)⟩⟩
def oi(f:Nat->SO->Bool):Tr SO->Nat->Nat->Bool
 | .nil,_,_=>true
 | .node v l r,a,b=>(match v with|some x=>f b x|none=>true)&&(oi f l (2*a) (a+b)&&oi f r (2*a) (2*a+b))
theorem D9{f:Nat->SO->Bool}:∀(p:gN){t:Tr SO}{a b:Nat}{x:SO},oi f t a b=true->walk p t=some x->f (a*p.num+b) x=true
 |p,.nil,a,b,x,h,e=>by rw[Dw] at e;cases e
 | .z,.node v l r,a,b,x,h,e=>by
  unfold oi at h
  rw[Bool.and_eq_true] at h
  cases v with
  |none=>cases e
  |some y=>
   have e:some y=some x:=e
   cases e
   rw[show a*gN.z.num+b=b by unfold gN.num;omega]
   exact h.1
 | .l p,.node v l r,a,b,x,h,e=>by
  unfold oi at h
  rw[Bool.and_eq_true,Bool.and_eq_true] at h
  have:=D9 p h.2.1 (show walk p l=some x from e)
  rw[show a*(gN.l p).num+b=2*a*p.num+(a+b) by show a*(2*p.num+1)+b=_;rw[Nat.mul_add,<-Nat.mul_assoc,Nat.mul_comm a 2];omega]
  exact this
 | .r p,.node v l r,a,b,x,h,e=>by
  unfold oi at h
  rw[Bool.and_eq_true,Bool.and_eq_true] at h
  have:=D9 p h.2.2 (show walk p r=some x from e)
  rw[show a*(gN.r p).num+b=2*a*p.num+(2*a+b) by show a*(2*p.num+2)+b=_;rw[Nat.mul_add,<-Nat.mul_assoc,Nat.mul_comm a 2];omega]
  exact this
theorem KC{f:Nat->SO->Bool}{t:Tr SO}(h:oi f t 1 0=true){n:Nat}{x:SO}(e:t.get n=some x):f n x=true:=by
 have:=D9 (oG n) h e
 rwa[show(oG n).num=n from wP _ _ (Nat.lt_succ_self _),Nat.one_mul,Nat.add_zero] at this
def mZ(h:Tr SO)(i:Nat):Bool:=match h.get i with
 |some _=>true
 |none=>false
def q9(h:Tr SO)(sx i:Nat):Bool:=Nat.ble sx i||mZ h i
section
variable[QF]
noncomputable def ML(X:dL)(pt:(β:Type)->FuncId->Option (cd β))(fn:Func)(lv jv:Nat->Option ca)(un:Nat->Bool)(w n sx:Nat):Ctx (Bool×SV×St):=
 {X:=X,pt:=pt _,n:=n+(fn.ntmps -n),rs:=fn.results.toList,lv:=lv,jv:=jv,un:=un,df:=false,fuel:=w,an:=sx,fG:=λsv st=>some (false,sv,st),jB:=λsv st=>some (true,sv,st)}
noncomputable def inl(X:dL)(pt:(β:Type)->FuncId->Option (cd β))(fn:Func)(lv jv:Nat->Option ca)(un:Nat->Bool)(w:Nat):cd β:=λst args K=>
 cond (oi (λi so=>Nat.blt i st.sx&&yf (mZ st.h) so) st.h 1 0&&(SV.iu args).all (mZ st.h))
  (ob (dn (ML X pt fn lv jv un w args.length st.sx) 100000 [] [.code (fn.body.getD .skip)] ⟨lP args 0 .nil,st.h,st.sx⟩) λr=>
   cond (Nat.ble st.sx r.2.2.sx&&(oi (λi so=>q9 st.h st.sx i&&yf (q9 st.h st.sx) so) r.2.2.h 1 0&&(SV.ids r.2.1).all (q9 st.h st.sx)))
    (K r.1 r.2.1 ⟨st.tm,r.2.2.h,r.2.2.sx⟩) (bq 81)) (bq 82)
theorem UP{P:Program}{X:dL}(OK:gP P X)(mx:P.follows .mixedOrders=true){pt:(β:Type)->FuncId->Option (cd β)}(PT:gO P pt){g:FuncId}{fn:Func}(hF:X.F.get g=some fn)(hb:fn.body=some (fn.body.getD .skip)){lv jv:Nat->Option ca}{un:Nat->Bool}{w:Nat}:jN P g (inl (β:=β) X pt fn lv jv un w):=by
 intro st args K b e
 obtain⟨c0,e⟩:=aR e
 obtain⟨⟨p,sv,st'⟩,e1,e⟩:=aq e
 obtain⟨c1,e⟩:=aR e
 simp only[Bool.and_eq_true] at c0 c1
 obtain⟨c2,c3⟩:=c0
 obtain⟨c4,c5,c6⟩:=c1
 have hx:st.sx<=st'.sx:=Nat.le_of_ble_eq_true c4
 refine⟨p,sv,_,e,rfl,hx,λ{B σ F w0} hN M args' d=>?_⟩
 have lv0:∀{id so},st.h.get id=some so->mZ st.h id=true:=λh=>by unfold mZ;rw[h]
 have lt0:∀{id so},st.h.get id=some so->id<st.sx/\yf (mZ st.h) so=true:=λh=>by
  have:=KC c2 h
  rw[Bool.and_eq_true] at this
  exact⟨eu this.1,this.2⟩
 let σ0:Ren:=⟨λid=>if mZ st.h id then σ.nm id else none,σ.lit⟩
 have to0:∀id,mZ st.h id=true->∀z,σ.nm id=some z->σ0.nm id=some z:=λid h z hz=>by show(if _ then _ else _)=_;rw[if_pos h];exact hz
 have of0:∀{id z},σ0.nm id=some z->σ.nm id=some z:=λ{id z} h=>by
  replace h:(if mZ st.h id then σ.nm id else none)=some z:=h
  split at h
  ·exact h
  ·cases h
 have AL:∀b,Own σ0 (hG st.h) b->Own σ (hG st.h) b:=λb ⟨i,s,o,n,a,p,q⟩=>⟨i,s,o,n,a,of0 p,q⟩
 let B2:Bs:=⟨w0,Own σ (hG st.h),σ.lit,st.sx,σ0.nm,args.length+(fn.ntmps -args.length),[]⟩
 have fr0:∀id,st.sx<=id->σ0.nm id=none:=λid h=>by
  show(if _ then _ else _)=_
  rw[if_neg]
  intro q
  unfold mZ at q
  split at q
  ·rename_i s hs
   have:=(lt0 hs).1
   omega
  ·cases q
 have M0:gD B2 σ0 st.h st.sx w0:=⟨λid so h=>(M.obj id so h).via (σ:=σ) (σ':=σ0) rfl to0 (lv0 h) (lt0 h).2,λi j s s' o o' n n' a a' p p' q=>M.inj _ _ _ _ _ _ _ _ a a' (of0 p) (of0 p') q,fr0,M.lit,λb i v h q=>M.free b i v h (AL b q),dG.refl _ _,λb q=>.inl (AL b q),λ_ _ _ q=>.inl q,λ_ _ _ q=>q,λ_ _ _ q=>q⟩
 have dv0:dF σ0 args args'.toList:=⟨d.1,λi x y h1 h2=>(d.2 i x y h1 h2).via (σ:=σ) (σ':=σ0) rfl λid hid=>to0 id (List.all_eq_true.1 c3 id (zP hid (List.mem_of_getElem? h1)))⟩
 have hl:args'.size=args.length:=by rw[<-Array.length_toList];exact d.1.symm
 have fin:∀{σ':Ren}{a:Act}{w':World}{v:Value},dJ B2 σ' st' a w'->DV σ' sv v->∃σn v',End p v=End p v'/\Ext σ σn/\DV σn sv v'/\Mem B σn (hG st'.h) (jy F st.sx st'.sx) w':=by
  intro σ' a w' v R dv
  let σn:Ren:=⟨λid=>if st.sx<=id/\id<st'.sx then σ'.nm id else σ.nm id,σ'.lit⟩
  have E:Ext σ σn:=⟨λid x e=>by
   show(if _ then _ else _)=_
   rw[if_neg λq=>by rw[M.fresh id (hN id q.1 q.2)] at e;cases e]
   exact e,R.mem.kH⟩
  have key:∀id,q9 st.h st.sx id=true->∀z,σ'.nm id=some z->σn.nm id=some z:=λid h z hz=>by
   by_cases q:st.sx<=id
   ·have:id<st'.sx:=Nat.not_le.1 λq=>by rw[R.mem.fresh id q] at hz;cases hz
    show(if _ then _ else _)=_
    rw[if_pos ⟨q,this⟩];exact hz
   ·unfold q9 at h
    rw[Bool.or_eq_true] at h
    rcases h with h|h
    ·exact absurd (Nat.le_of_ble_eq_true h) q
    ·have ex:∃so,st.h.get id=some so:=by
      unfold mZ at h
      split at h
      ·rename_i s hs;exact⟨s,hs⟩
      ·cases h
     obtain⟨so,hso⟩:=ex
     have hy:∃y,σ.nm id=some y:=(M.obj id so hso).nm.elim (λq=>⟨_,q⟩) λ⟨_,_,q,_⟩=>⟨_,q⟩
     obtain⟨y,hy⟩:=hy
     have:=R.mem.iD id (Nat.not_le.1 q) y (to0 id h y hy)
     rw[hz] at this
     cases this
     exact E.nm _ _ hy
  have kp:∀{id so},st'.h.get id=some so->q9 st.h st.sx id=true/\yf (q9 st.h st.sx) so=true:=λh=>by
   have:=KC c5 h
   rwa[Bool.and_eq_true] at this
  have back:∀{id so o n},st'.h.get id=some so->σn.nm id=some (some o,n)->σ'.nm id=some (some o,n):=λ{id so o n} h1 h2=>by
   rcases(R.mem.obj id so h1).nm with q|⟨_,_,q,_⟩<;>rw[key _ (kp h1).1 _ q] at h2<;>cases h2
   exact q
  have M3:Mem (wW w0 (Own σ (hG st.h)) σ.lit) σn (hG st'.h) (jy F st.sx st'.sx) w':=
   ⟨λid so h=>(R.mem.obj id so h).via (σ:=σ') (σ':=σn) rfl key (kp h).1 (kp h).2,λi j s s' o o' n n' a a' p p' q=>R.mem.inj _ _ _ _ _ _ _ _ a a' (back a p) (back a' p') q,λid h=>by
    show(if _ then _ else _)=_
    rw[if_neg h.2];exact M.fresh id h.1,R.mem.lit,λb i v h ⟨i',s,o,n,a,p,q⟩=>R.mem.free b i v h ⟨i',s,o,n,a,back a p,q⟩,R.mem.base,λb ⟨i',s,o,n,a,p,q⟩=>R.mem.owned b ⟨i',s,o,n,a,back a p,q⟩,R.mem.jD,λk hk=>(Nat.not_lt_zero k hk).elim,R.mem.kH⟩
  exact⟨σn,v,rfl,E,dv.via (σ:=σ') (σ':=σn) rfl λid h=>key id (List.all_eq_true.1 c6 id h),(M.frame (λ_ _ h=>h) E M3).less (λ_ _ h=>.inl h) λ_ h=>h⟩
 refine vz (C:=ML X pt fn lv jv un w args.length st.sx) (B:=B2) (b:=(p,sv,st')) (OK.F _ _ hF).1 hb rfl rfl (pg OK mx (PT _) rfl rfl rfl _ _ _ _ _ e1 (λr hr=>by cases hr) ⟨by simp[hl,B2],rfl,pB (ye dv0 (cO:=[])),M0⟩) λR dv=>⟨λkr=>?_,λkp=>?_⟩
 ·cases kr;exact fin R dv
 ·cases kp;exact fin R dv
noncomputable def GR(pt pi:(β:Type)->FuncId->Option (cd β))(g:FuncId)(X:dL)(fn:Func)(lv:Nat->Option ca)(un:Nat->Bool)(w:Nat):(β:Type)->FuncId->Option (cd β):=
 λβ f=>cond (Nat.beq f g) (some (inl X pi fn lv (λ_=>none) un w)) (pt β f)
theorem ZL{P:Program}{X:dL}(OK:gP P X)(mx:P.follows .mixedOrders=true){pt pi:(β:Type)->FuncId->Option (cd β)}(PT:gO P pt)(PI:gO P pi){g:FuncId}{fn:Func}(hF:X.F.get g=some fn)(hb:fn.body=some (fn.body.getD .skip)){lv:Nat->Option ca}{un:Nat->Bool}{w:Nat}:gO P (GR pt pi g X fn lv un w):=by
 intro β f e h
 unfold GR at h
 cases hq:Nat.beq f g with
 |true=>
  rw[hq] at h
  obtain rfl:=Nat.eq_of_beq_eq_true hq
  cases h
  exact UP OK mx PI hF hb
 |false=>rw[hq] at h;exact PT β f e h
end
def Hf(e:Nat×Nat×List Nat×Nat):Value:=.func (.func 0) #[.agg #[.int .i64 e.1,.int .i64 e.2.1]] #[.agg #[ae e.2.2.1.length (e.2.2.1.map λt=>.int .i64 (Int.ofNat t)),.int .i64 e.2.2.2]]
def tQ(l:List (Nat×Nat×List Nat×Nat)):Value:=.func (.method "") ⟨l.map Hf⟩ #[]
end
section
set_option linter.unusedVariables false
set_option linter.unusedSimpArgs false
set_option linter.unusedSectionVars false
set_option linter.constructorNameAsVariable false
variable{β:Type}
def oH:SV->Bool
 | .aC (x::_)=>(match x with| .ptr _ _=>true|_=>false)
 |_=>false
def yz(P:Program)(g:FuncId)(T:PT)(Sh:Fn T.ti.ks (Option (bo T.to.ks⊕bo T.tp.ks))):Prop:=
 ∀ls r st,fR T.ti.ks Sh ls=some r->fI T.ti ls=some st->∀so,(match r with| .inl a=>fI T.to (ff T.to.ks a)=some so| .inr a=>fI T.tp (ff T.tp.ks a)=some so)->yA P g T.n T.an st so false
noncomputable def SM[QF](w:Nat)(X:dL)(pt:(β:Type)->FuncId->Option (cd β))(fn:Func)(T:PT)(lv jv:Nat->Option ca)(un:Nat->Bool):Fn T.ti.ks (Option (bo T.to.ks⊕bo T.tp.ks)):=
 jx T.ti.ks λls=>ob (fI T.ti ls) λst=>dn {X:=X,pt:=pt _,n:=T.n+(fn.ntmps -T.n),rs:=fn.results.toList,lv:=lv,jv:=jv,un:=un,df:=false,fuel:=w,an:=T.an,fG:=λsv st=>cond (oH sv) (rz (qk T.to) sv st λsv st=>iU T.an T.to ⟨Tr.nil.set 0 sv,st.h,st.sx⟩ λls=>ob (dec T.to.ks ls) λa=>some (.inl a)) (rz (qk T.tp) sv st λsv st=>iU T.an T.tp ⟨Tr.nil.set 0 sv,st.h,st.sx⟩ λls=>ob (dec T.tp.ks ls) λa=>some (.inr a)),jB:=λ_ _=>none} 100000 [] [.code (fn.body.getD .skip)] st
theorem Uo[QF]{P:Program}{X:dL}(OK:gP P X)(mx:P.follows .mixedOrders=true){pt:(β:Type)->FuncId->Option (cd β)}(PTO:gO P pt){g:FuncId}{fn:Func}{T:PT}{lv jv:Nat->Option ca}{un:Nat->Bool}{w:Nat}{Sh:Fn T.ti.ks (Option (bo T.to.ks⊕bo T.tp.ks))}
 (hF:X.F.get g=some fn) (hb:fn.body=some (fn.body.getD .skip)) (hS:Sh=SM w X pt fn T lv jv un):yz P g T Sh:=by
 intro ls r st e hst so hso B σ w0 args' hn ha ev M
 subst hS
 have e1:=kx _ _ _ _ e
 obtain⟨st1,g1,e2⟩:=aq e1
 rw[hst] at g1
 cases g1
 refine vz (B:={B with n:=T.n+(fn.ntmps -T.n),cO:=[]}) (OK.F _ _ hF).1 hb rfl rfl (pg OK mx (PTO _) rfl rfl ha _ _ _ _ _ e2 (λr hr=>by cases hr) ⟨by simp[hn],rfl,pB ev,M.nd⟩) λ{σ1 s1 sv a1 w1 v1} R d=>⟨λkr=>?_,λkp=>by cases kp⟩
 cases hp:oH sv with
 |true=>
  replace kr:cond (oH sv) _ _=some r:=kr
  rw[hp] at kr
  obtain⟨sv2,st2,k1,k2⟩:=Bd (β:=bo T.to.ks⊕bo T.tp.ks) (t:=qk T.to) (K:=λsv st=>iU T.an T.to ⟨Tr.nil.set 0 sv,st.h,st.sx⟩ λls=>ob (dec T.to.ks ls) λa=>some (.inl a)) kr
  obtain⟨σ2,d2,M2⟩:=k2 d R.mem.nd
  replace k1:iU T.an T.to ⟨Tr.nil.set 0 sv2,st2.h,st2.sx⟩ (λls=>ob (dec T.to.ks ls) λa=>some (Sum.inl a))=some r:=k1
  cases r with
  |inl a=>
   obtain⟨σ3,z1,z2⟩:=tL (B:=B) (by rw[ha];exact k1) (λls q=>by obtain⟨a',q1,q2⟩:=aq q;cases q2;exact mT _ _ _ q1) hso d2 M2
   exact⟨σ3,_,rfl,z1,z2⟩
  |inr a=>
   obtain⟨ls',q1,_⟩:=qP (B:=B) (by rw[ha];exact k1)
   obtain⟨a',_,q2⟩:=aq q1
   cases q2
 |false=>
  replace kr:cond (oH sv) _ _=some r:=kr
  rw[hp] at kr
  obtain⟨sv2,st2,k1,k2⟩:=Bd (β:=bo T.to.ks⊕bo T.tp.ks) (t:=qk T.tp) (K:=λsv st=>iU T.an T.tp ⟨Tr.nil.set 0 sv,st.h,st.sx⟩ λls=>ob (dec T.tp.ks ls) λa=>some (.inr a)) kr
  obtain⟨σ2,d2,M2⟩:=k2 d R.mem.nd
  replace k1:iU T.an T.tp ⟨Tr.nil.set 0 sv2,st2.h,st2.sx⟩ (λls=>ob (dec T.tp.ks ls) λa=>some (Sum.inr a))=some r:=k1
  cases r with
  |inl a=>
   obtain⟨ls',q1,_⟩:=qP (B:=B) (by rw[ha];exact k1)
   obtain⟨a',_,q2⟩:=aq q1
   cases q2
  |inr a=>
   obtain⟨σ3,z1,z2⟩:=tL (B:=B) (by rw[ha];exact k1) (λls q=>by obtain⟨a',q1,q2⟩:=aq q;cases q2;exact mT _ _ _ q1) hso d2 M2
   exact⟨σ3,_,rfl,z1,z2⟩
def LC(T:PT)(Sh:Fn T.ti.ks (Option (bo T.to.ks⊕bo T.tp.ks))):cd β:=λst args K=>
 cond (Nat.beq args.length T.n) (qO [] T.ti ⟨lP args 0 .nil,st.h,st.sx⟩ λls m=>
  cond (oz st.h m&&o6 m T.an) (ob (fR T.ti.ks Sh ls) λr=>cD r
   (λa=>ob (fI T.to (ff T.to.ks a)) λso=>ob (so.tm.get 0) λsv=>K false (mF (jZ T.an st.sx m) sv) ⟨st.tm,nL (jZ T.an st.sx m) so.h T.to.nb (oq m st.h),st.sx+T.to.sx⟩)
   (λa=>ob (fI T.tp (ff T.tp.ks a)) λso=>ob (so.tm.get 0) λsv=>K false (mF (jZ T.an st.sx m) sv) ⟨st.tm,nL (jZ T.an st.sx m) so.h T.tp.nb (oq m st.h),st.sx+T.tp.sx⟩)) none) none
theorem TQ{P:Program}{g:FuncId}{T:PT}{Sh:Fn T.ti.ks (Option (bo T.to.ks⊕bo T.tp.ks))}(F:yz P g T Sh):jN P g (LC (β:=β) T Sh):=by
 intro st args K b e
 obtain⟨hlen,e⟩:=aR e
 obtain⟨ls,m,h1,_,hinj,hsx,stT,h2,h3,h4⟩:=zC (λi j a q=>by cases q) e
 obtain⟨hl,h1⟩:=aR h1
 rw[Bool.and_eq_true] at hl
 obtain⟨r,k1,h1⟩:=aq h1
 cases r with
 |inl a=>
  obtain⟨so,k2,h1⟩:=aq h1
  obtain⟨sv,k3,h1⟩:=aq h1
  have sx:=wq k2
  rw[<-sx] at h1
  exact⟨false,_,_,h1,rfl,Nat.le_add_right _ _,λhF M args' d=>vD (Nat.eq_of_beq_eq_true hlen) hinj (by rw[h3];exact hsx) h4 (rh hl.1) (sE hl.2) k3 (F ls _ stT k1 h2 so k2) hF M args' d⟩
 |inr a=>
  obtain⟨so,k2,h1⟩:=aq h1
  obtain⟨sv,k3,h1⟩:=aq h1
  have sx:=wq k2
  rw[<-sx] at h1
  exact⟨false,_,_,h1,rfl,Nat.le_add_right _ _,λhF M args' d=>vD (Nat.eq_of_beq_eq_true hlen) hinj (by rw[h3];exact hsx) h4 (rh hl.1) (sE hl.2) k3 (F ls _ stT k1 h2 so k2) hF M args' d⟩
def Ph(pt:(β:Type)->FuncId->Option (cd β))(g:FuncId)(T:PT)(Sh:Fn T.ti.ks (Option (bo T.to.ks⊕bo T.tp.ks))):(β:Type)->FuncId->Option (cd β):=
 λβ f=>cond (Nat.beq f g) (some λst args K=>cond (zI T st args) (LC T Sh st args K) (ob (pt β f) λe=>e st args K)) (pt β f)
theorem Pk{P:Program}{pt:(β:Type)->FuncId->Option (cd β)}(PTO:gO P pt){g:FuncId}{T:PT}{Sh:Fn T.ti.ks (Option (bo T.to.ks⊕bo T.tp.ks))}(F:yz P g T Sh):gO P (Ph pt g T Sh):=by
 intro β f e h
 unfold Ph at h
 cases hb:Nat.beq f g with
 |true=>
  rw[hb] at h
  have hg:=Nat.eq_of_beq_eq_true hb
  subst hg
  cases h
  intro st args K b k
  cases hf:zI T st args with
  |true=>
   simp[hf] at k
   exact TQ F st args K b k
  |false=>
   simp[hf] at k
   obtain⟨e0,h0,k⟩:=aq k
   exact PTO β f e0 h0 st args K b k
 |false=>
  rw[hb] at h
  exact PTO β f e h
end
end Lt
section
set_option linter.unusedVariables false
set_option linter.unusedSimpArgs false
set_option linter.unusedSectionVars false
set_option linter.constructorNameAsVariable false
structure bj where
 bE:Int
 data:List UInt8
 scan:List UInt8
 deriving DecidableEq
def lI(m:Int):Bool:=decide (208<=m/\m<=215)
def gq(m:Int):Bool:=decide (m=216\/m=217)
def jg(m:Int):Bool:=decide (192<=m/\m<=254)&&!lI m&&!gq m
def eE:List UInt8->Nat
 |[]=>0
 |b::t=>if b=255 then(match t with
  |[]=>0
  |c::_=>if c≠0/\lI c.toNat=false then 0 else eE t+1) else eE t+1
theorem Bz:∀l,eE l<=l.length
 |[]=>Nat.le_refl _
 |b::t=>by
  have ih:=Bz t
  unfold eE
  grind
inductive Kg where
 |ok (l:List bj) (end_:Nat)
 |bad (at_:Nat) (e:Int)
 deriving DecidableEq
inductive Sw where
 |last (s:bj) (rest:List UInt8)
 |more (s:bj) (rest:List UInt8)
 |short
 |form (behind:Nat)
def iW(first:Bool):List UInt8->Sw
 |[]=>.short
 |[x]=>if x=255 then .short else .form 0
 |x::m::t=>
  if x≠255 then .form 0
  else if(first !=decide (m=216))||!(gq m.toNat||jg m.toNat) then .form 0
  else if m=217 then .last ⟨217,[],[]⟩ t
  else if m=216 then .more ⟨216,[],[]⟩ t
  else match t with
   |a::b::_=>
    let n:=a.toNat*256+b.toNat
    if n<2 then .form 2
    else if t.length<n then .short
    else
     let r:=t.drop n
     let k:=if m=218 then eE r else 0
     .more ⟨m.toNat,(t.drop 2).take (n -2),r.take k⟩ (r.drop k)
   |_=>.short
def jG(L:Nat):Nat->Bool->List UInt8->Kg
 |0,_,_=>.bad 0 0
 |f+1,first,r=>match iW first r with
  | .short=>.bad L 3
  | .form k=>.bad (L -r.length+k) 2
  | .last s t=>.ok [s] (L -t.length)
  | .more s t=>match jG L f false t with
   | .ok l e=>.ok (s::l) e
   |x=>x
def ofM(b:List UInt8):Kg:=jG b.length (b.length+1) true b
def kg(s:bj):Bool:=jg s.bE&&decide (s.data.length<=65533)&&(s.scan.isEmpty||(decide (s.bE=218)&&decide (eE s.scan=s.scan.length)))
def jw(s:bj)(m:Int):Bool:=decide (s.bE=m)&&s.data.isEmpty&&s.scan.isEmpty
def gJ:List bj->Bool
 |[]=>false
 |[s]=>jw s 217
 |s::t=>kg s&&gJ t
def jX:List bj->Bool
 |[]=>false
 |s::t=>jw s 216&&gJ t
def cq(s:bj):List UInt8:=
 if gq s.bE then[255,UInt8.ofNat s.bE.toNat]
 else[255,UInt8.ofNat s.bE.toNat,UInt8.ofNat ((s.data.length+2)/256),UInt8.ofNat ((s.data.length+2)%256)]++s.data++s.scan
def cu(l:List bj):List UInt8:=l.flatMap cq
theorem iO(s:bj)(l:List bj):cu (s::l)=cq s++cu l:=rfl
theorem VY:∀{l:List bj},gJ l=true->∃(m:UInt8)(t:List UInt8),cu l=255::m::t/\m≠0/\lI m.toNat=false
 |[],h=>by cases h
 |s::t,h=>by
  have key:(192<=s.bE/\s.bE<=254/\lI s.bE=false):=by
   cases t with
   |nil=>
    simp[gJ,jw] at h
    rw[h.1.1];decide
   |cons s' t=>
    simp[gJ,kg,jg,Bool.and_eq_true] at h
    exact⟨h.1.1.1.1.1.1,h.1.1.1.1.1.2,h.1.1.1.1.2⟩
  obtain⟨k1,k2,k3⟩:=key
  have hm:((UInt8.ofNat s.bE.toNat).toNat:Int)=s.bE:=by
   rw[UInt8.toNat_ofNat'];omega
  refine⟨UInt8.ofNat s.bE.toNat,?_⟩
  have e:∃t',cq s=255::UInt8.ofNat s.bE.toNat::t':=by
   unfold cq;split<;>simp_all
  obtain⟨t',e⟩:=e
  refine⟨t'++cu t,by rw[iO,e];rfl,?_,by rw[hm];exact k3⟩
  intro h0
  rw[h0] at hm
  simp at hm
  omega
theorem Ij:∀(l:List UInt8)(m:UInt8)(t:List UInt8),eE l=l.length->m≠0->lI m.toNat=false->eE (l++255::m::t)=l.length
 |[],m,t,_,h1,h2=>by
  unfold eE
  simp_all
 |b::l,m,t,h,h1,h2=>by
  have hl:eE l=l.length/\(b=255->∃c r,l=c::r/\¬(c≠0/\lI c.toNat=false)):=by
   unfold eE at h
   grind
  have ih:=Ij l m t hl.1 h1 h2
  rw[List.cons_append]
  unfold eE
  grind
theorem aaG(x:List UInt8){s:bj}(h:jw s 217=true):iW false (cq s++x)=.last s x:=by
 obtain⟨m,d,c⟩:=s
 simp[jw] at h
 obtain⟨⟨rfl,rfl⟩,rfl⟩:=h
 rfl
theorem aaF(x:List UInt8){s:bj}(h:jw s 216=true):iW true (cq s++x)=.more s x:=by
 obtain⟨m,d,c⟩:=s
 simp[jw] at h
 obtain⟨⟨rfl,rfl⟩,rfl⟩:=h
 rfl
theorem aaH{s:bj}(h:kg s=true)(m:UInt8)(t:List UInt8)(h1:m≠0)(h2:lI m.toNat=false):iW false (cq s++255::m::t)=.more s (255::m::t):=by
 obtain⟨k,d,c⟩:=s
 simp[kg,jg,Bool.and_eq_true,Bool.not_eq_true',Bool.or_eq_true,List.isEmpty_iff] at h
 obtain⟨⟨⟨⟨⟨a1,a2⟩,a3⟩,a4⟩,a5⟩,a6⟩:=h
 have hm:((UInt8.ofNat k.toNat).toNat:Int)=k:=by rw[UInt8.toNat_ofNat'];omega
 have n216:UInt8.ofNat k.toNat≠216:=by
  intro e;rw[e] at hm;rw[<-hm] at a4;exact absurd a4 (by decide)
 have n217:UInt8.ofNat k.toNat≠217:=by
  intro e;rw[e] at hm;rw[<-hm] at a4;exact absurd a4 (by decide)
 unfold cq
 rw[if_neg (by simp[a4])]
 simp
 dsimp only[iW]
 rw[if_neg (by simp)]
 have hh:jg ((UInt8.ofNat k.toNat).toNat:Int)=true:=by rw[hm];simp[jg,a1,a2,a3,a4]
 rw[(show((false !=decide (UInt8.ofNat k.toNat=216))||!(gq ((UInt8.ofNat k.toNat).toNat:Int)||jg ((UInt8.ofNat k.toNat).toNat:Int)))=false from by rw[hh,decide_eq_false n216];simp),if_neg (by simp),if_neg n217,if_neg n216]
 have hn:(UInt8.ofNat ((d.length+2)/256)).toNat*256+(UInt8.ofNat ((d.length+2)%256)).toNat=d.length+2:=by
  rw[UInt8.toNat_ofNat',UInt8.toNat_ofNat']
  omega
 rw[hn,if_neg (by omega),if_neg (by simp)]
 have e1:(UInt8.ofNat ((d.length+2)/256)::UInt8.ofNat ((d.length+2)%256)::(d++(c++255::m::t))).drop (d.length+2)=c++255::m::t:=by
  simp
 rw[e1]
 have e2:(if UInt8.ofNat k.toNat=218 then eE (c++255::m::t) else 0)=c.length:=by
  rcases a6 with rfl|⟨a6,a7⟩
  ·split
   ·exact Ij [] m t rfl h1 h2
   ·rfl
  ·rw[if_pos (by rw[a6];rfl),Ij c m t a7 h1 h2]
 rw[e2]
 simp
 omega
theorem adE{l:List bj}(h:gJ l=true):l.length<=(cu l).length:=by
 induction l with
 |nil=>simp
 |cons s t ih=>
  rw[iO,List.length_append,List.length_cons]
  have:1<=(cq s).length:=by unfold cq;split<;>simp<;>omega
  cases t with
  |nil=>grind
  |cons s' t=>
   have:=ih (by simp[gJ] at h;exact h.2)
   omega
theorem NY(L:Nat)(x:List UInt8):∀(l:List bj)(f:Nat),gJ l=true->l.length<f->jG L f false (cu l++x)=.ok l (L -x.length)
 |[],_,h,_=>by cases h
 |[s],f+1,h,_=>by
  have:cu [s]=cq s:=by simp[cu]
  rw[this]
  unfold jG
  rw[aaG x h]
 |s::s'::t,f+1,h,hf=>by
  have h':=((Bool.and_eq_true _ _).mp h).2
  obtain⟨m,u,e,h1,h2⟩:=VY h'
  have ih:=NY L x (s'::t) f h' (by grind)
  rw[iO,List.append_assoc]
  unfold jG
  rw[e] at ih⊢
  rw[List.cons_append,List.cons_append] at ih⊢
  rw[aaH (((Bool.and_eq_true _ _).mp h).1) m (u++x) h1 h2]
  simp_all
 |_::_,0,_,hf=>by grind
theorem Wc{l:List bj}(h:jX l=true)(x:List UInt8):ofM (cu l++x)=.ok l (cu l).length:=by
 cases l with
 |nil=>cases h
 |cons s t=>
  simp[jX] at h
  unfold ofM
  rw[iO,List.append_assoc]
  unfold jG
  rw[aaF _ h.1]
  have hl:t.length<(cq s++(cu t++x)).length:=by
   have:=adE h.2
   have:1<=(cq s).length:=by unfold cq;split<;>simp<;>omega
   grind
  simp only[NY _ x t _ h.2 hl]
  grind
end
section
set_option linter.unusedVariables false
set_option linter.unusedSimpArgs false
set_option linter.unusedSectionVars false
set_option linter.constructorNameAsVariable false
def fD(l:List UInt8):Nat:=l.foldl (λn b=>n*256+b.toNat) 0
def fj(l:List UInt8)(at_ size:Nat)(order:Int):List UInt8:=
 if order=1 then((l.drop at_).take size).reverse else(l.drop at_).take size
theorem Ap(l:List UInt8)(b:UInt8):fD (l++[b])=fD l*256+b.toNat:=by
 unfold fD;rw[List.foldl_append];rfl
def yq(s:Int):Bool:=s==1||s==2||s==4
def eD(s o:Int):Bool:=yq s&&(o==1||o==2)
def mn(l:List UInt8)(at_ size order:Int):Option Int:=
 if eD size order=true/\0<=at_/\at_<=(l.length:Int) -size then some (fD (fj l at_.toNat size.toNat order)) else none
def dA(n:Nat):Nat->List UInt8
 |0=>[]
 |s+1=>dA (n/256) s++[UInt8.ofNat (n%256)]
theorem mg(s:Nat):∀n,(dA n s).length=s:=by
 induction s with
 |zero=>intro n;rfl
 |succ s ih=>intro n;simp[dA,ih]
def aN(n s:Nat)(order:Int):List UInt8:=if order=1 then(dA n s).reverse else dA n s
theorem db(n s:Nat)(o:Int):(aN n s o).length=s:=by unfold aN;split<;>simp[mg]
theorem sY{l:List UInt8}{p s:Nat}{order:Int}(hs:s=1\/s=2\/s=4)(ho:order=1\/order=2)(hp:p+s<=l.length):mn l p s order=some (fD (fj l p s order):Int):=by
 unfold mn
 rw[if_pos ⟨by rcases hs with rfl|rfl|rfl<;>rcases ho with rfl|rfl<;>rfl,by omega,by omega⟩]
 simp
def aA(n:Nat):Nat:=n+n%2
def mD(n:Int)(s:Nat)(order:Int):Option (List UInt8):=if 0<=n/\n<((256^s:Nat):Int) then some (aN n.toNat s order) else none
def fN(l:List UInt8)(s m:Nat):List UInt8:=
 (List.range l.length).map λi=>if i<m then(l[i -i%s+(s -1 -i%s)]?).getD 0 else(l[i]?).getD 0
theorem mI(l:List UInt8)(s m:Nat):(fN l s m).length=l.length:=by simp[fN]
theorem yu(l:List UInt8)(s m i:Nat)(h:i<l.length):(fN l s m)[i]? =some (if i<m then(l[i -i%s+(s -1 -i%s)]?).getD 0 else(l[i]?).getD 0):=by
 simp[fN,h]
def gm(l:List UInt8)(s:Nat)(order:Int):List UInt8:=if order=1 then fN l s l.length else l
theorem r9(l:List UInt8)(s:Nat)(o:Int):(gm l s o).length=l.length:=by unfold gm;split<;>simp[mI]
def kindOf(t:Int):Int×Int×Int:=
 if t=1\/t=2\/t=7 then(1,1,1) else if t=3 then(2,2,1) else if t=4 then(4,4,1) else if t=5 then(8,4,3) else if t=6 then(1,1,2) else if t=8 then(2,2,2)
 else if t=9 then(4,4,2) else if t=10 then(8,4,4) else if t=11 then(4,4,5) else if t=12 then(8,8,5) else(0,0,0)
def vy(l:List UInt8):Bool:=(List.range l.length).all λi=>((l[i]?).getD 0==0)==(i+1==l.length)
def cX(ty ar:Int)(l:List UInt8):Bool:=
 decide ((kindOf ty).1 ≠0/\1<=ar/\ar<=65536/\(l.length:Int)=ar*(kindOf ty).1)&&(ty !=2||vy l)
theorem zZ{t:Int}(h:t<1\/12<t):kindOf t=(0,0,0):=by
 unfold kindOf
 repeat(rw[if_neg (by omega)])
theorem FI(t:Int)(h:(kindOf t).1 ≠0):∃s m:Nat,(kindOf t).2.1 =(s:Int)/\(kindOf t).1 =((m*s:Nat):Int)/\(s=1\/s=2\/s=4\/s=8):=by
 by_cases o:t<1\/12<t
 ·rw[zZ o] at h;exact absurd rfl h
 ·have hc:t=1\/t=2\/t=3\/t=4\/t=5\/t=6\/t=7\/t=8\/t=9\/t=10\/t=11\/t=12:=by omega
  rcases hc with rfl|rfl|rfl|rfl|rfl|rfl|rfl|rfl|rfl|rfl|rfl|rfl
  ·exact⟨1,1,rfl,rfl,by omega⟩
  ·exact⟨1,1,rfl,rfl,by omega⟩
  ·exact⟨2,1,rfl,rfl,by omega⟩
  ·exact⟨4,1,rfl,rfl,by omega⟩
  ·exact⟨4,2,rfl,rfl,by omega⟩
  ·exact⟨1,1,rfl,rfl,by omega⟩
  ·exact⟨1,1,rfl,rfl,by omega⟩
  ·exact⟨2,1,rfl,rfl,by omega⟩
  ·exact⟨4,1,rfl,rfl,by omega⟩
  ·exact⟨4,2,rfl,rfl,by omega⟩
  ·exact⟨4,1,rfl,rfl,by omega⟩
  ·exact⟨8,1,rfl,rfl,by omega⟩
theorem NF{ty ar:Int}{l:List UInt8}(h:cX ty ar l=true):∃s q:Nat,(kindOf ty).2.1 =(s:Int)/\l.length=q*s/\(s=1\/s=2\/s=4\/s=8):=by
 unfold cX at h
 rw[Bool.and_eq_true,decide_eq_true_eq] at h
 obtain⟨⟨h1,h2,h3,h4⟩,-⟩:=h
 obtain⟨s,m,e1,e2,e3⟩:=FI ty h1
 refine⟨s,ar.toNat*m,e1,?_,e3⟩
 rw[e2] at h4
 have:(l.length:Int)=((ar.toNat*m*s:Nat):Int):=by
  rw[h4,Nat.mul_assoc]
  push_cast
  rw[Int.toNat_of_nonneg (by omega)]
 omega
end
section
set_option linter.unusedVariables false
set_option linter.unusedSimpArgs false
set_option linter.unusedSectionVars false
set_option linter.constructorNameAsVariable false
theorem F5(s:Nat):∀n,n<256^s->fD (dA n s)=n:=by
 induction s with
 |zero=>intro n h;simp at h;subst h;rfl
 |succ s ih=>
  intro n h
  show fD (dA (n/256) s++[UInt8.ofNat (n%256)])=n
  rw[Ap,ih (n/256) (by rw[Nat.pow_succ] at h;omega),UInt8.toNat_ofNat']
  omega
theorem O9(pre l post:List UInt8)(s:Nat)(order:Int)(hl:l.length=s):fj (pre++(l++post)) pre.length s order=if order=1 then l.reverse else l:=by
 unfold fj
 rw[List.drop_left,<-hl,List.take_left]
theorem V8(pre post:List UInt8)(n s:Nat)(order:Int)(h:n<256^s):fD (fj (pre++(aN n s order++post)) pre.length s order)=n:=by
 rw[O9 _ _ _ _ _ (db n s order)]
 unfold aN
 split
 ·rw[List.reverse_reverse,F5 s n h]
 ·exact F5 s n h
theorem get_at(pre post:List UInt8)(n s:Nat)(order:Int)(hs:s=1\/s=2\/s=4)(ho:order=1\/order=2)(h:n<256^s):mn (pre++(aN n s order++post)) pre.length s order=some (n:Int):=by
 rw[sY hs ho (by simp[db]),V8 _ _ _ _ _ h]
theorem F6:∀(l:List UInt8),fD l<256^l.length:=by
 intro l
 induction h:l.length generalizing l with
 |zero=>rw[List.length_eq_zero_iff] at h;subst h;decide
 |succ k ih=>
  have cc:l≠[]:=by intro e;subst e;simp at h
  have e:=List.dropLast_concat_getLast cc
  rw[<-e,Ap]
  have:=ih l.dropLast (by simp[h])
  have hb:=(l.getLast cc).toNat_lt
  rw[Nat.pow_succ]
  omega
theorem KM:∀(k:Nat)(l:List UInt8),l.length=k->dA (fD l) k=l:=by
 intro k
 induction k with
 |zero=>intro l h;rw[List.length_eq_zero_iff] at h;subst h;rfl
 |succ k ih=>
  intro l h
  have cc:l≠[]:=by intro e;subst e;simp at h
  have e:=List.dropLast_concat_getLast cc
  have hb:=(l.getLast cc).toNat_lt
  conv=>lhs;rw[<-e,Ap]
  show dA ((fD l.dropLast*256+(l.getLast cc).toNat)/256) k++[UInt8.ofNat ((fD l.dropLast*256+(l.getLast cc).toNat)%256)]=l
  have e1:(fD l.dropLast*256+(l.getLast cc).toNat)/256=fD l.dropLast:=by omega
  have e2:(fD l.dropLast*256+(l.getLast cc).toNat)%256=(l.getLast cc).toNat:=by omega
  rw[e1,e2,ih _ (by simp[h]),UInt8.ofNat_toNat]
  exact e
theorem Zq(l:List UInt8)(s:Nat)(order:Int)(h:l.length=s):aN (fD (if order=1 then l.reverse else l)) s order=l:=by
 unfold aN
 split
 ·rw[KM s _ (by simp[h]),List.reverse_reverse]
 ·exact KM s _ h
theorem ads{s n i:Nat}(hs:0<s)(hd:n%s=0)(hi:i<n):i -i%s+(s -1 -i%s)<n/\(i -i%s+(s -1 -i%s)) -(i -i%s+(s -1 -i%s))%s+(s -1 -(i -i%s+(s -1 -i%s))%s)=i:=by
 have hm:=Nat.mod_lt i hs
 obtain⟨q,hq⟩:∃q,n=s*q:=⟨n/s,by have:=Nat.div_add_mod n s;omega⟩
 have hdm:=Nat.div_add_mod i s
 obtain⟨a,ha⟩:∃a,i/s=a:=⟨_,rfl⟩
 obtain⟨r,hr⟩:∃r,i%s=r:=⟨_,rfl⟩
 rw[ha,hr] at hdm
 rw[hr] at hm
 rw[hr]
 have hi':i=s*a+r:=by omega
 have haq:a<q:=by
  have:s*a<s*q:=by omega
  exact Nat.lt_of_mul_lt_mul_left this
 have hle:s*(a+1)<=s*q:=Nat.mul_le_mul_left s haq
 rw[Nat.mul_add,Nat.mul_one] at hle
 have e:i -r+(s -1 -r)=s*a+(s -1 -r):=by omega
 have e2:(s*a+(s -1 -r))%s=s -1 -r:=by
  rw[Nat.mul_add_mod,Nat.mod_eq_of_lt (by omega)]
 rw[e,e2]
 omega
theorem adt(l:List UInt8)(s:Nat)(order:Int)(hs:0<s)(hd:l.length%s=0):gm (gm l s order) s order=l:=by
 unfold gm
 split
 ·apply List.ext_getElem?
  intro i
  rcases Nat.lt_or_ge i l.length with h|h
  ·obtain⟨h1,h2⟩:=ads hs hd h
   rw[yu _ _ _ _ (by rw[mI];exact h),mI,if_pos h,yu _ _ _ _ h1,if_pos h1,h2,List.getElem?_eq_getElem h]
   rfl
  ·rw[List.getElem?_eq_none (by rw[mI,mI];exact h),List.getElem?_eq_none h]
 ·rfl
def mB(ty ar:Int)(b:List UInt8)(order:Int):Option (List UInt8):=
 if(kindOf ty).1 ≠0/\1<=ar/\ar<=65536/\ar*(kindOf ty).1 <=(b.length:Int)/\cX ty ar (gm (b.take (ar*(kindOf ty).1).toNat) (kindOf ty).2.1.toNat order)=true then
  some (gm (b.take (ar*(kindOf ty).1).toNat) (kindOf ty).2.1.toNat order) else none
theorem rk{ty ar:Int}{l:List UInt8}(h:cX ty ar l=true):(kindOf ty).1 ≠0/\1<=ar/\ar<=65536/\(l.length:Int)=ar*(kindOf ty).1 :=by
 unfold cX at h
 rw[Bool.and_eq_true,decide_eq_true_eq] at h
 exact h.1
theorem NV{ty ar order:Int}{l:List UInt8}(h:cX ty ar l=true)(post:List UInt8):mB ty ar (gm l (kindOf ty).2.1.toNat order++post) order=some l:=by
 obtain⟨h1,h2,h3,h4⟩:=rk h
 obtain⟨s,q,e1,e2,e3⟩:=NF h
 have hs:(kindOf ty).2.1.toNat=s:=by rw[e1];simp
 have hn:(ar*(kindOf ty).1).toNat=l.length:=by omega
 have ht:(gm l (kindOf ty).2.1.toNat order++post).take (ar*(kindOf ty).1).toNat=gm l (kindOf ty).2.1.toNat order:=by
  rw[hn]
  conv=>lhs;rw[<-r9 l (kindOf ty).2.1.toNat order]
  exact List.take_left
 have hb:gm (gm l (kindOf ty).2.1.toNat order) (kindOf ty).2.1.toNat order=l:=by
  rw[hs]
  exact adt l s order (by omega) (by rw[e2];exact Nat.mul_mod_left q s)
 unfold mB
 rw[ht,hb,if_pos ⟨h1,h2,h3,by simp[r9];omega,h⟩]
end
section
set_option linter.unusedVariables false
set_option linter.unusedSimpArgs false
set_option linter.unusedSectionVars false
set_option linter.constructorNameAsVariable false
structure aD where
 tag:Int
 ty:Int
 ar:Int
 data:List UInt8
 deriving DecidableEq
mutual
inductive aK where
 |mk (tags:List aD) (subs:bW) (blob:List UInt8)
inductive bW where
 |nil
 |cons (tag:Int) (d:aK) (r:bW)
end
structure jO where
 order:Int
 cS:List aK
structure fO where
 tag:Int
 shape:Int
structure aP where
 bt:List fO
 at_:Int
 bU:Int
 next:Int
structure aY where
 tag:Int
 ty:Int
 ar:Int
 slot:Nat
 deriving DecidableEq
structure bc where
 kQ:Int
 dir:Int
 tag:Int
 at_:Nat
 bU:Nat
 deriving DecidableEq
def gy(ty ar:Int):Int:=if ar<1\/65536<ar then 0 else ar*(kindOf ty).1
def bu(ty ar:Int):Nat:=if 4<gy ty ar then(gy ty ar).toNat else 0
def bI:bW->Nat
 | .nil=>0
 | .cons _ _ r=>bI r+1
def bh:aK->Nat
 | .mk tags subs blob=>tags.length+bI subs+(if blob.length=0 then 0 else 2)
def bJ(e:Nat):List aD->Nat
 |[]=>e
 |t::ts=>if bu t.ty t.ar=0 then bJ e ts else bJ (aA e+bu t.ty t.ar) ts
mutual
def bg(e:Nat):aK->Nat
 | .mk tags subs blob=>
  if blob.length=0 then cW (bJ (aA e+(6+12*bh (.mk tags subs blob))) tags) subs
  else aA (cW (bJ (aA e+(6+12*bh (.mk tags subs blob))) tags) subs)+blob.length
def cW(e:Nat):bW->Nat
 | .nil=>e
 | .cons _ d r=>cW (bg e d) r
end
mutual
def cJ:aK->Nat
 | .mk _ subs _=>fS subs+1
def fS:bW->Nat
 | .nil=>0
 | .cons _ d r=>cJ d+fS r
end
def cw(no:Nat)(e:Nat):List aD->List bc
 |[]=>[]
 |t::ts=>if bu t.ty t.ar=0 then cw no e ts else⟨3,no,t.tag,aA e,bu t.ty t.ar⟩::cw no (aA e+bu t.ty t.ar) ts
mutual
def eG(no:Nat)(e:Nat):aK->List bc
 | .mk tags subs blob=>
  ⟨2,no,0,aA e,6+12*bh (.mk tags subs blob)⟩::
   (cw no (aA e+(6+12*bh (.mk tags subs blob))) tags++
    (iN (no+1) (bJ (aA e+(6+12*bh (.mk tags subs blob))) tags) subs++
     (if blob.length=0 then[] else[⟨4,no,0,aA (cW (bJ (aA e+(6+12*bh (.mk tags subs blob))) tags) subs),blob.length⟩])))
def iN(no:Nat)(e:Nat):bW->List bc
 | .nil=>[]
 | .cons _ d r=>eG no e d++iN (no+cJ d) (bg e d) r
end
def ja(order:Int)(t:aD):List UInt8:=gm t.data (kindOf t.ty).2.1.toNat order
def mr(order:Int)(t:aD):Nat:=fD (fj (ja order t++List.replicate (4 -t.data.length) 0) 0 4 order)
def da(order:Int)(e:Nat):List aD->List aY
 |[]=>[]
 |t::ts=>if bu t.ty t.ar=0 then⟨t.tag,t.ty,t.ar,mr order t⟩::da order e ts else⟨t.tag,t.ty,t.ar,aA e⟩::da order (aA e+bu t.ty t.ar) ts
def fT(e:Nat):bW->List aY
 | .nil=>[]
 | .cons tag d r=>⟨tag,4,1,aA e⟩::fT (bg e d) r
def fA(S:aP)(e:Nat)(blob:List UInt8):List aY:=
 if blob.length=0 then[] else[⟨S.at_,4,1,aA e⟩,⟨S.bU,4,1,blob.length⟩]
def iw(x:aY):List aY->List aY
 |[]=>[x]
 |y::l=>if x.tag<=y.tag then x::y::l else y::iw x l
def eY:List aY->List aY
 |[]=>[]
 |x::l=>iw x (eY l)
def gu(order:Int)(x:aY):List UInt8:=aN x.tag.toNat 2 order++(aN x.ty.toNat 2 order++(aN x.ar.toNat 4 order++aN x.slot 4 order))
def iS(order:Int)(l:List aY)(next:Nat):List UInt8:=aN l.length 2 order++(l.flatMap (gu order)++aN next 4 order)
def cN(e:Nat):List UInt8:=if e%2=0 then[] else[0]
def eS(order:Int)(e:Nat):List aD->List UInt8
 |[]=>[]
 |t::ts=>if bu t.ty t.ar=0 then eS order e ts else cN e++(ja order t++eS order (aA e+bu t.ty t.ar) ts)
def NQ:aP:=⟨[],0,0,-1⟩
def aH(sh:List aP)(s:Nat):aP:=(sh[s]?).getD NQ
def ji(S:aP)(tag:Int):Option Nat:=(S.bt.find? λx=>x.tag==tag).map λx=>x.shape.toNat
mutual
def gF(order:Int)(sh:List aP)(s:Nat)(next:Nat)(e:Nat):aK->List UInt8
 | .mk tags subs blob=>
  cN e++(iS order (eY (da order (aA e+(6+12*bh (.mk tags subs blob))) tags++
   (fT (bJ (aA e+(6+12*bh (.mk tags subs blob))) tags) subs++
    fA (aH sh s) (cW (bJ (aA e+(6+12*bh (.mk tags subs blob))) tags) subs) blob))) next++
   (eS order (aA e+(6+12*bh (.mk tags subs blob))) tags++
    (ig order sh (aH sh s) (bJ (aA e+(6+12*bh (.mk tags subs blob))) tags) subs++
     (if blob.length=0 then[] else cN (cW (bJ (aA e+(6+12*bh (.mk tags subs blob))) tags) subs)++blob))))
def ig(order:Int)(sh:List aP)(S:aP)(e:Nat):bW->List UInt8
 | .nil=>[]
 | .cons tag d r=>gF order sh ((ji S tag).getD 0) 0 e d++ig order sh S (bg e d) r
end
def ed:List aD->Bool
 |[]=>true
 |[_]=>true
 |a::b::l=>decide (a.tag<b.tag)&&ed (b::l)
def iY:bW->List Int
 | .nil=>[]
 | .cons tag _ r=>tag::iY r
def kN:List Int->Bool
 |[]=>true
 |[_]=>true
 |a::b::l=>decide (a<b)&&kN (b::l)
def dY(S:aP)(tag:Int):Bool:=decide (S.at_≠0)&&(decide (tag=S.at_)||decide (tag=S.bU))
def dV(S:aP)(tag:Int):Bool:=S.bt.any λx=>x.tag==tag
def dw(S:aP)(tag:Int):Bool:=dV S tag||dY S tag
def km(tag:Int):Bool:=decide (0<=tag/\tag<65536)
def iB(S:aP)(tags:List aD):Bool:=ed tags&&tags.all λt=>km t.tag&&(!dw S t.tag&&cX t.ty t.ar t.data)
mutual
def bX(sh:List aP)(s:Nat):aK->Bool
 | .mk tags subs blob=>decide (1<=bh (.mk tags subs blob)/\bh (.mk tags subs blob)<=65535)&&(iB (aH sh s) tags&&
  ((decide (blob.length=0)||decide ((aH sh s).at_≠0))&&(kN (iY subs)&&gx sh (aH sh s) subs)))
def gx(sh:List aP)(S:aP):bW->Bool
 | .nil=>true
 | .cons tag d r=>dV S tag&&(bX sh ((ji S tag).getD 0) d&&gx sh S r)
end
theorem kB(e:Nat):e<=aA e:=by unfold aA;omega
theorem EP(e:Nat):aA e%2=0:=by unfold aA;omega
theorem nc(e:Nat):e+(cN e).length=aA e:=by unfold cN aA;split<;>simp<;>omega
theorem ny:∀(ts:List aD)(e:Nat),e<=bJ e ts
 |[],e=>Nat.le_refl _
 |t::ts,e=>by
  unfold bJ
  split
  ·exact ny ts e
  ·have:=ny ts (aA e+bu t.ty t.ar)
   have:=kB e
   omega
mutual
theorem vw:∀(d:aK)(e:Nat),e<=bg e d
 | .mk tags subs blob,e=>by
  unfold bg
  have h1:=kB e
  have h2:=ny tags (aA e+(6+12*bh (.mk tags subs blob)))
  have h3:=pw subs (bJ (aA e+(6+12*bh (.mk tags subs blob))) tags)
  have h4:=kB (cW (bJ (aA e+(6+12*bh (.mk tags subs blob))) tags) subs)
  grind
theorem pw:∀(r:bW)(e:Nat),e<=cW e r
 | .nil,e=>by unfold cW;exact Nat.le_refl _
 | .cons _ d r,e=>by
  unfold cW
  have h1:=vw d e
  have h2:=pw r (bg e d)
  omega
end
theorem MN(x:aY):∀l,(iw x l).length=l.length+1
 |[]=>rfl
 |y::l=>by unfold iw;split<;>simp[MN x l]
theorem vT:∀l,(eY l).length=l.length
 |[]=>rfl
 |x::l=>by rw[eY,MN,vT l];rfl
theorem py(order:Int):∀(ts:List aD)(e:Nat),(da order e ts).length=ts.length
 |[],_=>rfl
 |t::ts,e=>by unfold da;split<;>simp[py order ts]
theorem vC:∀(r:bW)(e:Nat),(fT e r).length=bI r
 | .nil,_=>rfl
 | .cons _ d r,e=>by unfold fT bI;simp[vC r]
theorem zw(S:aP)(e:Nat)(blob:List UInt8):(fA S e blob).length=if blob.length=0 then 0 else 2:=by unfold fA;split<;>rfl
theorem EG(order:Int)(x:aY):(gu order x).length=12:=by simp[gu,db]
theorem sR(order:Int):∀l:List aY,(l.flatMap (gu order)).length=12*l.length
 |[]=>rfl
 |x::l=>by rw[List.flatMap_cons,List.length_append,EG,sR order l,List.length_cons];omega
theorem Ll(order:Int)(l:List aY)(next:Nat):(iS order l next).length=6+12*l.length:=by
 unfold iS;rw[List.length_append,List.length_append,db,sR,db];omega
theorem tG{t:aD}(h:cX t.ty t.ar t.data=true):bu t.ty t.ar=if t.data.length<=4 then 0 else t.data.length:=by
 obtain⟨h1,h2,h3,h4⟩:=rk h
 have hl:gy t.ty t.ar=(t.data.length:Int):=by unfold gy;rw[if_neg (by omega),h4]
 unfold bu
 grind
theorem uR(order:Int)(t:aD):(ja order t).length=t.data.length:=r9 _ _ _
theorem Du(order:Int):∀(ts:List aD)(e:Nat),(∀t∈ts,cX t.ty t.ar t.data=true)->e+(eS order e ts).length=bJ e ts
 |[],e,_=>rfl
 |t::ts,e,h=>by
  have ih:=λe=>Du order ts e λt ht=>h t (by grind)
  unfold eS bJ
  split
  ·grind
  ·rename_i hn
   have:=ih (aA e+bu t.ty t.ar)
   have hp:=nc e
   rw[List.length_append,List.length_append,uR]
   have:bu t.ty t.ar=t.data.length:=by rw[(tG (h t (by simp)))] at hn⊢;split<;>simp_all
   omega
mutual
theorem o7(order:Int)(sh:List aP):∀(d:aK)(s next e:Nat),bX sh s d=true->e+(gF order sh s next e d).length=bg e d
 | .mk tags subs blob,s,next,e,h=>by
  simp[bX,iB,List.all_eq_true] at h
  obtain⟨h1,⟨h2,h3⟩,h4,h5,h6⟩:=h
  have hp:=nc e
  have hv:=Du order tags (aA e+(6+12*bh (.mk tags subs blob))) λt ht=>(h3 t ht).2.2
  have hs:=El order sh subs (aH sh s) (bJ (aA e+(6+12*bh (.mk tags subs blob))) tags) h6
  have hb:=nc (cW (bJ (aA e+(6+12*bh (.mk tags subs blob))) tags) subs)
  have hn:(eY (da order (aA e+(6+12*bh (.mk tags subs blob))) tags++(fT (bJ (aA e+(6+12*bh (.mk tags subs blob))) tags) subs++
   fA (aH sh s) (cW (bJ (aA e+(6+12*bh (.mk tags subs blob))) tags) subs) blob))).length=bh (.mk tags subs blob):=by
   rw[vT,List.length_append,List.length_append,py,vC,zw]
   show _=tags.length+bI subs+(if blob.length=0 then 0 else 2)
   omega
  unfold gF bg
  rw[List.length_append,List.length_append,Ll,hn]
  split<;>grind
theorem El(order:Int)(sh:List aP):∀(r:bW)(S:aP)(e:Nat),gx sh S r=true->e+(ig order sh S e r).length=cW e r
 | .nil,S,e,_=>rfl
 | .cons tag d r,S,e,h=>by
  simp[gx] at h
  have h1:=o7 order sh d ((ji S tag).getD 0) 0 e h.2.1
  have h2:=El order sh r S (bg e d) h.2.2
  unfold ig cW
  rw[List.length_append]
  omega
end
end
section
set_option linter.unusedVariables false
set_option linter.unusedSimpArgs false
set_option linter.unusedSectionVars false
set_option linter.constructorNameAsVariable false
theorem zT(x y:aY)(l:List aY):iw x (y::l)=if x.tag<=y.tag then x::y::l else y::iw x l:=rfl
theorem Fw{x y:aY}:∀{l:List aY},y∈iw x l↔y=x\/y∈l
 |[]=>by simp[iw]
 |z::l=>by
  unfold iw
  split
  ·simp
  ·simp[Fw]
   grind
theorem tj{y:aY}:∀{l:List aY},y∈eY l↔y∈l
 |[]=>by simp[eY]
 |x::l=>by rw[eY,Fw,tj];simp
def Up:List aY->Prop
 |[]=>True
 |x::l=>(∀y∈l,x.tag<=y.tag)/\Up l
theorem MQ(x:aY):∀{l:List aY},Up l->Up (iw x l)
 |[],_=>⟨λy h=>(by grind),trivial⟩
 |z::l,h=>by
  unfold iw
  split
  ·rename_i hz
   refine⟨λy hy=>?_,h⟩
   rcases List.mem_cons.1 hy with rfl|hy
   ·grind
   ·have:=h.1 y hy;omega
  ·rename_i hz
   refine⟨λy hy=>?_,MQ x h.2⟩
   rcases Fw.1 hy with rfl|hy
   ·omega
   ·exact h.1 y hy
theorem M4:∀l:List aY,Up (eY l)
 |[]=>trivial
 |x::l=>MQ x (M4 l)
def dD:List aY->Bool
 |[]=>true
 |[_]=>true
 |a::b::l=>decide (a.tag<b.tag)&&dD (b::l)
theorem MM{x:aY}:∀{l:List aY},(∀y∈l,x.tag<=y.tag)->iw x l=x::l
 |[],_=>rfl
 |z::l,h=>by unfold iw;rw[if_pos (h z (by simp))]
theorem Hb:∀{l:List aY},dD l=true->Up l
 |[],_=>trivial
 |[x],_=>⟨λy h=>(by grind),trivial⟩
 |a::b::l,h=>by
  simp[dD] at h
  have ih:=Hb h.2
  refine⟨λy hy=>?_,ih⟩
  rcases List.mem_cons.1 hy with rfl|hy
  ·omega
  ·have:=ih.1 y hy;omega
theorem zV:∀{l:List aY},dD l=true->eY l=l
 |[],_=>rfl
 |x::l,h=>by
  have hl:dD l=true:=by
   cases l with
   |nil=>rfl
   |cons b l=>simp[dD] at h;exact h.2
  rw[eY,zV hl,MM (Hb h).1]
theorem LY(p:aY->Bool)(x:aY):∀{l:List aY},Up l->(iw x l).filter p=if p x=true then iw x (l.filter p) else l.filter p
 |[],_=>by
  show[x].filter p=_
  rw[List.filter_cons]
  rfl
 |z::l,h=>by
  rw[zT]
  by_cases hz:x.tag<=z.tag
  ·rw[if_pos hz,List.filter_cons]
   split
   ·rw[MM]
    intro y hy
    have hy':=(List.mem_filter.1 hy).1
    rcases List.mem_cons.1 hy' with rfl|hy'
    ·exact hz
    ·have:=h.1 y hy';omega
   ·rfl
  ·rw[if_neg hz,List.filter_cons,(LY p x h.2)]
   by_cases hx:p x=true
   ·rw[List.filter_cons]
    split
    ·rw[zT,if_neg hz]
    ·rfl
   ·rw[if_neg hx,if_neg hx,List.filter_cons]
theorem zH(p:aY->Bool):∀l:List aY,(eY l).filter p=eY (l.filter p)
 |[]=>rfl
 |x::l=>by
  rw[eY,LY p x (M4 l),zH p l,List.filter_cons]
  split<;>rfl
theorem MP{x:aY}:∀{l:List aY},dD l=true->(∀y∈l,y.tag≠x.tag)->dD (iw x l)=true
 |[],_,_=>rfl
 |[z],_,hn=>by
  have:=hn z (by simp)
  unfold iw
  split
  ·simp[dD];omega
  ·simp[iw,dD,Bool.and_true];omega
 |z::z'::l,h,hn=>by
  have h0:=hn z (by simp)
  simp[dD] at h
  have ih:=MP (x:=x) h.2 λy hy=>hn y (by simp[hy])
  rw[zT]
  split
  ·simp[dD];exact⟨by omega,h⟩
  ·rw[zT] at ih⊢
   split
   ·rename_i hz hz'
    rw[if_pos hz'] at ih
    simp[dD] at ih⊢
    exact⟨by omega,ih⟩
   ·rename_i hz hz'
    rw[if_neg hz'] at ih
    simp[dD]
    exact⟨h.1,ih⟩
def kR:List aY->Prop
 |[]=>True
 |x::l=>(∀y∈l,y.tag≠x.tag)/\kR l
theorem FB:∀{l:List aY},kR l->dD (eY l)=true
 |[],_=>rfl
 |x::l,h=>by
  exact MP (FB h.2) λy hy=>h.1 y (tj.1 hy)
theorem ve:∀{l:List aY},dD l=true->kR l
 |[],_=>trivial
 |[x],_=>⟨λy h=>(by grind),trivial⟩
 |a::b::l,h=>by
  simp[dD] at h
  refine⟨λy hy=>?_,ve h.2⟩
  have:=(Hb h.2).1
  grind
theorem Ea:∀{l k:List aY},kR l->kR k->(∀x∈l,∀y∈k,y.tag≠x.tag)->kR (l++k)
 |[],k,_,hk,_=>hk
 |x::l,k,hl,hk,h=>by
  refine⟨λy hy=>?_,Ea hl.2 hk λx hx=>h x (by grind)⟩
  rcases List.mem_append.1 hy with hy|hy
  ·exact hl.1 y hy
  grind
def bK(b:List UInt8)(p s:Nat)(order:Int):Nat:=((mn b p s order).getD 0).toNat
theorem kJ{b pre post:List UInt8}{n s p:Nat}{order:Int}(e:b=pre++(aN n s order++post))(hp:p=pre.length)(hs:s=1\/s=2\/s=4)(ho:order=1\/order=2)(h:n<256^s):bK b p s order=n:=by
 unfold bK
 rw[e,hp,get_at _ _ _ _ _ hs ho h]
 simp
def vA(b:List UInt8)(p:Nat)(order:Int):aY:=⟨bK b p 2 order,bK b (p+2) 2 order,bK b (p+4) 4 order,bK b (p+8) 4 order⟩
structure jN(x:aY):Prop where
 tag:0<=x.tag/\x.tag<65536
 ty:0<=x.ty/\x.ty<65536
 ar:0<=x.ar/\x.ar<4294967296
 slot:x.slot<4294967296
theorem TL{b pre post:List UInt8}{p:Nat}{order:Int}{x:aY}(e:b=pre++(gu order x++post))(hp:p=pre.length)(ho:order=1\/order=2)(h:jN x):vA b p order=x:=by
 have e0:b=pre++(aN x.tag.toNat 2 order++(aN x.ty.toNat 2 order++(aN x.ar.toNat 4 order++(aN x.slot 4 order++post)))):=by rw[e];simp[gu]
 have e1:b=(pre++aN x.tag.toNat 2 order)++(aN x.ty.toNat 2 order++(aN x.ar.toNat 4 order++(aN x.slot 4 order++post))):=by rw[e0];simp
 have e2:b=(pre++aN x.tag.toNat 2 order++aN x.ty.toNat 2 order)++(aN x.ar.toNat 4 order++(aN x.slot 4 order++post)):=by rw[e0];simp
 have e3:b=(pre++aN x.tag.toNat 2 order++aN x.ty.toNat 2 order++aN x.ar.toNat 4 order)++(aN x.slot 4 order++post):=by rw[e0];simp
 unfold vA
 rw[(kJ e0 hp (.inr (.inl rfl)) ho (by have:=h.tag;omega)),(kJ (p:=p+2) e1 (by simp[db,hp]) (.inr (.inl rfl)) ho (by have:=h.ty;omega)),(kJ (p:=p+4) e2 (by simp[db,hp]) (.inr (.inr rfl)) ho (by have:=h.ar;omega)),(kJ (p:=p+8) e3 (by simp[db,hp]) (.inr (.inr rfl)) ho h.slot)]
 rw[Int.toNat_of_nonneg h.tag.1,Int.toNat_of_nonneg h.ty.1,Int.toNat_of_nonneg h.ar.1]
def iq(b:List UInt8)(order:Int):Nat->Nat->List aY
 |_,0=>[]
 |p,n+1=>vA b p order::iq b order (p+12) n
theorem LH{b:List UInt8}{order:Int}(ho:order=1\/order=2):∀(l:List aY)(pre post:List UInt8)(p:Nat),b=pre++(l.flatMap (gu order)++post)->p=pre.length->(∀x∈l,jN x)->iq b order p l.length=l
 |[],_,_,_,_,_,_=>rfl
 |x::l,pre,post,p,e,hp,h=>by
  rw[List.flatMap_cons,List.append_assoc] at e
  rw[List.length_cons,iq,TL e hp ho (h x (by simp))]
  congr 1
  refine LH ho l (pre++gu order x) post (p+12) (by grind) (by simp[EG,hp]) λy hy=>h y (by grind)
def zg(S:List bc)(at_ bU:Nat):Bool:=S.any λs=>decide (max at_ s.at_<min (at_+bU) (s.at_+s.bU))
def iZ(L:Nat)(S:List bc)(x:bc):Except Int (List bc):=
 if x.at_%2=0/\x.at_+x.bU<=L then(if zg S x.at_ x.bU=true then .error 5 else .ok (S++[x])) else .error 4
def jo(S:List bc)(e:Nat):Prop:=∀x∈S,x.at_+x.bU<=e
theorem J1{L:Nat}{S:List bc}{x:bc}{e:Nat}(hS:jo S e)(he:e<=x.at_)(h1:x.at_%2=0)(h2:x.at_+x.bU<=L):iZ L S x=.ok (S++[x]):=by
 have hc:zg S x.at_ x.bU=false:=by
  unfold zg
  rw[List.any_eq_false]
  intro s hs
  have:=hS s hs
  grind
 unfold iZ
 grind
theorem jo.add{S:List bc}{e:Nat}(h:jo S e){x:bc}{e':Nat}(h1:e<=e')(h2:x.at_+x.bU<=e'):jo (S++[x]) e':=by
 intro y hy
 rcases List.mem_append.1 hy with hy|hy
 ·have:=h y hy;omega
 grind
theorem jo.mono{S:List bc}{e e':Nat}(h:jo S e)(h1:e<=e'):jo S e':=λx hx=>Nat.le_trans (h x hx) h1
def oI(b:List UInt8)(order:Int)(no:Nat)(S:List bc)(x:aY):Except Int (aD×List bc):=
 if(kindOf x.ty).1 =0\/x.ar<1\/65536<x.ar then .error 6
 else if bu x.ty x.ar=0 then
  match mB x.ty x.ar (aN x.slot 4 order) order with
  |some d=>.ok (⟨x.tag,x.ty,x.ar,d⟩,S)
  |none=>.error 6
 else match iZ b.length S ⟨3,no,x.tag,x.slot,bu x.ty x.ar⟩ with
  | .error e=>.error e
  | .ok S'=>match mB x.ty x.ar (b.drop x.slot) order with
   |some d=>.ok (⟨x.tag,x.ty,x.ar,d⟩,S')
   |none=>.error 6
def iy(own:Int->Bool)(b:List UInt8)(order:Int)(no:Nat):List aY->List bc->Except Int (List aD×List bc)
 |[],S=>.ok ([],S)
 |x::xs,S=>
  if own x.tag=true then(if x.ty=4/\x.ar=1 then iy own b order no xs S else .error 6)
  else match oI b order no S x with
   | .error e=>.error e
   | .ok (t,S1)=>match iy own b order no xs S1 with
    | .error e=>.error e
    | .ok (ts,S2)=>.ok (t::ts,S2)
def jJ(rd:Nat->Nat->Nat->List bc->Except Int (aK×Nat×Nat×List bc))(S:aP):List aY->Nat->List bc->Except Int (bW×Nat×List bc)
 |[],no,Sp=>.ok (.nil,no,Sp)
 |x::xs,no,Sp=>match rd x.slot ((ji S x.tag).getD 0) no Sp with
  | .error e=>.error e
  | .ok (d,next,no1,S1)=>if next≠0 then .error 2 else match jJ rd S xs no1 S1 with
   | .error e=>.error e
   | .ok (r,no2,S2)=>.ok (.cons x.tag d r,no2,S2)
def iI(b:List UInt8)(order:Int)(sh:List aP):Nat->Nat->Nat->Nat->List bc->Except Int (aK×Nat×Nat×List bc)
 |0,_,_,_,_=>.error 0
 |f+1,at_,s,no,Sp=>
  if at_%2=0/\at_+2<=b.length then
   if bK b at_ 2 order=0 then .error 2
   else match iZ b.length Sp ⟨2,no,0,at_,6+12*bK b at_ 2 order⟩ with
    | .error e=>.error e
    | .ok S1=>
     if dD (iq b order (at_+2) (bK b at_ 2 order))=true then
      match iy (dw (aH sh s)) b order no (iq b order (at_+2) (bK b at_ 2 order)) S1 with
      | .error e=>.error e
      | .ok (tags,S2)=>
       if((iq b order (at_+2) (bK b at_ 2 order)).filter λx=>dY (aH sh s) x.tag).length=1 then .error 6
       else match jJ (iI b order sh f) (aH sh s) ((iq b order (at_+2) (bK b at_ 2 order)).filter λx=>dV (aH sh s) x.tag) (no+1) S2 with
        | .error e=>.error e
        | .ok (subs,no',S3)=>
         match(iq b order (at_+2) (bK b at_ 2 order)).filter λx=>dY (aH sh s) x.tag with
         |[p,q]=>
          if q.slot=0 then .error 6
          else match iZ b.length S3 ⟨4,no,0,p.slot,q.slot⟩ with
           | .error e=>.error e
           | .ok S4=>.ok (.mk tags subs ((b.drop p.slot).take q.slot),bK b (at_+2+12*bK b at_ 2 order) 4 order,no',S4)
         |_=>.ok (.mk tags subs [],bK b (at_+2+12*bK b at_ 2 order) 4 order,no',S3)
     else .error 2
  else .error 4
theorem Px{own:Int->Bool}{b:List UInt8}{order:Int}{no:Nat}:∀(l:List aY)(S:List bc),(∀x∈l,own x.tag=true->x.ty=4/\x.ar=1)->iy own b order no l S=iy (λ_=>false) b order no (l.filter λx=>!own x.tag) S
 |[],S,_=>rfl
 |x::xs,S,h=>by
  have ih:=λS=>Px (b:=b) (order:=order) (no:=no) xs S λy hy=>h y (by grind)
  rw[List.filter_cons]
  by_cases hx:own x.tag=true
  ·rw[if_neg (by grind),iy,if_pos hx,if_pos (h x (by simp) hx),ih]
  ·rw[if_pos (by grind),iy,iy]
   simp_all
theorem UO{t:aD}{order:Int}(hm:cX t.ty t.ar t.data=true)(ho:bu t.ty t.ar=0):mB t.ty t.ar (aN (mr order t) 4 order) order=some t.data:=by
 have hl:t.data.length<=4:=by
  have:=tG hm
  rw[ho] at this
  split at this
  ·assumption
  ·omega
 have hlen:(ja order t++List.replicate (4 -t.data.length) (0:UInt8)).length=4:=by
  rw[List.length_append,uR,List.length_replicate];omega
 have e:aN (mr order t) 4 order=ja order t++List.replicate (4 -t.data.length) (0:UInt8):=by
  unfold mr
  have:=O9 [] (ja order t++List.replicate (4 -t.data.length) (0:UInt8)) [] 4 order hlen
  simp only[List.nil_append,List.append_nil,List.length_nil] at this
  rw[this]
  exact Zq _ 4 order hlen
 rw[e]
 unfold ja
 exact NV hm _
theorem G5{b:List UInt8}{order:Int}{no:Nat}:∀(ts:List aD)(pre post:List UInt8)(e:Nat)(S:List bc),(∀t∈ts,cX t.ty t.ar t.data=true)->b=pre++(eS order e ts++post)->pre.length=e->jo S e->
 iy (λ_=>false) b order no (da order e ts) S=.ok (ts,S++cw no e ts)/\jo (S++cw no e ts) (bJ e ts)
 |[],pre,post,e,S,_,_,_,hS=>by
  refine⟨by simp[da,iy,cw],?_⟩
  unfold bJ cw
  simpa using hS
 |t::ts,pre,post,e,S,hm,hb,hp,hS=>by
  have hmt:=hm t (by simp)
  have hms:∀t∈ts,cX t.ty t.ar t.data=true:=λt ht=>hm t (by simp[ht])
  obtain⟨k1,k2,k3,k4⟩:=rk hmt
  by_cases ho:bu t.ty t.ar=0
  ·have hb':b=pre++(eS order e ts++post):=by rw[hb,eS,if_pos ho]
   obtain⟨i1,i2⟩:=G5 ts pre post e S hms hb' hp hS
   have hv:oI b order no S ⟨t.tag,t.ty,t.ar,mr order t⟩=.ok (t,S):=by
    unfold oI
    rw[if_neg (by simp only;omega),if_pos ho]
    simp only[UO hmt ho]
   refine⟨?_,by rw[cw,if_pos ho,bJ,if_pos ho];exact i2⟩
   rw[da,if_pos ho,iy,if_neg (by simp),cw,if_pos ho]
   simp_all
  ·have hb':b=pre++(cN e++(ja order t++(eS order (aA e+bu t.ty t.ar) ts++post))):=by rw[hb,eS,if_neg ho];simp
   have hpe:pre.length+(cN e).length=aA e:=by rw[hp];exact nc e
   have hol:bu t.ty t.ar=t.data.length:=by have:=tG hmt;rw[this] at ho⊢;split<;>simp_all
   have htk:iZ b.length S ⟨3,no,t.tag,aA e,bu t.ty t.ar⟩=.ok (S++[⟨3,no,t.tag,aA e,bu t.ty t.ar⟩]):=J1 hS (kB e) (EP e) (by rw[hb'];simp only[List.length_append,uR];omega)
   have hd:b.drop (aA e)=ja order t++(eS order (aA e+bu t.ty t.ar) ts++post):=by
    have:b=(pre++cN e)++(ja order t++(eS order (aA e+bu t.ty t.ar) ts++post)):=by rw[hb'];simp
    rw[this,<-hpe,<-List.length_append,List.drop_left]
   have hv:oI b order no S ⟨t.tag,t.ty,t.ar,aA e⟩=.ok (t,S++[⟨3,no,t.tag,aA e,bu t.ty t.ar⟩]):=by
    unfold oI
    rw[if_neg (by simp only;omega),if_neg ho]
    simp_all
    unfold ja
    rw[NV hmt]
   have hS1:jo (S++[⟨3,no,t.tag,aA e,bu t.ty t.ar⟩]) (aA e+bu t.ty t.ar):=hS.add (by have:=kB e;omega) (Nat.le_refl _)
   obtain⟨i1,i2⟩:=G5 (b:=b) (order:=order) (no:=no) ts (pre++(cN e++ja order t)) post (aA e+bu t.ty t.ar) _ hms (by rw[hb'];simp) (by simp[uR];omega) hS1
   refine⟨?_,by rw[cw,if_neg ho,bJ,if_neg ho];simpa using i2⟩
   rw[da,if_neg ho,iy,hv,cw,if_neg ho]
   simp only[i1]
   simp
end
section
set_option linter.unusedVariables false
set_option linter.unusedSimpArgs false
set_option linter.unusedSectionVars false
set_option linter.constructorNameAsVariable false
theorem FX{order:Int}{x:aY}:∀{ts:List aD}{e:Nat},x∈da order e ts->∃t∈ts,x.tag=t.tag/\x.ty=t.ty/\x.ar=t.ar
 |[],e,h=>by cases h
 |t::ts,e,h=>by
  unfold da at h
  split at h
  ·rcases List.mem_cons.1 h with rfl|h
   ·simp
   ·obtain⟨u,hu,r⟩:=FX h
    grind
  ·rcases List.mem_cons.1 h with rfl|h
   ·simp
   ·obtain⟨u,hu,r⟩:=FX h
    grind
theorem NG{x:aY}:∀{r:bW}{e:Nat},x∈fT e r->x.tag∈iY r/\x.ty=4/\x.ar=1
 | .nil,e,h=>by unfold fT at h;cases h
 | .cons tag d r,e,h=>by
  unfold iY
  rcases List.mem_cons.1 h with rfl|h
  ·simp
  ·obtain⟨h1,h2⟩:=NG h
   grind
theorem LG{order:Int}:∀{ts:List aD}{e:Nat},ed ts=true->dD (da order e ts)=true
 |[],e,_=>rfl
 |[t],e,_=>by unfold da;split<;>rfl
 |t::u::ts,e,h=>by
  simp[ed] at h
  have key:∀(x:aY)(e':Nat),x.tag=t.tag->dD (x::da order e' (u::ts))=true:=by
   intro x e' hx
   have ih:=LG (order:=order) (e:=e') h.2
   rw[da] at ih⊢
   split at ih
   ·rename_i ho
    rw[if_pos ho]
    simp[dD]
    exact⟨by rw[hx];exact h.1,ih⟩
   ·rename_i ho
    rw[if_neg ho]
    simp[dD]
    exact⟨by rw[hx];exact h.1,ih⟩
  rw[da]
  split<;>grind
theorem LF:∀{r:bW}{e:Nat},kN (iY r)=true->dD (fT e r)=true
 | .nil,e,_=>rfl
 | .cons tag d .nil,e,_=>rfl
 | .cons tag d (.cons tag' d' r),e,h=>by
  simp[iY,kN] at h
  have ih:=LF (r:=.cons tag' d' r) (e:=bg e d) (by simp only[iY];exact h.2)
  simp[fT,dD] at ih⊢
  simp_all
structure qx(S:aP):Prop where
 bt:∀x∈S.bt,0<=x.tag/\x.tag<65536/\dY S x.tag=false
 pair:S.at_≠0->1<=S.at_/\S.at_<S.bU/\S.bU<65536
theorem TM{S:aP}(hS:qx S){e:Nat}{blob:List UInt8}(h:blob.length=0\/S.at_≠0):dD (fA S e blob)=true:=by
 unfold fA
 split
 ·rfl
 ·have:=hS.pair (h.resolve_left (by grind))
  simp[dD];omega
theorem VX{S:aP}{e:Nat}{blob:List UInt8}{x:aY}(h:blob.length=0\/S.at_≠0)(hx:x∈fA S e blob):dY S x.tag=true/\x.ty=4/\x.ar=1:=by
 unfold fA at hx
 split at hx
 ·grind
 ·have:=h.resolve_left (by grind)
  simp_all
  rcases hx with rfl|rfl<;>simp[dY,this]
theorem FN{S:aP}{tag:Int}(h:dV S tag=true):∃x∈S.bt,x.tag=tag:=by
 unfold dV at h
 grind
theorem zM{sh:List aP}{S:aP}:∀{r:bW},gx sh S r=true->∀tag∈iY r,dV S tag=true
 | .nil,_,tag,h=>by unfold iY at h;cases h
 | .cons t d r,h,tag,ht=>by
  simp[gx] at h
  simp[iY] at ht
  rcases ht with rfl|ht
  ·grind
  ·exact zM h.2.2 tag ht
theorem K4{order:Int}{sh:List aP}{S:aP}(hS:qx S){tags:List aD}{subs:bW}{blob:List UInt8}{e1 e2 e3:Nat}(ht:iB S tags=true)(hb:blob.length=0\/S.at_≠0)(hr:kN (iY subs)=true)(hs:gx sh S subs=true){E:List aY}
 (hE:E=eY (da order e1 tags++(fT e2 subs++fA S e3 blob))):
 dD E=true/\(E.filter λx=>!dw S x.tag)=da order e1 tags/\(E.filter λx=>dV S x.tag)=fT e2 subs/\(E.filter λx=>dY S x.tag)=fA S e3 blob/\(∀x∈E,dw S x.tag=true->x.ty=4/\x.ar=1):=by
 simp[iB] at ht
 have lV:∀x∈da order e1 tags,dw S x.tag=false:=λx hx=>by
  obtain⟨t,h1,h2,_⟩:=FX hx
  rw[h2];exact(ht.2 t h1).2.1
 have lS:∀x∈fT e2 subs,dV S x.tag=true/\dY S x.tag=false/\x.ty=4/\x.ar=1:=λx hx=>by
  obtain⟨h1,h2⟩:=NG hx
  have hl:=zM hs _ h1
  obtain⟨y,y1,y2⟩:=FN hl
  exact⟨hl,by rw[<-y2];exact(hS.bt y y1).2.2,h2⟩
 have lB:∀x∈fA S e3 blob,dV S x.tag=false/\dY S x.tag=true/\x.ty=4/\x.ar=1:=λx hx=>by
  obtain⟨h1,h2⟩:=VX hb hx
  refine⟨?_,h1,h2⟩
  cases hl:dV S x.tag with
  |false=>rfl
  |true=>
   obtain⟨y,y1,y2⟩:=FN hl
   have:=(hS.bt y y1).2.2
   rw[y2,h1] at this
   cases this
 have own_of:∀tag,dw S tag=(dV S tag||dY S tag):=λ_=>rfl
 have vV:=LG (order:=order) (e:=e1) ht.1
 have vS:=LF (e:=e2) hr
 have vB:=TM hS (e:=e3) hb
 have fall:∀(l:List aY)(p:aY->Bool),(∀x∈l,p x=true)->l.filter p=l:=λl p h=>List.filter_eq_self.2 h
 have fnone:∀(l:List aY)(p:aY->Bool),(∀x∈l,p x=false)->l.filter p=[]:=λl p h=>List.filter_eq_nil_iff.2 λx hx=>by simp_all
 have notlink:∀x∈da order e1 tags,dV S x.tag=false/\dY S x.tag=false:=λx hx=>by
  have:=lV x hx
  rw[own_of,Bool.or_eq_false_iff] at this
  exact this
 subst hE
 refine⟨?_,?_,?_,?_,?_⟩
 ·refine FB (Ea (ve vV) (Ea (ve vS) (ve vB) ?_) ?_)
  ·intro x hx y hy e
   have:=(lS x hx).2.1
   rw[<-e,(lB y hy).2.1] at this
   cases this
  ·intro x hx y hy e
   rcases List.mem_append.1 hy with hy|hy<;>grind
 ·rw[zH,List.filter_append,List.filter_append,fall _ _ (λx hx=>by simp[lV x hx]),fnone _ _ (λx hx=>by simp[own_of,(lS x hx).1]),fnone _ _ (λx hx=>by simp_all)]
  simp
  exact zV vV
 ·rw[zH,List.filter_append,List.filter_append,fnone _ _ (λx hx=>(notlink x hx).1),fall _ _ (λx hx=>(lS x hx).1),fnone _ _ (λx hx=>(lB x hx).1)]
  simp
  exact zV vS
 ·rw[zH,List.filter_append,List.filter_append,fnone _ _ (λx hx=>(notlink x hx).2),fnone _ _ (λx hx=>(lS x hx).2.1),fall _ _ (λx hx=>(lB x hx).2.1)]
  exact zV vB
 ·intro x hx ho
  rcases List.mem_append.1 (tj.1 hx) with hx|hx
  ·rw[lV x hx] at ho;cases ho
  ·rcases List.mem_append.1 hx with hx|hx
   ·exact(lS x hx).2.2
   ·exact(lB x hx).2.2
mutual
def eB:aK->Nat
 | .mk _ subs _=>ij subs+1
def ij:bW->Nat
 | .nil=>0
 | .cons _ d r=>max (eB d) (ij r)
end
theorem Nc{ty:Int}(h:(kindOf ty).1 ≠0):0<=ty/\ty<65536:=by
 by_cases o:ty<1\/12<ty
 ·rw[zZ o] at h;exact absurd rfl h
 grind
theorem ZG(l:List UInt8)(order:Int):fD (fj l 0 4 order)<4294967296:=by
 have h:=F6 (fj l 0 4 order)
 have hl:(fj l 0 4 order).length<=4:=by
  unfold fj;split<;>simp<;>omega
 have:256^(fj l 0 4 order).length<=256^4:=Nat.pow_le_pow_right (by simp) hl
 omega
theorem zx{S:aP}{order:Int}:∀{ts:List aD}{e:Nat},(∀t∈ts,km t.tag=true/\cX t.ty t.ar t.data=true)->bJ e ts<4294967296->∀x∈da order e ts,jN x
 |[],_,_,_,x,hx=>by cases hx
 |t::ts,e,h,he,x,hx=>by
  obtain⟨h1,h2⟩:=h t (by simp)
  obtain⟨k1,k2,k3,k4⟩:=rk h2
  have hs:∀t∈ts,km t.tag=true/\cX t.ty t.ar t.data=true:=λt ht=>h t (by simp[ht])
  have ht:0<=t.tag/\t.tag<65536:=by simpa[km] using h1
  unfold da at hx
  unfold bJ at he
  split at hx
  ·rename_i ho
   rw[if_pos ho] at he
   rcases List.mem_cons.1 hx with rfl|hx
   ·exact⟨ht,Nc k1,by simp only;omega,ZG _ _⟩
   ·exact zx (S:=S) hs he x hx
  ·rename_i ho
   rw[if_neg ho] at he
   have:=ny ts (aA e+bu t.ty t.ar)
   rcases List.mem_cons.1 hx with rfl|hx
   ·exact⟨ht,Nc k1,by simp only;omega,by simp only;omega⟩
   ·exact zx (S:=S) hs he x hx
theorem EI{S:aP}(hS:qx S):∀{r:bW}{e:Nat},(∀tag∈iY r,dV S tag=true)->cW e r<4294967296->∀x∈fT e r,jN x
 | .nil,_,_,_,x,hx=>by unfold fT at hx;cases hx
 | .cons tag d r,e,h,he,x,hx=>by
  unfold cW at he
  unfold iY at h
  have h0:=pw r (bg e d)
  have h1:aA e<4294967296:=by
   have:aA e<=bg e d:=by
    cases d with
    |mk tags subs blob=>
     unfold bg
     have h2:=ny tags (aA e+(6+12*bh (.mk tags subs blob)))
     have h3:=pw subs (bJ (aA e+(6+12*bh (.mk tags subs blob))) tags)
     have h4:=kB (cW (bJ (aA e+(6+12*bh (.mk tags subs blob))) tags) subs)
     split<;>omega
   omega
  rcases List.mem_cons.1 hx with rfl|hx
  ·obtain⟨y,y1,y2⟩:=FN (h tag (by simp))
   have:=hS.bt y y1
   exact⟨by simp only;omega,by simp only;omega,by simp only;omega,h1⟩
  ·exact EI hS (λt ht=>h t (by simp[ht])) he x hx
theorem GN{d:aK}{e:Nat}:aA e+6<=bg e d:=by
 cases d with
 |mk tags subs blob=>
  unfold bg
  have h2:=ny tags (aA e+(6+12*bh (.mk tags subs blob)))
  have h3:=pw subs (bJ (aA e+(6+12*bh (.mk tags subs blob))) tags)
  have h4:=kB (cW (bJ (aA e+(6+12*bh (.mk tags subs blob))) tags) subs)
  grind
mutual
theorem Pz{order:Int}(ho:order=1\/order=2){sh:List aP}(hsh:∀s,qx (aH sh s)):∀(d:aK)(s next e f no:Nat)(Sp:List bc)(pre post b:List UInt8),
 bX sh s d=true->b=pre++(gF order sh s next e d++post)->pre.length=e->bg e d<4294967296->next<4294967296->jo Sp e->eB d<=f->
 iI b order sh f (aA e) s no Sp=.ok (d,next,no+cJ d,Sp++eG no e d)/\jo (Sp++eG no e d) (bg e d)
 | .mk tags subs blob,s,next,e,0,no,Sp,pre,post,b,h,hb,hp,hlt,hnx,hSp,hf=>by unfold eB at hf;omega
 | .mk tags subs blob,s,next,e,f+1,no,Sp,pre,post,b,h,hb,hp,hlt,hnx,hSp,hf=>by
  have hlen:=o7 order sh (.mk tags subs blob) s next e h
  simp only[bX,Bool.and_eq_true,Bool.or_eq_true,decide_eq_true_eq] at h
  obtain⟨⟨n1,n2⟩,ht,hbl,hr,hs⟩:=h
  have htg:∀t∈tags,km t.tag=true/\cX t.ty t.ar t.data=true:=λt h=>by
   simp only[iB,Bool.and_eq_true,List.all_eq_true] at ht
   exact⟨(ht.2 t h).1,(ht.2 t h).2.2⟩
  obtain⟨N,hN⟩:∃N,bh (.mk tags subs blob)=N:=⟨_,rfl⟩
  obtain⟨e1,he1⟩:∃e1,aA e+(6+12*N)=e1:=⟨_,rfl⟩
  obtain⟨e2,he2⟩:∃e2,bJ e1 tags=e2:=⟨_,rfl⟩
  obtain⟨e3,he3⟩:∃e3,cW e2 subs=e3:=⟨_,rfl⟩
  obtain⟨S,hS⟩:∃S,aH sh s=S:=⟨_,rfl⟩
  have hSo:=hsh s
  rw[hS] at hSo ht hbl hs
  have g1:=kB e
  have g2:=ny tags e1
  have g3:=pw subs e2
  have g4:=kB e3
  rw[he2] at g2
  rw[he3] at g3
  have hend:bg e (.mk tags subs blob)=if blob.length=0 then e3 else aA e3+blob.length:=by rw[bg,hN,he1,he2,he3]
  rw[hend] at hlt hlen
  have h3lt:e3<4294967296/\(blob.length=0\/aA e3+blob.length<4294967296):=by split at hlt<;>omega
  obtain⟨E,hE⟩:∃E,eY (da order e1 tags++(fT e2 subs++fA S e3 blob))=E:=⟨_,rfl⟩
  obtain⟨c1,c2,c3,c4,c5⟩:=K4 hSo ht hbl hr hs hE.symm
  have hEn:E.length=N:=by
   rw[<-hE,vT,List.length_append,List.length_append,py,vC,zw,<-hN]
   show _=tags.length+bI subs+(if blob.length=0 then 0 else 2)
   omega
  have hEo:∀x∈E,jN x:=by
   intro x hx
   rw[<-hE] at hx
   rcases List.mem_append.1 (tj.1 hx) with hx|hx
   ·exact zx (S:=S) htg (by rw[he2];omega) x hx
   ·rcases List.mem_append.1 hx with hx|hx
    ·exact EI hSo (zM hs) (by rw[he3];omega) x hx
    ·unfold fA at hx
     split at hx
     ·cases hx
     ·have hat:=hSo.pair (hbl.resolve_left (by assumption))
      simp only[List.mem_cons,List.not_mem_nil,or_false] at hx
      rcases hx with rfl|rfl
      ·exact⟨by simp only;omega,by simp only;omega,by simp only;omega,by simp only;omega⟩
      ·exact⟨by simp only;omega,by simp only;omega,by simp only;omega,by simp only;omega⟩
  obtain⟨bl,hblob⟩:∃bl,(if blob.length=0 then[] else cN e3++blob)=bl:=⟨_,rfl⟩
  have hbd:gF order sh s next e (.mk tags subs blob)=cN e++(iS order E next++(eS order e1 tags++(ig order sh S e2 subs++bl))):=by
   rw[gF,hN,he1,he2,he3,hS,hE,hblob]
  rw[hbd] at hlen hb
  have gI:=Ll order E next
  rw[hEn] at gI
  have hpl:=nc e
  have hvl:=Du order tags e1 λt h=>(htg t h).2
  have hsl:=El order sh subs S e2 hs
  rw[he2] at hvl
  rw[he3] at hsl
  have hbL:b.length=e1+(eS order e1 tags).length+(ig order sh S e2 subs).length+bl.length+post.length:=by
   rw[hb];simp only[List.length_append,gI];omega
  have hbll:bl.length=if blob.length=0 then 0 else aA e3 -e3+blob.length:=by
   rw[<-hblob]
   have:=nc e3
   split
   ·rfl
   ·rw[List.length_append];omega
  have hat:aA e=(pre++cN e).length:=by rw[List.length_append];omega
  have hnum:bK b (aA e) 2 order=N:=by
   refine kJ (pre:=pre++cN e) (post:=(E.flatMap (gu order)++aN next 4 order)++(eS order e1 tags++(ig order sh S e2 subs++(bl++post)))) ?_ hat (.inr (.inl rfl)) ho (by omega)
   rw[hb,iS,hEn];simp
  have hents:iq b order (aA e+2) N=E:=by
   have:=LH ho E (pre++(cN e++aN N 2 order)) (aN next 4 order++(eS order e1 tags++(ig order sh S e2 subs++(bl++post)))) (aA e+2) (b:=b) (by rw[hb,iS,hEn];simp) (by simp only[List.length_append,db];omega) hEo
   rwa[hEn] at this
  have hnext:bK b (aA e+2+12*N) 4 order=next:=by
   refine kJ (pre:=pre++(cN e++(aN N 2 order++E.flatMap (gu order)))) (post:=eS order e1 tags++(ig order sh S e2 subs++(bl++post))) (by rw[hb,iS,hEn];simp) ?_ (.inr (.inr rfl)) ho (by omega)
   simp only[List.length_append,db,sR,hEn];omega
  have hee:=EP e
  have htk:iZ b.length Sp ⟨2,no,0,aA e,6+12*N⟩=.ok (Sp++[⟨2,no,0,aA e,6+12*N⟩]):=J1 hSp g1 hee (by simp only;omega)
  have hS1:jo (Sp++[⟨2,no,0,aA e,6+12*N⟩]) e1:=hSp.add (by omega) (by simp only;omega)
  obtain⟨v1,v2⟩:=G5 (b:=b) (order:=order) (no:=no) tags (pre++(cN e++iS order E next)) (ig order sh S e2 subs++(bl++post)) e1 _ (λt h=>(htg t h).2) (by rw[hb];simp) (by simp only[List.length_append,gI];omega) hS1
  rw[he2] at v2
  have hT:iy (dw S) b order no E (Sp++[⟨2,no,0,aA e,6+12*N⟩])=.ok (tags,Sp++[⟨2,no,0,aA e,6+12*N⟩]++cw no e1 tags):=by
   rw[Px E _ c5,c2];exact v1
  have ir:ij subs<=f:=by unfold eB at hf;omega
  obtain⟨s1,s2⟩:=PA ho hsh subs S e2 f (no+1) (Sp++[⟨2,no,0,aA e,6+12*N⟩]++cw no e1 tags) (pre++(cN e++(iS order E next++eS order e1 tags))) (bl++post) b hs (by rw[hb];simp) (by simp only[List.length_append,gI];omega) (by rw[he3];omega) v2 ir
  rw[he3] at s2
  have pF:no+cJ (.mk tags subs blob)=no+1+fS subs:=by unfold cJ;omega
  have hsp:eG no e (.mk tags subs blob)=⟨2,no,0,aA e,6+12*N⟩::(cw no e1 tags++(iN (no+1) e2 subs++(if blob.length=0 then[] else[⟨4,no,0,aA e3,blob.length⟩]))):=by
   rw[eG,hN,he1,he2,he3]
  rw[pF,hsp,hend]
  unfold iI
  rw[if_pos ⟨hee,by omega⟩,hnum,if_neg (by omega)]
  simp only[htk]
  rw[hents,if_pos c1,hS]
  simp only[hT]
  rw[c4,c3]
  by_cases hz:blob.length=0
  ·have hB:fA S e3 blob=[]:=by unfold fA;rw[if_pos hz]
   have hbl0:blob=[]:=List.eq_nil_of_length_eq_zero hz
   rw[hB,if_neg (by simp)]
   simp only[s1,hnext,if_pos hz,List.append_nil]
   subst hbl0
   refine⟨by simp,by simpa using s2⟩
  ·have hB:fA S e3 blob=[⟨S.at_,4,1,aA e3⟩,⟨S.bU,4,1,blob.length⟩]:=by unfold fA;rw[if_neg hz]
   rw[if_neg hz] at hblob hbll
   rw[hB,if_neg (by simp)]
   simp only[s1]
   rw[if_neg hz]
   have htb:iZ b.length (Sp++[⟨2,no,0,aA e,6+12*N⟩]++cw no e1 tags++iN (no+1) e2 subs) ⟨4,no,0,aA e3,blob.length⟩=.ok (Sp++[⟨2,no,0,aA e,6+12*N⟩]++cw no e1 tags++iN (no+1) e2 subs++[⟨4,no,0,aA e3,blob.length⟩]):=
    J1 s2 g4 (EP e3) (by simp only;omega)
   simp only[htb]
   have hdrop:(b.drop (aA e3)).take blob.length=blob:=by
    have hp3:=nc e3
    have e':b=(pre++(cN e++(iS order E next++(eS order e1 tags++(ig order sh S e2 subs++cN e3)))))++(blob++post):=by rw[hb,<-hblob];simp
    have el:(pre++(cN e++(iS order E next++(eS order e1 tags++(ig order sh S e2 subs++cN e3))))).length=aA e3:=by simp only[List.length_append,gI];omega
    rw[e',<-el,List.drop_left,List.take_left]
   rw[hdrop,hnext,if_neg hz,if_neg hz]
   refine⟨by simp,?_⟩
   have:=s2.add (x:=⟨4,no,0,aA e3,blob.length⟩) (e':=aA e3+blob.length) (by omega) (Nat.le_refl _)
   simpa using this
theorem PA{order:Int}(ho:order=1\/order=2){sh:List aP}(hsh:∀s,qx (aH sh s)):∀(r:bW)(S:aP)(e f no:Nat)(Sp:List bc)(pre post b:List UInt8),
 gx sh S r=true->b=pre++(ig order sh S e r++post)->pre.length=e->cW e r<4294967296->jo Sp e->ij r<=f->
 jJ (iI b order sh f) S (fT e r) no Sp=.ok (r,no+fS r,Sp++iN no e r)/\jo (Sp++iN no e r) (cW e r)
 | .nil,S,e,f,no,Sp,pre,post,b,h,hb,hp,hlt,hSp,hf=>by
  unfold fT iN cW fS
  refine⟨by simp[jJ],by simpa using hSp⟩
 | .cons tag d r,S,e,f,no,Sp,pre,post,b,h,hb,hp,hlt,hSp,hf=>by
  simp only[gx,Bool.and_eq_true] at h
  unfold cW at hlt
  unfold ij at hf
  have g:=pw r (bg e d)
  rw[ig,List.append_assoc] at hb
  have hl:=o7 order sh d ((ji S tag).getD 0) 0 e h.2.1
  obtain⟨d1,d2⟩:=Pz ho hsh d ((ji S tag).getD 0) 0 e f no Sp pre (ig order sh S (bg e d) r++post) b h.2.1 hb hp (by omega) (by omega) hSp (by omega)
  obtain⟨r1,r2⟩:=PA ho hsh r S (bg e d) f (no+cJ d) _ (pre++gF order sh ((ji S tag).getD 0) 0 e d) post b h.2.2 (by rw[hb];simp) (by rw[List.length_append];omega) hlt d2 (by omega)
  unfold fT iN cW fS
  refine⟨?_,by simpa using r2⟩
  rw[jJ]
  simp only[d1,r1]
  simp[Nat.add_assoc]
end
end
section
set_option linter.unusedVariables false
set_option linter.unusedSimpArgs false
set_option linter.unusedSectionVars false
set_option linter.constructorNameAsVariable false
structure gp(sh:List aP):Prop where
 ok:∀s,qx (aH sh s)
 bt:∀s,s<sh.length->∀x∈(aH sh s).bt,(s:Int)<x.shape/\x.shape<sh.length
 next:∀s,s<sh.length->(aH sh s).next<0\/((s:Int)<(aH sh s).next/\(aH sh s).next<sh.length)
theorem VB{S:aP}{tag:Int}(h:dV S tag=true):∃x∈S.bt,(ji S tag).getD 0=x.shape.toNat:=by
 unfold dV at h
 unfold ji
 cases hf:S.bt.find? (λx=>x.tag==tag) with
 |none=>grind
 |some x=>grind
mutual
theorem Li{sh:List aP}(hsh:gp sh):∀(d:aK)(s:Nat),bX sh s d=true->s<sh.length->eB d+s<=sh.length
 | .mk tags subs blob,s,h,hs=>by
  simp[bX] at h
  have:=Lj hsh subs s h.2.2.2.2 hs
  unfold eB;omega
theorem Lj{sh:List aP}(hsh:gp sh):∀(r:bW)(s:Nat),gx sh (aH sh s) r=true->s<sh.length->ij r+s+1<=sh.length
 | .nil,s,_,hs=>by unfold ij;omega
 | .cons tag d r,s,h,hs=>by
  simp[gx] at h
  obtain⟨x,hx,e⟩:=VB h.1
  have hl:=hsh.bt s hs x hx
  have h1:=Li hsh d ((ji (aH sh s) tag).getD 0) h.2.1 (by grind)
  have h2:=Lj hsh r s h.2.2 hs
  unfold ij
  omega
end
def cV(e:Nat):List aK->Nat
 |[]=>e
 |d::ds=>cV (bg e d) ds
def gj:List aK->Nat
 |[]=>0
 |d::ds=>cJ d+gj ds
def gX(no e:Nat):List aK->List bc
 |[]=>[]
 |d::ds=>eG no e d++gX (no+cJ d) (bg e d) ds
def na(e:Nat)(d:aK)(ds:List aK):Nat:=if ds.isEmpty then 0 else aA (bg e d)
def je(order:Int)(sh:List aP)(s:Int)(e:Nat):List aK->List UInt8
 |[]=>[]
 |d::ds=>gF order sh s.toNat (na e d ds) e d++je order sh (aH sh s.toNat).next (bg e d) ds
def eP(sh:List aP)(s:Int):List aK->Bool
 |[]=>true
 |d::ds=>decide (0<=s)&&(bX sh s.toNat d&&eP sh (aH sh s.toNat).next ds)
def dc(t:jO)(sh:List aP):List UInt8:=
 (if t.order=1 then[73,73] else[77,77])++(aN 42 2 t.order++(aN 8 4 t.order++je t.order sh 0 8 t.cS))
def eK(t:jO):List bc:=⟨1,-1,0,0,8⟩::gX 0 8 t.cS
def fq(t:jO):Nat:=cV 8 t.cS
def lH(b:List UInt8)(order:Int)(sh:List aP):Nat->Bool->Nat->Int->Nat->List bc->Except Int (List aK×List bc)
 |0,_,_,_,_,_=>.error 0
 |f+1,first,at_,s,no,Sp=>
  if at_=0/\first=false then .ok ([],Sp)
  else if s<0 then .error 2
  else match iI b order sh sh.length at_ s.toNat no Sp with
   | .error e=>.error e
   | .ok (d,next,no1,S1)=>match lH b order sh f false next (aH sh s.toNat).next no1 S1 with
    | .error e=>.error e
    | .ok (ds,S2)=>.ok (d::ds,S2)
def jj(b:List UInt8):Int:=if b.take 2=[73,73] then 1 else if b.take 2=[77,77] then 2 else 0
def si(b:List UInt8)(sh:List aP):Except Int (jO×List bc):=
 if b.length<8 then .error 3
 else if jj b=0\/bK b 2 2 (jj b)≠42 then .error 2
 else match lH b (jj b) sh (sh.length+2) true (bK b 4 4 (jj b)) 0 0 [⟨1,-1,0,0,8⟩] with
  | .error e=>.error e
  | .ok (ds,S)=>.ok (⟨jj b,ds⟩,S)
theorem K2{order:Int}{sh:List aP}:∀(ds:List aK)(s:Int)(e:Nat),eP sh s ds=true->e+(je order sh s e ds).length=cV e ds
 |[],_,_,_=>rfl
 |d::ds,s,e,h=>by
  simp[eP] at h
  have h1:=o7 order sh d s.toNat (na e d ds) e h.2.1
  have h2:=K2 (order:=order) ds (aH sh s.toNat).next (bg e d) h.2.2
  rw[je,cV,List.length_append]
  omega
theorem mV:∀(ds:List aK)(e:Nat),e<=cV e ds
 |[],e=>Nat.le_refl _
 |d::ds,e=>by
  have:=vw d e
  have:=mV ds (bg e d)
  rw[cV];omega
theorem Py{order:Int}(ho:order=1\/order=2){sh:List aP}(hsh:gp sh):∀(ds:List aK)(s:Int)(e f no:Nat)(first:Bool)(Sp:List bc)(pre b:List UInt8),
 eP sh s ds=true->(first=true->ds≠[])->s<sh.length->b=pre++je order sh s e ds->pre.length=e->0<e->cV e ds<4294967296->jo Sp e->((sh.length:Int) -s).toNat+2<=f->
 lH b order sh f first (if ds.isEmpty then 0 else aA e) s no Sp=.ok (ds,Sp++gX no e ds)
 |[],s,e,f+1,no,first,Sp,pre,b,h,hfi,hs,hb,hp,he,hlt,hSp,hf=>by
  have:first=false:=by cases first with
   |false=>rfl
   |true=>exact absurd rfl (hfi rfl)
  subst this
  rw[lH]
  simp[gX]
 |d::ds,s,e,f+1,no,first,Sp,pre,b,h,hfi,hs,hb,hp,he,hlt,hSp,hf=>by
  simp[eP] at h
  obtain⟨h0,h1,h2⟩:=h
  have g1:=kB e
  have g3:=mV ds (bg e d)
  rw[cV] at hlt
  rw[je] at hb
  have hl:=o7 order sh d s.toNat (na e d ds) e h1
  have hnx:na e d ds<4294967296:=by
   unfold na
   split
   ·decide
   ·cases ds with
    |nil=>rename_i hh;exact absurd rfl hh
    |cons d' ds=>
     have:=GN (d:=d') (e:=bg e d)
     have:=mV ds (bg (bg e d) d')
     rw[cV] at hlt g3
     omega
  obtain⟨d1,d2⟩:=Pz ho hsh.ok d s.toNat (na e d ds) e sh.length no Sp pre (je order sh (aH sh s.toNat).next (bg e d) ds) b h1 hb hp (by omega) hnx hSp (by have:=Li hsh d s.toNat h1 (by omega);omega)
  have hnext:=hsh.next s.toNat (by omega)
  have hr:lH b order sh f false (na e d ds) (aH sh s.toNat).next (no+cJ d) (Sp++eG no e d)=.ok (ds,Sp++eG no e d++gX (no+cJ d) (bg e d) ds):=by
   cases ds with
   |nil=>
    cases f with
    |zero=>omega
    |succ f=>rw[lH,if_pos ⟨rfl,rfl⟩];simp[gX]
   |cons d' ds=>
    have hn:0<=(aH sh s.toNat).next:=by
     simp[eP] at h2
     exact h2.1
    have:=Py ho hsh (d'::ds) (aH sh s.toNat).next (bg e d) f (no+cJ d) false (Sp++eG no e d) (pre++gF order sh s.toNat (na e d (d'::ds)) e d) b h2 (by intro h;cases h) (by omega) (by rw[hb];simp) (by rw[List.length_append];omega) (by omega) hlt d2 (by omega)
    exact this
  rw[lH,if_neg (by simp;omega),if_neg (by omega)]
  simp_all
  simp[gX]
 |_,s,e,0,no,first,Sp,pre,b,h,hfi,hs,hb,hp,he,hlt,hSp,hf=>by omega
theorem uN{t:jO}{sh:List aP}(h:eP sh 0 t.cS=true):(dc t sh).length=fq t:=by
 have:=K2 (order:=t.order) t.cS 0 8 h
 simp[dc,fq,db]
 grind
theorem Sm{t:jO}{sh:List aP}(ho:t.order=1\/t.order=2)(hsh:gp sh)(hl:0<sh.length)(cc:t.cS≠[])(h:eP sh 0 t.cS=true)(hlt:fq t<4294967296):si (dc t sh) sh=.ok (t,eK t):=by
 have h8:=mV t.cS 8
 have hord:jj (dc t sh)=t.order:=by
  unfold jj dc
  rcases ho with e|e<;>rw[e]<;>simp
 obtain⟨sg,hsg⟩:∃sg,(if t.order=1 then[73,73] else[77,77]:List UInt8)=sg:=⟨_,rfl⟩
 have hsl:sg.length=2:=by rw[<-hsg];split<;>rfl
 have hb:dc t sh=sg++(aN 42 2 t.order++(aN 8 4 t.order++je t.order sh 0 8 t.cS)):=by unfold dc;rw[hsg]
 have hat:bK (dc t sh) 4 4 t.order=8:=kJ (pre:=sg++aN 42 2 t.order) (post:=je t.order sh 0 8 t.cS) (by rw[hb];simp) (by simp[hsl,db]) (.inr (.inr rfl)) ho (by decide)
 have hr:=Py ho hsh t.cS 0 8 (sh.length+2) 0 true [⟨1,-1,0,0,8⟩] (sg++(aN 42 2 t.order++aN 8 4 t.order)) (dc t sh) h (λ_=>cc) (by omega) (by rw[hb];simp) (by simp[hsl,db]) (by decide) hlt (by intro x hx;rw[List.mem_singleton.1 hx];decide) (by omega)
 have hem:t.cS.isEmpty=false:=by
  cases hd:t.cS with
  |nil=>exact absurd hd cc
  |cons _ _=>rfl
 rw[hem] at hr
 unfold si
 rw[if_neg (by rw[(uN h)];unfold fq;omega),hord,(kJ hb hsl.symm (.inr (.inl rfl)) ho (by decide)),if_neg (by rcases ho with e|e<;>rw[e]<;>simp)]
 rw[(show(if false=true then 0 else aA 8)=8 from rfl)] at hr
 simp_all
 rfl
end
section
set_option linter.unusedVariables false
set_option linter.unusedSimpArgs false
set_option linter.unusedSectionVars false
set_option linter.constructorNameAsVariable false
def Mz(d:Int):List ((Int×Int)×List Int×Int):=
 ([0x0100,0x0101].map λt=>((d,t),[3,4],1))++([0x0103,0x0112,0x0128,0x0213].map λt=>((d,t),[3],1))++
 ([0x010e,0x010f,0x0110,0x0131,0x013b,0x8298].map λt=>((d,t),[2],0))++[((d,0x0132),[2],20),((d,0x011a),[5],1),((d,0x011b),[5],1)]
def ZE(d:Int):List ((Int×Int)×List Int×Int):=
 ([0x829a,0x829d,0x9202,0x920a].map λt=>((d,t),[5],1))++([0x8822,0x9207,0x9208,0x9209,0xa001,0xa402].map λt=>((d,t),[3],1))++
 ([0x9000,0x9101,0xa000].map λt=>((d,t),[7],4))++([0x9201,0x9204].map λt=>((d,t),[10],1))++([0x9003,0x9004].map λt=>((d,t),[2],20))++
 ([0xa002,0xa003].map λt=>((d,t),[3,4],1))++[((d,0x8827),[3],0),((d,0x9286),[7],0),((d,0x9290),[2],0),((d,0xa300),[7],1),((d,0xa420),[2],33),((d,0xa432),[5],4)]
def Uv(d:Int):List ((Int×Int)×List Int×Int):=
 [((d,0x00),[1],4),((d,0x05),[1],1),((d,0x06),[5],1)]++([0x01,0x03].map λt=>((d,t),[2],2))++([0x02,0x04,0x07].map λt=>((d,t),[5],3))++
 [((d,0x12),[2],0),((d,0x1d),[2],11)]
def ady(d:Int):List ((Int×Int)×List Int×Int):=
 [((d,0xb000),[7],4)]++([0xb101,0xb201,0xb202].map λt=>((d,t),[4],1))++([0xb204,0xb206].map λt=>((d,t),[5],1))++([0xb205,0xb208].map λt=>((d,t),[10],1))
def PZ:List ((Int×Int)×List Int×Int):=
 Mz 0++Mz 1++ZE 2++Uv 3++[((4,1),[2],4),((4,2),[7],4)]++ady 5
def Hh(d t:Int):Option (List Int×Int):=PZ.lookup (d,t)
def mE:List (Int×Int):=[(0,0x8769),(0,0x8825),(1,0x0201),(1,0x0202),(2,0x927c),(2,0xa005),(5,0xb001),(5,0xb002)]
def oB(d:Int)(x:aD):Bool:=
 decide (0<=d/\d<6/\0<=x.tag/\x.tag<=65535)&&!mE.contains (d,x.tag)&&cX x.ty x.ar x.data&&
  (match Hh d x.tag with
   |none=>true
   |some (l,c)=>l.contains x.ty&&(c==0||c==x.ar))
def cF(d:Int)(l:List aD):Bool:=ed l&&l.all (oB d)&&decide (0<=d/\d<6)
structure cG where
 order:Int
 bQ:List aD
 bm:List aD
 bD:List aD
 aZ:List aD
 first:List aD
 bk:List UInt8
 cm:List UInt8
 deriving DecidableEq
def ga(x:cG):Int:=
 if¬(x.order=1\/x.order=2) then 1
 else if(cF 0 x.bQ&&(cF 2 x.bm&&(cF 3 x.bD&&(cF 4 x.aZ&&cF 1 x.first))))=false then 6
 else if 65536<x.bk.length\/(x.bQ.length=0/\x.bm.length=0/\x.bD.length=0/\x.aZ.length=0/\x.bk.length=0) then 6
 else 0
theorem pc{x:cG}(h:ga x=0):(x.order=1\/x.order=2)/\cF 0 x.bQ=true/\cF 2 x.bm=true/\cF 3 x.bD=true/\cF 4 x.aZ=true/\cF 1 x.first=true/\x.bk.length<=65536/\
 ¬(x.bQ.length=0/\x.bm.length=0/\x.bD.length=0/\x.aZ.length=0/\x.bk.length=0):=by
 unfold ga at h
 grind
def fU(l:List aD)(tag:Int):Option aD:=l.find? λx=>x.tag==tag
def mi(l:List aD)(tag:Int):List aD:=l.filter λx=>x.tag !=tag
def iz(l:List aD)(x:aD):List aD:=(l.filter λy=>decide (y.tag<x.tag))++x::l.filter λy=>decide (x.tag<y.tag)
theorem AZ:∀{a:aD}{l:List aD},ed (a::l)=true->ed l=true/\∀y∈l,a.tag<y.tag
 |a,[],_=>⟨rfl,λy h=>by cases h⟩
 |a,b::l,h=>by
  simp[ed] at h
  obtain⟨h1,h2⟩:=AZ h.2
  grind
theorem G9{a:aD}:∀{l:List aD},ed l=true->(∀y∈l,a.tag<y.tag)->ed (a::l)=true
 |[],_,_=>rfl
 |b::l,h,g=>by
  simp[ed]
  simp_all
theorem sU{α:Type}{p:α->Bool}:∀{l:List α},(∀y∈l,p y=true)->l.filter p=l
 |[],_=>rfl
 |a::l,h=>by simp_all
theorem filter_nil{α:Type}{p:α->Bool}:∀{l:List α},(∀y∈l,p y=false)->l.filter p=[]
 |[],_=>rfl
 |a::l,h=>by simp_all
theorem Rt(t:Int):∀{l:List aD},ed l=true->(∀y∈l,y.tag≠t)->(l.filter λy=>decide (y.tag<t))++(l.filter λy=>decide (t<y.tag))=l
 |[],_,_=>rfl
 |a::l,h,hn=>by
  obtain⟨h1,h2⟩:=AZ h
  have h0:=hn a (by simp)
  by_cases c:a.tag<t
  ·rw[List.filter_cons,if_pos (by grind),List.filter_cons,if_neg (by simp;omega),List.cons_append,(Rt t h1 λy hy=>hn y (by simp[hy]))]
  ·rw[List.filter_cons,if_neg (by grind),List.filter_cons,if_pos (by simp;omega)]
   rw[filter_nil (λy hy=>by have:=h2 y hy;simp;omega),sU (λy hy=>by have:=h2 y hy;simp;omega)]
   rfl
theorem Qx(x:aD):∀{l:List aD},ed l=true->ed (iz l x)=true
 |[],_=>rfl
 |a::l,h=>by
  obtain⟨h1,h2⟩:=AZ h
  have ih:=Qx x h1
  unfold iz at ih⊢
  by_cases c:a.tag<x.tag
  ·rw[List.filter_cons,if_pos (by simpa using c),List.filter_cons,if_neg (by simp;omega)]
   refine G9 ih λy hy=>?_
   rcases List.mem_append.1 hy with hy|hy
   ·exact h2 y (List.mem_filter.1 hy).1
   ·rcases List.mem_cons.1 hy with rfl|hy
    ·exact c
    ·exact h2 y (List.mem_filter.1 hy).1
  ·have e:((a::l).filter λy=>decide (y.tag<x.tag))=[]:=filter_nil λy hy=>by
    rcases List.mem_cons.1 hy with rfl|hy<;>grind
   rw[e]
   refine G9 ?_ (λy hy=>by simpa using(List.mem_filter.1 hy).2)
   rw[List.filter_cons]
   split
   ·rename_i q
    refine G9 ?_ λy hy=>h2 y (List.mem_filter.1 hy).1
    rw[sU λy hy=>by have:=h2 y hy;simp at q⊢;omega]
    exact h1
   ·rename_i q
    rw[sU λy hy=>by have:=h2 y hy;simp at q⊢;omega]
    exact h1
theorem Qw{x y:aD}{l:List aD}(h:y∈iz l x):y=x\/y∈l:=by
 rcases List.mem_append.1 h with h|h
 ·grind
 grind
theorem Qv(l:List aD)(x:aD):(iz l x).length<=l.length+1:=by
 unfold iz
 have h1:∀l:List aD,(l.filter λy=>decide (y.tag<x.tag)).length+(l.filter λy=>decide (x.tag<y.tag)).length<=l.length:=by
  intro l
  induction l with
  |nil=>simp
  |cons a l ih=>grind
 grind
theorem drop_set{x:aD}{l:List aD}(h:ed l=true)(hn:∀y∈l,y.tag≠x.tag):mi (iz l x) x.tag=l:=by
 unfold mi iz
 rw[List.filter_append,List.filter_cons,if_neg (by simp),sU λy hy=>by simpa using hn y (List.mem_filter.1 hy).1,sU (p:=λy:aD=>y.tag !=x.tag) λy hy=>by simpa using hn y (List.mem_filter.1 hy).1]
 exact Rt x.tag h hn
theorem T8(x:aD)(l:List aD):fU (iz l x) x.tag=some x:=by
 unfold fU iz
 grind
theorem T7{l:List aD}{t:Int}(hn:∀y∈l,y.tag≠t):fU l t=none:=by
 unfold fU
 grind
theorem TF{l:List aD}{t:Int}(hn:∀y∈l,y.tag≠t):mi l t=l:=sU λy hy=>by simpa using hn y hy
def cA:List aP:=[⟨[⟨34665,2⟩,⟨34853,3⟩],0,0,1⟩,⟨[],513,514,-1⟩,⟨[⟨40965,4⟩],0,0,-1⟩,⟨[],0,0,-1⟩,⟨[],0,0,-1⟩]
def gT(b:List UInt8):aD:=⟨37500,7,b.length,b⟩
def hM(x:cG):aK:=.mk (if x.bk.length=0 then x.bm else iz x.bm (gT x.bk)) (if x.aZ.length=0 then .nil else .cons 40965 (.mk x.aZ .nil []) .nil) []
def kE(x:cG):bW:=if x.bD.length=0 then .nil else .cons 34853 (.mk x.bD .nil []) .nil
def gY(x:cG):bW:=if x.bm.length=0/\x.aZ.length=0/\x.bk.length=0 then kE x else .cons 34665 (hM x) (kE x)
def dE(x:cG):jO:=⟨x.order,.mk x.bQ (gY x) []::(if x.first.length=0/\x.cm.length=0 then[] else[.mk x.first .nil x.cm])⟩
theorem EW:gp cA:=by
 have key:∀s,aH cA s=NQ\/s<5:=by
  intro s
  by_cases h:s<5
  ·exact .inr h
  ·left
   unfold aH
   rw[List.getElem?_eq_none (by simp[cA];omega)]
   rfl
 refine⟨λs=>?_,λs hs x hx=>?_,λs hs=>?_⟩
 ·rcases key s with h|h
  ·rw[h];exact⟨λx hx=>(by cases hx),λh=>absurd rfl h⟩
  ·have:s=0\/s=1\/s=2\/s=3\/s=4:=by omega
   rcases this with rfl|rfl|rfl|rfl|rfl
   ·refine⟨λx hx=>?_,λh=>absurd rfl h⟩
    have hx:x∈[(⟨34665,2⟩:fO),⟨34853,3⟩]:=hx
    simp_all
    rcases hx with rfl|rfl<;>exact⟨by decide,by decide,rfl⟩
   ·refine⟨λx hx=>(by cases hx),λ_=>⟨by decide,by decide,by decide⟩⟩
   ·refine⟨λx hx=>?_,λh=>absurd rfl h⟩
    have hx:x∈[(⟨40965,4⟩:fO)]:=hx
    simp at hx
    rcases hx with rfl
    exact⟨by decide,by decide,rfl⟩
   ·exact⟨λx hx=>(by cases hx),λh=>absurd rfl h⟩
   ·exact⟨λx hx=>(by cases hx),λh=>absurd rfl h⟩
 ·have:s=0\/s=1\/s=2\/s=3\/s=4:=by simp[cA] at hs;omega
  rcases this with rfl|rfl|rfl|rfl|rfl
  ·have hx:x∈[(⟨34665,2⟩:fO),⟨34853,3⟩]:=hx
   simp_all
   rcases hx with rfl|rfl<;>exact⟨by decide,by decide⟩
  ·cases hx
  ·have hx:x∈[(⟨40965,4⟩:fO)]:=hx
   simp at hx
   rcases hx with rfl
   exact⟨by decide,by decide⟩
  ·cases hx
  ·cases hx
 ·have:s=0\/s=1\/s=2\/s=3\/s=4:=by simp[cA] at hs;omega
  rcases this with rfl|rfl|rfl|rfl|rfl
  ·right;exact⟨by decide,by decide⟩
  all_goals left;decide
theorem Ah{d:Int}{x:aD}(h:oB d x=true):0<=x.tag/\x.tag<=65535/\mE.contains (d,x.tag)=false/\cX x.ty x.ar x.data=true:=by
 unfold oB at h
 grind
theorem tN{d:Int}{l:List aD}(h:cF d l=true):ed l=true/\∀x∈l,oB d x=true:=by
 unfold cF at h
 grind
theorem uL{d:Int}{l:List aD}{S:aP}(h:cF d l=true)(ho:∀t,dw S t=true->mE.contains (d,t)=true):iB S l=true:=by
 obtain⟨h1,h2⟩:=tN h
 unfold iB
 rw[Bool.and_eq_true,List.all_eq_true]
 refine⟨h1,λt ht=>?_⟩
 obtain⟨a,b,c,e⟩:=Ah (h2 t ht)
 have:dw S t.tag=false:=by grind
 rw[this,e]
 simp[km]
 omega
theorem Am{S:aP}(h:S.bt=[])(ha:S.at_=0)(t:Int):dw S t=false:=by
 unfold dw dV dY
 grind
theorem AL(t:Int)(h:dw (aH cA 0) t=true):mE.contains (0,t)=true:=by
 have:t=34665\/t=34853:=by
  have h:(([(⟨34665,2⟩:fO),⟨34853,3⟩].any λx=>x.tag==t)||(decide ((0:Int)≠0)&&(decide (t=0)||decide (t=0))))=true:=h
  grind
 rcases this with rfl|rfl<;>rfl
theorem Zt(t:Int)(h:dw (aH cA 1) t=true):mE.contains (1,t)=true:=by
 have:t=513\/t=514:=by
  have h:(([]:List fO).any (λx=>x.tag==t)||(decide ((513:Int)≠0)&&(decide (t=513)||decide (t=514))))=true:=h
  simp_all
 rcases this with rfl|rfl<;>rfl
theorem O3(t:Int)(h:dw (aH cA 2) t=true):t=40965:=by
 have h:(([(⟨40965,4⟩:fO)].any λx=>x.tag==t)||(decide ((0:Int)≠0)&&(decide (t=0)||decide (t=0))))=true:=h
 grind
theorem Zu(t:Int):dw (aH cA 3) t=false:=Am rfl rfl t
theorem Zv(t:Int):dw (aH cA 4) t=false:=Am rfl rfl t
theorem V6{b:List UInt8}(h1:b.length≠0)(h2:b.length<=65536):cX (gT b).ty (gT b).ar (gT b).data=true:=by
 unfold cX gT
 have:(kindOf 7).1 =1:=rfl
 grind
def nN(x:cG)(m:Nat):Prop:=x.bQ.length<=m/\x.bm.length<=m/\x.bD.length<=m/\x.aZ.length<=m/\x.first.length<=m
theorem GI{x:cG}(h:cF 2 x.bm=true):∀y∈x.bm,y.tag≠37500:=by
 intro y hy e
 have:=(Ah ((tN h).2 y hy)).2.2.1
 rw[e] at this
 cases this
theorem RI{x:cG}(h:ga x=0)(hm:nN x 65000)(hp:¬(x.bm.length=0/\x.aZ.length=0/\x.bk.length=0)):bX cA 2 (hM x)=true:=by
 obtain⟨-,-,h2,-,h4,-,hmk,-⟩:=pc h
 obtain⟨-,m2,-,m4,-⟩:=hm
 have hl:=Qv x.bm (gT x.bk)
 have ht:iB (aH cA 2) (if x.bk.length=0 then x.bm else iz x.bm (gT x.bk))=true:=by
  have h0:=uL h2 λt q=>by rw[O3 t q];rfl
  split
  ·exact h0
  ·rename_i hmk0
   unfold iB at h0⊢
   rw[Bool.and_eq_true,List.all_eq_true] at h0⊢
   refine⟨Qx _ h0.1,λt ht=>?_⟩
   rcases Qw ht with rfl|ht
   ·rw[V6 hmk0 hmk]
    have:dw (aH cA 2) (gT x.bk).tag=false:=by
     cases q:dw (aH cA 2) (gT x.bk).tag with
     |false=>rfl
     |true=>exact absurd (O3 _ q) (show¬((37500:Int)=40965) by decide)
    rfl
   ·exact h0.2 t ht
 unfold hM bX
 rw[ht]
 have hn:1<=bh (.mk (if x.bk.length=0 then x.bm else iz x.bm (gT x.bk)) (if x.aZ.length=0 then .nil else .cons 40965 (.mk x.aZ .nil []) .nil) [])/\
  bh (.mk (if x.bk.length=0 then x.bm else iz x.bm (gT x.bk)) (if x.aZ.length=0 then .nil else .cons 40965 (.mk x.aZ .nil []) .nil) [])<=65535:=by
  have hl0:1<=(iz x.bm (gT x.bk)).length:=by unfold iz;simp;omega
  by_cases a:x.bk.length=0
  ·by_cases b:x.aZ.length=0
   ·rw[if_pos a,if_pos b];simp only[bh,bI,List.length_nil,if_true];omega
   ·rw[if_pos a,if_neg b];simp only[bh,bI,List.length_nil,if_true];omega
  ·by_cases b:x.aZ.length=0
   ·rw[if_neg a,if_pos b];simp only[bh,bI,List.length_nil,if_true];omega
   ·rw[if_neg a,if_neg b];simp only[bh,bI,List.length_nil,if_true];omega
 rw[decide_eq_true hn]
 by_cases b:x.aZ.length=0
 ·rw[if_pos b];rfl
 ·rw[if_neg b]
  have hi:bX cA 4 (.mk x.aZ .nil [])=true:=by
   unfold bX
   rw[uL h4 λt q=>by rw[Zv] at q;cases q]
   have:1<=bh (.mk x.aZ .nil [])/\bh (.mk x.aZ .nil [])<=65535:=by
    simp only[bh,bI,List.length_nil,if_true];omega
   rw[decide_eq_true this]
   rfl
  show((kN [40965]&&(true&&(bX cA 4 (.mk x.aZ .nil [])&&true))))=true
  rw[hi]
  rfl
theorem Mm{x:cG}(h:ga x=0)(hm:nN x 65000)(hp:x.bD.length≠0):bX cA 3 (.mk x.bD .nil [])=true:=by
 obtain⟨-,-,-,h3,-,-,-,-⟩:=pc h
 obtain⟨-,-,m3,-,-⟩:=hm
 unfold bX
 rw[uL h3 λt q=>by rw[Zu] at q;cases q]
 have:1<=bh (.mk x.bD .nil [])/\bh (.mk x.bD .nil [])<=65535:=by
  simp[bh,bI];omega
 rw[decide_eq_true this]
 rfl
theorem RP{x:cG}(h:ga x=0)(hm:nN x 65000):eP cA 0 (dE x).cS=true:=by
 obtain⟨-,h0,-,-,-,h1,-,cc⟩:=pc h
 have hm':=hm
 obtain⟨m0,m2,m3,m4,m1⟩:=hm'
 have hsub:(kN (iY (gY x))&&gx cA (aH cA 0) (gY x))=true:=by
  unfold gY kE
  by_cases a:x.bm.length=0/\x.aZ.length=0/\x.bk.length=0
  ·rw[if_pos a]
   by_cases b:x.bD.length=0
   ·rw[if_pos b];rfl
   ·rw[if_neg b]
    show((kN [34853]&&(true&&(bX cA 3 (.mk x.bD .nil [])&&true))))=true
    rw[Mm h hm b];rfl
  ·rw[if_neg a]
   by_cases b:x.bD.length=0
   ·rw[if_pos b]
    show((kN [34665]&&(true&&(bX cA 2 (hM x)&&true))))=true
    rw[RI h hm a];rfl
   ·rw[if_neg b]
    show((kN [34665,34853]&&(true&&(bX cA 2 (hM x)&&(true&&(bX cA 3 (.mk x.bD .nil [])&&true))))))=true
    rw[RI h hm a,Mm h hm b];rfl
 have hs2:bI (gY x)<=2/\(x.bQ.length=0->1<=bI (gY x)):=by
  unfold gY kE
  by_cases a:x.bm.length=0/\x.aZ.length=0/\x.bk.length=0
  ·rw[if_pos a]
   by_cases b:x.bD.length=0
   ·rw[if_pos b];simp only[bI];omega
   ·rw[if_neg b];simp only[bI];omega
  ·rw[if_neg a]
   by_cases b:x.bD.length=0
   ·rw[if_pos b];simp only[bI];omega
   ·rw[if_neg b];simp only[bI];omega
 have hd0:bX cA 0 (.mk x.bQ (gY x) [])=true:=by
  unfold bX
  rw[uL h0 AL,hsub]
  have:1<=bh (.mk x.bQ (gY x) [])/\bh (.mk x.bQ (gY x) [])<=65535:=by
   simp[bh];omega
  rw[decide_eq_true this]
  rfl
 unfold dE
 have hx:∀ds,eP cA 0 (.mk x.bQ (gY x) []::ds)=(decide ((0:Int)<=0)&&(bX cA 0 (.mk x.bQ (gY x) [])&&eP cA 1 ds)):=λds=>rfl
 simp only
 rw[hx,hd0]
 by_cases a:x.first.length=0/\x.cm.length=0
 ·rw[if_pos a];rfl
 ·rw[if_neg a]
  have hd1:bX cA 1 (.mk x.first .nil x.cm)=true:=by
   unfold bX
   rw[uL h1 Zt]
   have:1<=bh (.mk x.first .nil x.cm)/\bh (.mk x.first .nil x.cm)<=65535:=by
    simp only[bh,bI];split<;>omega
   rw[decide_eq_true this]
   have:decide ((aH cA 1).at_≠0)=true:=rfl
   rw[this]
   simp[gx,kN,iY]
  have hx:eP cA 1 [.mk x.first .nil x.cm]=(decide ((0:Int)<=1)&&(bX cA 1 (.mk x.first .nil x.cm)&&true)):=rfl
  rw[hx,hd1]
  rfl
def tq(l:List aD):bW->List aD
 | .nil=>l
 | .cons _ (.mk tags _ _) r=>tq tags r
def nK(r:cG):aK->Option cG
 | .mk tags subs _=>match fU tags 37500 with
  |some v=>if v.ty=7 then some {r with bm:=mi tags 37500,bk:=v.data,aZ:=tq r.aZ subs} else none
  |none=>some {r with bm:=mi tags 37500,bk:=[],aZ:=tq r.aZ subs}
def nV(r:cG):bW->Option cG
 | .nil=>some r
 | .cons tag d s=>if tag=34853 then nV {r with bD:=(match d with| .mk tags _ _=>tags)} s else(nK r d).bind λr=>nV r s
def qS(r:cG):List aK->cG
 |[]=>r
 | .mk tags _ blob::ds=>qS {r with first:=tags,cm:=blob} ds
def tz(t:jO):Option cG:=match t.cS with
 |[]=>none
 | .mk tags subs _::ds=>(nV ⟨t.order,tags,[],[],[],[],[],[]⟩ subs).bind λr=>if ga (qS r ds)=0 then some (qS r ds) else none
theorem jU{α:Type}{l:List α}(h:l.length=0):l=[]:=List.length_eq_zero_iff.1 h
theorem ZF{x:cG}(h:cF 2 x.bm=true)(r:cG)(hi:r.aZ=[]):nK r (hM x)=some {r with bm:=x.bm,bk:=x.bk,aZ:=x.aZ}:=by
 have hl:tq r.aZ (if x.aZ.length=0 then .nil else .cons 40965 (.mk x.aZ .nil []) .nil)=x.aZ:=by
  split
  ·rename_i q;rw[jU q];exact hi
  ·rfl
 unfold hM nK
 simp only
 rw[hl]
 by_cases a:x.bk.length=0
 ·rw[if_pos a,T7 (GI h),TF (GI h),jU a]
 ·rw[if_neg a]
  have e1:=T8 (gT x.bk) x.bm
  have e2:=drop_set (x:=gT x.bk) (tN h).1 (GI h)
  rw[(show(gT x.bk).tag=37500 from rfl)] at e1 e2
  rw[e1,e2]
  rfl
theorem N1{x:cG}(h:ga x=0):tz (dE x)=some x:=by
 obtain⟨-,-,h2,-,-,-,-,-⟩:=pc h
 have hs:nV ⟨x.order,x.bQ,[],[],[],[],[],[]⟩ (gY x)=some {x with first:=[],cm:=[]}:=by
  have hg:∀r:cG,r.bD=[]->nV r (kE x)=some {r with bD:=x.bD}:=by
   intro r hr
   unfold kE
   split
   ·rename_i q;rw[jU q,<-hr];rfl
   ·rfl
  unfold gY
  split
  ·rename_i q
   rw[hg _ rfl,jU q.1,jU q.2.1,jU q.2.2]
  ·show(if(34665:Int)=34853 then nV _ (kE x) else(nK _ (hM x)).bind λr=>nV r (kE x))=_
   rw[ZF h2 _ rfl]
   exact hg _ rfl
 have hf:qS {x with first:=[],cm:=[]} (if x.first.length=0/\x.cm.length=0 then[] else[.mk x.first .nil x.cm])=x:=by
  split
  ·rename_i q
   show cG.mk _ _ _ _ _ [] _ []=x
   rw[<-jU q.1,<-jU q.2]
  ·rfl
 unfold tz dE
 simp only
 rw[hs]
 simp only[Option.bind]
 rw[hf,if_pos h]
end
section
set_option linter.unusedVariables false
set_option linter.unusedSimpArgs false
set_option linter.unusedSectionVars false
set_option linter.constructorNameAsVariable false
structure cL where
 attr:Int
 size:Int
 at_:Int
 dQ:Int
 dU:Int
 deriving DecidableEq
def iH(p:cL):Bool:=decide ((0<=p.attr/\p.attr<4294967296)/\(0<=p.size/\p.size<4294967296)/\(0<=p.at_/\p.at_<4294967296)/\(0<=p.dQ/\p.dQ<65536)/\(0<=p.dU/\p.dU<65536))
def cT(o:Int)(p:cL):List UInt8:=aN p.attr.toNat 4 o++(aN p.size.toNat 4 o++(aN p.at_.toNat 4 o++(aN p.dQ.toNat 2 o++aN p.dU.toNat 2 o)))
theorem AQ(o:Int)(p:cL):(cT o p).length=16:=by simp[cT,db]
theorem lG(o:Int):∀l:List cL,(l.flatMap (cT o)).length=16*l.length
 |[]=>rfl
 |p::l=>by rw[List.flatMap_cons,List.length_append,AQ,lG o l,List.length_cons];omega
def kM(b:List UInt8)(p:Nat)(o:Int):cL:=⟨bK b p 4 o,bK b (p+4) 4 o,bK b (p+8) 4 o,bK b (p+12) 2 o,bK b (p+14) 2 o⟩
def placesOf(b:List UInt8)(o:Int):Nat->Nat->List cL
 |_,0=>[]
 |p,n+1=>kM b p o::placesOf b o (p+16) n
theorem ZI{b pre post:List UInt8}{k:Nat}{o:Int}{p:cL}(e:b=pre++(cT o p++post))(hk:k=pre.length)(ho:o=1\/o=2)(h:iH p=true):kM b k o=p:=by
 unfold iH at h
 simp at h
 obtain⟨a1,a2,a3,a4,a5⟩:=h
 have e0:b=pre++(aN p.attr.toNat 4 o++(aN p.size.toNat 4 o++(aN p.at_.toNat 4 o++(aN p.dQ.toNat 2 o++(aN p.dU.toNat 2 o++post))))):=by rw[e];simp[cT]
 have e1:b=(pre++aN p.attr.toNat 4 o)++(aN p.size.toNat 4 o++(aN p.at_.toNat 4 o++(aN p.dQ.toNat 2 o++(aN p.dU.toNat 2 o++post)))):=by rw[e0];simp
 have e2:b=(pre++aN p.attr.toNat 4 o++aN p.size.toNat 4 o)++(aN p.at_.toNat 4 o++(aN p.dQ.toNat 2 o++(aN p.dU.toNat 2 o++post))):=by rw[e0];simp
 have h3:=kJ (p:=k+8) e2 (by simp[db,hk]) (.inr (.inr rfl)) ho (by omega)
 have e3:b=(pre++aN p.attr.toNat 4 o++aN p.size.toNat 4 o++aN p.at_.toNat 4 o)++(aN p.dQ.toNat 2 o++(aN p.dU.toNat 2 o++post)):=by rw[e0];simp
 have h4:=kJ (p:=k+12) e3 (by simp[db,hk]) (.inr (.inl rfl)) ho (by omega)
 have e4:b=(pre++aN p.attr.toNat 4 o++aN p.size.toNat 4 o++aN p.at_.toNat 4 o++aN p.dQ.toNat 2 o)++(aN p.dU.toNat 2 o++post):=by rw[e0];simp
 have h5:=kJ (p:=k+14) e4 (by simp[db,hk]) (.inr (.inl rfl)) ho (by omega)
 unfold kM
 rw[(kJ e0 hk (.inr (.inr rfl)) ho (by omega)),(kJ (p:=k+4) e1 (by simp[db,hk]) (.inr (.inr rfl)) ho (by omega)),h3,h4,h5]
 rw[Int.toNat_of_nonneg a1.1,Int.toNat_of_nonneg a2.1,Int.toNat_of_nonneg a3.1,Int.toNat_of_nonneg a4.1,Int.toNat_of_nonneg a5.1]
theorem GK{b:List UInt8}{o:Int}(ho:o=1\/o=2):∀(l:List cL)(pre post:List UInt8)(k:Nat),b=pre++(l.flatMap (cT o)++post)->k=pre.length->(∀p∈l,iH p=true)->placesOf b o k l.length=l
 |[],_,_,_,_,_,_=>rfl
 |p::l,pre,post,k,e,hk,h=>by
  rw[List.flatMap_cons,List.append_assoc] at e
  rw[List.length_cons,placesOf,ZI e hk ho (h p (by simp))]
  congr 1
  exact GK ho l (pre++cT o p) post (k+16) (by grind) (by simp[AQ,hk]) λy hy=>h y (by grind)
def eL:List aP:=[⟨[],0,0,1⟩,⟨[],0,0,-1⟩]
def kX:List aP:=[⟨[],0,0,-1⟩]
theorem Pf{sh:List aP}(h:∀s∈sh,s.bt=[]/\s.at_=0)(hn:∀s,s<sh.length->(aH sh s).next<0\/((s:Int)<(aH sh s).next/\(aH sh s).next<sh.length)):gp sh:=by
 have key:∀s,(aH sh s).bt=[]/\(aH sh s).at_=0:=by
  intro s
  unfold aH
  cases q:sh[s]? with
  |none=>exact⟨rfl,rfl⟩
  |some x=>grind
 refine⟨λs=>⟨λx hx=>?_,λq=>absurd (key s).2 q⟩,λs _ x hx=>?_,hn⟩<;>grind
theorem Ep:gp eL:=by
 refine Pf (λs hs=>?_) λs hs=>?_
 ·simp[eL] at hs
  grind
 ·have:s=0\/s=1:=by simp[eL] at hs;omega
  rcases this with rfl|rfl<;>decide
theorem Sz:gp kX:=by
 refine Pf (λs hs=>?_) λs hs=>?_
 ·simp[kX] at hs
  grind
 ·have:s=0:=by simp[kX] at hs;omega
  rcases this with rfl
  decide
def dO(o:Int)(l:List cL):aK:=.mk [⟨45056,7,4,[48,49,48,48]⟩,⟨45057,4,1,dA l.length 4⟩,⟨45058,7,((16*l.length:Nat):Int),l.flatMap (cT o)⟩] .nil []
def cH(o:Int)(l:List cL)(view:List aD):jO:=⟨o,dO o l::(if view.length=0 then[] else[.mk view .nil []])⟩
def jn(o:Int)(view:List aD):jO:=⟨o,[.mk view .nil []]⟩
def fJ:List UInt8:=[77,80,70,0]
def fW(o:Int)(l:List cL)(view:List aD):Except Int (List UInt8):=
 if¬(o=1\/o=2)\/l.length<2 then .error 1
 else if l.all iH=false then .error 1
 else if cF 5 view=false then .error 6
 else if 65536<16*l.length then .error 7
 else if 65533<4+fq (cH o l view) then .error 7
 else .ok (fJ++dc (cH o l view) eL)
def uU(o:Int)(view:List aD):Except Int (List UInt8):=
 if¬(o=1\/o=2)\/view.length=0 then .error 1
 else if cF 5 view=false then .error 6
 else if 65533<4+fq (jn o view) then .error 7
 else .ok (fJ++dc (jn o view) kX)
theorem SG{n:Nat}:cX 4 1 (dA n 4)=true:=by
 unfold cX
 have:(kindOf 4).1 =4:=rfl
 simp[this,mg]
theorem Sl{view:List aD}{S:aP}{sh:List aP}{s:Nat}(hS:aH sh s=S)(hl:S.bt=[])(ha:S.at_=0)(h:cF 5 view=true)(h0:view.length≠0)(hm:view.length<=65000):bX sh s (.mk view .nil [])=true:=by
 unfold bX
 rw[hS,uL h λt q=>by rw[Am hl ha] at q;cases q]
 have:1<=bh (.mk view .nil [])/\bh (.mk view .nil [])<=65535:=by
  simp[bh,bI];omega
 rw[decide_eq_true this]
 rfl
theorem MJ{o:Int}{l:List cL}{view:List aD}(hl:2<=l.length/\16*l.length<=65536)(hv:cF 5 view=true)(hm:view.length<=65000):eP eL 0 (cH o l view).cS=true:=by
 have hd:bX eL 0 (dO o l)=true:=by
  unfold dO bX
  have ht:iB (aH eL 0) [⟨45056,7,4,[48,49,48,48]⟩,⟨45057,4,1,dA l.length 4⟩,⟨45058,7,((16*l.length:Nat):Int),l.flatMap (cT o)⟩]=true:=by
   unfold iB
   have m3:cX 7 ((16*l.length:Nat):Int) (l.flatMap (cT o))=true:=by
    unfold cX
    have:(kindOf 7).1 =1:=rfl
    rw[lG]
    simp_all
    omega
   rw[Bool.and_eq_true,List.all_eq_true]
   refine⟨by simp[ed],λt ht=>?_⟩
   simp at ht
   rw[(λt=>Am rfl rfl t)]
   rcases ht with rfl|rfl|rfl
   ·rfl
   ·rfl
   ·simp_all;rfl
  rw[ht]
  rfl
 unfold cH
 have hx:∀ds,eP eL 0 (dO o l::ds)=(decide ((0:Int)<=0)&&(bX eL 0 (dO o l)&&eP eL 1 ds)):=λds=>rfl
 rw[hx,hd]
 by_cases a:view.length=0
 ·rw[if_pos a];rfl
 ·rw[if_neg a]
  have hx:eP eL 1 [.mk view .nil []]=(decide ((0:Int)<=1)&&(bX eL 1 (.mk view .nil [])&&true)):=rfl
  rw[hx,Sl rfl rfl rfl hv a hm]
  rfl
theorem Sk{o:Int}{view:List aD}(hv:cF 5 view=true)(h0:view.length≠0)(hm:view.length<=65000):eP kX 0 (jn o view).cS=true:=by
 have hx:eP kX 0 [.mk view .nil []]=(decide ((0:Int)<=0)&&(bX kX 0 (.mk view .nil [])&&true)):=rfl
 show eP kX 0 [.mk view .nil []]=true
 rw[hx,Sl rfl rfl rfl hv h0 hm]
 rfl
def indexOf(t:jO):Option (Int×List cL×List aD):=match t.cS with
 | .mk [a,b,c] _ _::ds=>
  if a.tag=45056/\a.ty=7/\a.data=[48,49,48,48]/\b.tag=45057/\b.ty=4/\b.data.length=4/\c.tag=45058/\c.ty=7/\2<=fD b.data/\c.data.length=16*fD b.data then
   match ds with
   |[]=>some (t.order,placesOf c.data t.order 0 (fD b.data),[])
   | .mk view _ _::_=>if cF 5 view=true then some (t.order,placesOf c.data t.order 0 (fD b.data),view) else none
  else none
 |_=>none
theorem UJ{o:Int}(ho:o=1\/o=2){l:List cL}{view:List aD}(hl:2<=l.length/\16*l.length<=65536)(hp:l.all iH=true)(hv:cF 5 view=true):indexOf (cH o l view)=some (o,l,view):=by
 have hb:fD (dA l.length 4)=l.length:=F5 4 _ (by omega)
 unfold cH dO indexOf
 simp only
 rw[if_pos ⟨trivial,trivial,trivial,trivial,trivial,mg _ _,trivial,trivial,by rw[hb];exact hl.1,by rw[lG,hb]⟩,hb,(GK ho l [] [] 0 (by simp) rfl λp hp'=>List.all_eq_true.1 hp p hp')]
 grind
theorem acN{t:jO}(h:¬65533<4+fq t):fq t<4294967296:=by omega
theorem MG{o:Int}{l:List cL}{view:List aD}{b:List UInt8}(h:fW o l view=.ok b)(hm:view.length<=65000):
 ∃r,b=fJ++r/\r=dc (cH o l view) eL/\si r eL=.ok (cH o l view,eK (cH o l view))/\indexOf (cH o l view)=some (o,l,view)/\b.length<=65533:=by
 unfold fW at h
 split at h
 ·cases h
 ·rename_i h1
  split at h
  ·cases h
  ·rename_i h2
   split at h
   ·cases h
   ·rename_i h3
    split at h
    ·cases h
    ·rename_i h4
     split at h
     ·cases h
     ·rename_i h5
      cases h
      have ho:o=1\/o=2:=by omega
      have hv:cF 5 view=true:=by simpa using h3
      have hh:=MJ (o:=o) (l:=l) ⟨by omega,by omega⟩ hv hm
      refine⟨_,rfl,rfl,Sm ho Ep (by decide) (by simp[cH]) hh (acN h5),UJ ho ⟨by omega,by omega⟩ (by simpa using h2) hv,?_⟩
      rw[List.length_append,(uN hh)]
      have:fJ.length=4:=rfl
      omega
end
section
set_option linter.unusedVariables false
set_option linter.unusedSimpArgs false
set_option linter.unusedSectionVars false
set_option linter.constructorNameAsVariable false
theorem RU(a b:UInt8):UInt8.ofNat ((a.toNat*256+b.toNat)/256)=a/\UInt8.ofNat ((a.toNat*256+b.toNat)%256)=b:=by
 have hb:=b.toNat_lt
 rw[(show(a.toNat*256+b.toNat)/256=a.toNat from by omega)]
 simp
theorem adv(m:UInt8):UInt8.ofNat ((m.toNat:Int)).toNat=m:=by simp
theorem xi{b:UInt8}{t:List UInt8}(h:b≠255):eE (b::t)=eE t+1:=by
 conv=>lhs;unfold eE
 grind
theorem aaE:eE [255]=0:=rfl
theorem Ih(c:UInt8)(r:List UInt8):eE (255::c::r)=if c≠0/\lI c.toNat=false then 0 else eE (c::r)+1:=by rw[eE,if_pos rfl]
theorem Ql:∀l:List UInt8,eE (l.take (eE l))=eE l
 |[]=>rfl
 |b::t=>by
  have ih:=Ql t
  by_cases hb:b=255
  ·subst hb
   cases t with
   |nil=>rfl
   |cons c r=>
    rw[Ih]
    by_cases hc:c≠0/\lI c.toNat=false
    ·rw[if_pos hc];rfl
    ·rw[if_neg hc,List.take_succ_cons]
     have h5:c≠255:=by
      intro h5
      apply hc
      rw[h5]
      exact⟨by decide,rfl⟩
     rw[xi h5] at ih⊢
     rw[List.take_succ_cons] at ih⊢
     rw[Ih,if_neg hc,ih]
  ·rw[xi hb,List.take_succ_cons,xi hb,ih]
theorem Qp{l:List UInt8}{s:bj}{t:List UInt8}(h:iW true l=.more s t):jw s 216=true/\l=cq s++t:=by
 cases l with
 |nil=>cases h
 |cons x l=>
  cases l with
  |nil=>
   dsimp only[iW] at h
   split at h<;>grind
  |cons m l=>
   dsimp only[iW] at h
   split at h
   ·cases h
   ·rename_i h1
    split at h
    ·cases h
    ·rename_i h2
     split at h
     ·cases h
     ·rename_i h3
      split at h
      ·rename_i h4
       injection h with h5 h6
       subst h5 h6 h4
       refine⟨rfl,?_⟩
       have:x=255:=Classical.not_not.1 h1
       subst this
       rfl
      ·rename_i h4
       exfalso
       apply h2
       rw[decide_eq_false h4]
       rfl
theorem Qo{f:Bool}{l:List UInt8}{s:bj}{t:List UInt8}(h:iW f l=.last s t):jw s 217=true/\l=cq s++t:=by
 cases l with
 |nil=>cases h
 |cons x l=>
  cases l with
  |nil=>
   dsimp only[iW] at h
   split at h<;>grind
  |cons m l=>
   dsimp only[iW] at h
   split at h
   ·cases h
   ·rename_i h1
    split at h
    ·cases h
    ·rename_i h2
     split at h
     ·rename_i h3
      injection h with h5 h6
      subst h5 h6 h3
      refine⟨rfl,?_⟩
      have:x=255:=Classical.not_not.1 h1
      subst this
      rfl
     ·split at h
      ·cases h
      ·split at h
       ·split at h
        ·cases h
        ·split at h
         ·cases h
         ·cases h
       ·cases h
theorem Qq{l:List UInt8}{s:bj}{t:List UInt8}(h:iW false l=.more s t):kg s=true/\l=cq s++t:=by
 cases l with
 |nil=>cases h
 |cons x l=>
  cases l with
  |nil=>
   dsimp only[iW] at h
   split at h
   ·cases h
   ·cases h
  |cons m l=>
   dsimp only[iW] at h
   split at h
   ·cases h
   ·rename_i h1
    split at h
    ·cases h
    ·rename_i h2
     split at h
     ·cases h
     ·rename_i h3
      split at h
      ·rename_i h4
       exfalso
       apply h2
       rw[decide_eq_true h4]
       rfl
      ·rename_i h4
       have hx:x=255:=Classical.not_not.1 h1
       have hm:jg (m.toNat:Int)=true:=by
        cases q:jg (m.toNat:Int) with
        |true=>rfl
        |false=>
         exfalso
         apply h2
         rw[q,decide_eq_false h4]
         have:gq (m.toNat:Int)=false:=by
          unfold gq
          rw[decide_eq_false]
          rintro (e|e)
          ·exact h4 (UInt8.toNat_inj.1 (by have:(216:UInt8).toNat=216:=rfl;omega))
          ·exact h3 (UInt8.toNat_inj.1 (by have:(217:UInt8).toNat=217:=rfl;omega))
         rw[this]
         rfl
       cases l with
       |nil=>cases h
       |cons a l=>
        cases l with
        |nil=>cases h
        |cons b l=>
         dsimp only at h
         split at h
         ·cases h
         ·rename_i h5
          split at h
          ·cases h
          ·rename_i h6
           injection h with h7 h8
           have hb:=b.toNat_lt
           have ha:=a.toNat_lt
           have hs:=Bz ((a::b::l).drop (a.toNat*256+b.toNat))
           have e0:(a::b::l).drop (a.toNat*256+b.toNat)=l.drop (a.toNat*256+b.toNat -2):=by
            obtain⟨k,hk⟩:∃k,a.toNat*256+b.toNat=k+2:=⟨a.toNat*256+b.toNat -2,by omega⟩
            rw[hk];rfl
           have hlen:l.length+2>=a.toNat*256+b.toNat:=by simpa using h6
           rw[e0] at hs h7 h8
           have hd:((a::b::l).drop 2)=l:=rfl
           rw[hd] at h7
           have gI:(l.take (a.toNat*256+b.toNat -2)).length+2=a.toNat*256+b.toNat:=by rw[List.length_take];omega
           have hal:gq (m.toNat:Int)=false:=by
            simp only[jg,Bool.and_eq_true,Bool.not_eq_true'] at hm
            exact hm.2
           subst h7 h8
           constructor
           ·unfold kg
            simp only[hm,Bool.true_and,Bool.and_eq_true,decide_eq_true_eq,Bool.or_eq_true,List.isEmpty_iff]
            refine⟨by omega,?_⟩
            by_cases hq:m=218
            ·right
             rw[if_pos hq]
             refine⟨by rw[hq];rfl,?_⟩
             rw[Ql,List.length_take]
             omega
            ·left;rw[if_neg hq];rfl
           ·unfold cq
            rw[if_neg (by simp[hal])]
            simp only[gI,adv,(RU a b).1,(RU a b).2,hx,List.cons_append,List.nil_append,List.append_assoc]
            rw[List.take_append_drop,List.take_append_drop]
theorem NZ(L:Nat):∀(f:Nat)(r:List UInt8)(l:List bj)(e:Nat),r.length<=L->jG L f false r=.ok l e->gJ l=true/\∃x,r=cu l++x/\e=L -x.length
 |0,_,_,_,_,h=>by cases h
 |f+1,r,l,e,hr,h=>by
  unfold jG at h
  split at h
  ·cases h
  ·cases h
  ·rename_i s t hs
   cases h
   obtain⟨h1,h2⟩:=Qo hs
   exact⟨h1,t,by rw[h2];simp[cu],rfl⟩
  ·rename_i s t hs
   obtain⟨h1,h2⟩:=Qq hs
   split at h
   ·rename_i l' e' h3
    cases h
    obtain⟨a,x,b,c⟩:=NZ L f t l' _ (by rw[h2] at hr;simp at hr;omega) h3
    refine⟨?_,x,by rw[iO,List.append_assoc,<-b,h2],c⟩
    cases l' with
    |nil=>cases a
    |cons s' l'=>simp[gJ,h1,a]
   ·rename_i q
    rw[h] at q
    exact absurd rfl (q _ _)
theorem N0{b:List UInt8}{l:List bj}{e:Nat}(h:ofM b=.ok l e):jX l=true/\e<=b.length/\cu l=b.take e/\∃r,l=⟨216,[],[]⟩::r/\gJ r=true:=by
 unfold ofM at h
 unfold jG at h
 split at h
 ·cases h
 ·cases h
 ·rename_i s t hs
  obtain⟨h1,h2⟩:=Qo hs
  rw[h2] at hs
  have:s=⟨217,[],[]⟩:=by
   obtain⟨m,d,c⟩:=s
   simp[jw] at h1
   obtain⟨⟨rfl,rfl⟩,rfl⟩:=h1
   rfl
  rw[this] at hs
  cases hs
 ·rename_i s t hs
  obtain⟨h1,h2⟩:=Qp hs
  have hs0:s=⟨216,[],[]⟩:=by
   obtain⟨m,d,c⟩:=s
   simp[jw] at h1
   obtain⟨⟨rfl,rfl⟩,rfl⟩:=h1
   rfl
  split at h
  ·rename_i l' e' h3
   cases h
   obtain⟨a,x,k,c⟩:=NZ b.length b.length t l' _ (by rw[h2];simp) h3
   have hb:b=(cq s++cu l')++x:=by rw[List.append_assoc,<-k,<-h2]
   have hl:b.length=(cq s++cu l').length+x.length:=by
    rw[hb,List.length_append]
   refine⟨by simp[jX,h1,a],by omega,?_,l',by rw[hs0],a⟩
   rw[iO,(show e=(cq s++cu l').length from by omega)]
   rw[hb,List.take_left]
  ·rename_i q
   rw[h] at q
   exact absurd rfl (q _ _)
def mO(m:Int):Bool:=decide (224<=m/\m<=239)
def ky(b:List UInt8):Bool:=match ofM b with
 | .ok l e=>decide (e=b.length)&&(l.any (λs=>s.bE==218)&&l.all λs=>!mO s.bE)
 |_=>false
def kC:List UInt8:=[69,120,105,102,0,0]
def ef:List UInt8:=[73,67,67,95,80,82,79,70,73,76,69,0]
def fY(x:cG):Except Int (List UInt8):=
 if ga x≠0 then .error (ga x) else if 65533<6+fq (dE x) then .error 7 else .ok (kC++dc (dE x) cA)
def KE(b:List UInt8):Option cG:=
 if 65533<b.length then none else if kC.isPrefixOf b=true then(match si (b.drop 6) cA with| .ok (t,_)=>tz t| .error _=>none) else none
theorem yX{x:cG}{b:List UInt8}(h:fY x=.ok b)(hm:nN x 65000):KE b=some x/\kC.isPrefixOf b=true/\b.length<=65533/\b=kC++dc (dE x) cA/\si (dc (dE x) cA) cA=.ok (dE x,eK (dE x)):=by
 unfold fY at h
 split at h
 ·cases h
 ·rename_i h1
  have h1:=Classical.not_not.1 h1
  split at h
  ·cases h
  ·rename_i h2
   injection h with h
   have hh:=RP h1 hm
   have hw:=Sm (pc h1).1 EW (by decide) (by simp[dE]) hh (by omega)
   have hl:b.length<=65533:=by rw[<-h,List.length_append,(uN hh)];have:kC.length=6:=rfl;omega
   refine⟨?_,(by rw[<-h];rw[List.isPrefixOf_iff_prefix];exact List.prefix_append _ _),hl,h.symm,hw⟩
   unfold KE
   rw[if_neg (by omega),<-h]
   have:(kC++dc (dE x) cA).drop 6=dc (dE x) cA:=rfl
   rw[this,hw]
   exact N1 h1
def eA(b:List UInt8):List (List UInt8):=if b.length=0 then[] else[ef++1::1::b]
structure kS where
 az:cG
 bL:List UInt8
 core:List UInt8
 bY:List UInt8
 at_:Nat
 bU:Nat
def vq(b:List UInt8):List bj:=match ofM b with
 | .ok l _=>l
 |_=>[]
def iv(x:kS)(aL:List UInt8):List bj:=
 ⟨216,[],[]⟩::⟨225,aL,[]⟩::((if x.bY.length=0 then[] else[⟨226,x.bY,[]⟩])++((eA x.bL).map (λc=>⟨226,c,[]⟩)++(vq x.core).tail))
theorem zk{b:List UInt8}(h:ky b=true):∃r,ofM b=.ok (⟨216,[],[]⟩::r) b.length/\vq b=⟨216,[],[]⟩::r/\gJ r=true/\cu (⟨216,[],[]⟩::r)=b/\(∃s∈r,s.bE=218)/\∀s∈r,mO s.bE=false:=by
 unfold ky at h
 split at h
 ·rename_i l e q
  simp at h
  obtain⟨h1,⟨s,hs,hm⟩,h3⟩:=h
  obtain⟨a,b1,c,r,hr,hmid⟩:=N0 q
  subst hr
  refine⟨r,by rw[q,h1],by unfold vq;rw[q],hmid,by rw[c,h1,List.take_length],?_,λs hs=>h3 s (by grind)⟩
  grind
 grind
theorem FZ{s:bj}{l:List bj}(h:kg s=true)(hl:gJ l=true):gJ (s::l)=true:=by
 cases l with
 |nil=>cases hl
 |cons s' l=>simp[gJ,h,hl]
theorem G8{m:Int}{d:List UInt8}(hm:m=225\/m=226)(h:d.length<=65533):kg ⟨m,d,[]⟩=true:=by
 unfold kg
 rcases hm with rfl|rfl
 ·simp
  exact⟨rfl,h⟩
 ·simp
  exact⟨rfl,h⟩
theorem K8{b c:List UInt8}(hb:b.length<=65519)(h:c∈eA b):c.length<=65533:=by
 unfold eA at h
 split at h
 ·grind
 ·rw[List.mem_singleton.1 h]
  have:ef.length=12:=rfl
  grind
theorem MB{x:kS}{aL:List UInt8}(hc:ky x.core=true)(hcam:aL.length<=65533)(hi:x.bL.length<=65519)(hm:x.bY.length<=65533):jX (iv x aL)=true:=by
 obtain⟨r,-,h1,h2,-⟩:=zk hc
 unfold iv
 rw[h1]
 refine FZ (G8 (.inl rfl) hcam) ?_
 have k:gJ ((eA x.bL).map (λc=>⟨226,c,[]⟩)++r)=true:=by
  have hl:=λc=>K8 (c:=c) hi
  generalize eA x.bL=cs at hl⊢
  induction cs with
  |nil=>grind
  |cons c cs ih=>exact FZ (G8 (.inr rfl) (hl c (by simp))) (ih λc hc=>hl c (by grind))
 split
 ·grind
 ·exact FZ (G8 (.inr rfl) hm) k
def dM(x:kS)(aL:List UInt8):List UInt8:=cu (iv x aL)
structure uX(x:kS)(aL:List UInt8):Prop where
 app:fY x.az=.ok aL
 rows:nN x.az 65000
 bL:x.bL.length<=65519
 core:ky x.core=true
 bY:x.bY.length=0\/(fJ.isPrefixOf x.bY=true/\x.bY.length<=65533)
end
section
set_option linter.unusedVariables false
set_option linter.unusedSimpArgs false
set_option linter.unusedSectionVars false
set_option linter.constructorNameAsVariable false
theorem adr(l:List UInt8)(o:Int):gm l 1 o=l:=by
 unfold gm
 split
 ·refine List.ext_getElem? λi=>?_
  by_cases h:i<l.length
  ·rw[yu _ _ _ _ h,if_pos h]
   simp[Nat.mod_one,h]
  ·rw[List.getElem?_eq_none (by rw[mI];omega),List.getElem?_eq_none (by omega)]
 ·rfl
theorem AK{n:Nat}(h:2<=n/\16*n<=65536):bu 7 ((16*n:Nat):Int)=16*n:=by
 have e:gy 7 ((16*n:Nat):Int)=((16*n:Nat):Int):=by
  unfold gy
  rw[if_neg (by omega),show(kindOf 7).1 =1 from rfl];omega
 unfold bu
 rw[e,if_pos (by omega)];omega
theorem UL(o:Int){n:Nat}(h:2<=n/\16*n<=65536)(e:Nat):∃E,∀l:List cL,l.length=n->da o e [⟨45056,7,4,[48,49,48,48]⟩,⟨45057,4,1,dA l.length 4⟩,⟨45058,7,((16*l.length:Nat):Int),l.flatMap (cT o)⟩]=E:=
 ⟨_,λl hl=>by
  simp only[hl,da,show bu 7 4=0 from rfl,show bu 4 1=0 from rfl,if_true,AK h]
  rw[if_neg (by omega)]⟩
theorem UN(o:Int){n:Nat}(h:2<=n/\16*n<=65536)(e:Nat)(l:List cL)(hl:l.length=n):eS o e [⟨45056,7,4,[48,49,48,48]⟩,⟨45057,4,1,dA l.length 4⟩,⟨45058,7,((16*l.length:Nat):Int),l.flatMap (cT o)⟩]=cN e++l.flatMap (cT o):=by
 simp only[hl,eS,show bu 7 4=0 from rfl,show bu 4 1=0 from rfl,if_true,AK h]
 rw[if_neg (by omega),List.append_nil]
 congr 1
 exact adr _ o
theorem MH(o:Int){n:Nat}(h:2<=n/\16*n<=65536)(view:List aD):∃A B,∀l:List cL,l.length=n->dc (cH o l view) eL=A++(l.flatMap (cT o)++B):=by
 obtain⟨E,hE⟩:=UL o h (aA 8+(6+12*3))
 have hend:∀(l:List cL),l.length=n->bg 8 (dO o l)=aA (aA 8+(6+12*3))+16*n:=by
  intro l hl
  unfold dO bg cW
  simp only[bh,List.length_cons,List.length_nil,bI,if_true,bJ,hl,show bu 7 4=0 from rfl,show bu 4 1=0 from rfl,AK h]
  rw[if_neg (by omega)]
 suffices H:∃X Y,∀l:List cL,l.length=n->dc (cH o l view) eL=X++(cN (aA 8+(6+12*3))++(l.flatMap (cT o)++Y)) by
  obtain⟨X,Y,H⟩:=H
  exact⟨X++cN (aA 8+(6+12*3)),Y,λl hl=>by rw[H l hl,List.append_assoc]⟩
 refine⟨(if o=1 then[73,73] else[77,77])++(aN 42 2 o++(aN 8 4 o++(cN 8++iS o (eY E) (na 8 (dO o (List.replicate n ⟨0,0,0,0,0⟩)) (if view.length=0 then[] else[.mk view .nil []]))))),je o eL 1 (aA (aA 8+(6+12*3))+16*n) (if view.length=0 then[] else[.mk view .nil []]),λl hl=>?_⟩
 unfold dc cH
 have hd:=hend l hl
 have hd':=hend (List.replicate n ⟨0,0,0,0,0⟩) (by simp)
 simp only[je,na,hd,hd']
 unfold dO
 simp only[gF,ig,fT,fA,cW,bh,List.length_cons,List.length_nil,bI,if_true,List.append_nil,List.append_assoc]
 rw[hE l hl,UN o h _ l hl]
 simp only[List.append_assoc]
 rfl
theorem UF(o:Int){n:Nat}(h:2<=n/\16*n<=65536)(view:List aD):∃N,∀l:List cL,l.length=n->fq (cH o l view)=N:=by
 refine⟨cV (aA (aA 8+(6+12*3))+16*n) (if view.length=0 then[] else[.mk view .nil []]),λl hl=>?_⟩
 unfold fq cH
 rw[cV]
 congr 1
 unfold dO bg cW
 simp only[bh,List.length_cons,List.length_nil,bI,if_true,bJ,hl,show bu 7 4=0 from rfl,show bu 4 1=0 from rfl,AK h]
 rw[if_neg (by omega)]
theorem Fv{o:Int}{l:List cL}{view:List aD}{b:List UInt8}(h:fW o l view=.ok b):b=fJ++dc (cH o l view) eL/\2<=l.length/\16*l.length<=65536/\l.all iH=true:=by
 unfold fW at h
 repeat(split at h;· cases h)
 injection h with h
 exact⟨h.symm,by omega,by omega,by simp_all⟩
theorem UI(x:kS)(aL:List UInt8)(o:Int){n:Nat}(h:2<=n/\16*n<=65536)(view:List aD):∃A B,∀(l:List cL)(b:List UInt8),l.length=n->fW o l view=.ok b->dM {x with bY:=b} aL=A++(l.flatMap (cT o)++B):=by
 obtain⟨A,B,H⟩:=MH o h view
 refine⟨cq ⟨216,[],[]⟩++(cq ⟨225,aL,[]⟩++([255,UInt8.ofNat (226:Int).toNat,UInt8.ofNat ((4+(A.length+(16*n+B.length))+2)/256),UInt8.ofNat ((4+(A.length+(16*n+B.length))+2)%256)]++(fJ++A))),B++cu ((eA x.bL).map (λc=>⟨226,c,[]⟩)++(vq x.core).tail),λl b hl e=>?_⟩
 obtain⟨hb,_⟩:=Fv e
 rw[H l hl] at hb
 have hlen:b.length=4+(A.length+(16*n+B.length)):=by
  rw[hb]
  simp only[List.length_append,lG,hl]
  rfl
 unfold dM iv
 simp only[hlen]
 rw[if_neg (by omega),iO,iO,List.singleton_append,iO]
 rw[show cq ⟨226,b,[]⟩=[255,UInt8.ofNat (226:Int).toNat,UInt8.ofNat ((b.length+2)/256),UInt8.ofNat ((b.length+2)%256)]++b++[] from rfl,hlen,hb]
 simp only[List.append_assoc,List.nil_append]
end
namespace Lt
section
set_option linter.unusedVariables false
set_option linter.unusedSimpArgs false
set_option linter.unusedSectionVars false
set_option linter.constructorNameAsVariable false
open Tryz
def ints(t:Nat):Bool:=[3,36].any (Nat.beq t)
theorem UZ:∀t,ints t=true->yB Tryz.prog t:=by
 intro t h
 have h:t∈([3,36]:List Nat):=by
  unfold ints at h
  rw[List.any_eq_true] at h
  obtain⟨x,hx,e⟩:=h
  rw[Nat.eq_of_beq_eq_true e];exact hx
 simp only[List.mem_cons,List.not_mem_nil,or_false] at h
 rcases h with rfl|rfl
 ·exact⟨⟨_,Tryz.underlying3⟩,Tryz.t3,zS Tryz.type3,by kernel_rfl⟩
 ·exact⟨⟨_,Tryz.underlying36⟩,Tryz.t36,zS Tryz.type36,by kernel_rfl⟩
structure TE where
 t:Nat
 i:gE
 h:Kr Tryz.prog t i
noncomputable def tx{t:Nat}{n:TypeInfo}{d:TypeDesc}(h:Tryz.prog.types[t]? =some n)(u:Tryz.prog.underlying t=some d):TE:=
 ⟨t,⟨d,n.size,n.bytes,n.zero,false,[]⟩,u,⟨n,zS h,rfl,rfl,λ_ h=>h⟩,λh=>by cases h⟩
noncomputable def tf{t:Nat}{n:TypeInfo}{d:TypeDesc}(h:Tryz.prog.types[t]? =some n)(u:Tryz.prog.underlying t=some d)(e:Tryz.prog.eqGuardType Tryz.prog.depth t=false)(s:Tryz.prog.stoodInHeld t=false:=by kernel_rfl)
 (f:E7 ints n.size d=true:=by kernel_rfl):TE:=
 ⟨t,⟨d,n.size,n.bytes,n.zero,true,[]⟩,u,⟨n,zS h,rfl,rfl,λ_ h=>h⟩,λ_=>⟨e,s,Ue UZ f⟩⟩
structure FE where
 n:Nat
 f:Func
 h:Tryz.prog.funcs[n]? =some f/\(f.name== "runtime.NumGoroutine")=false/\f.body.isSome=true
noncomputable def fx{n:Nat}{f:Func}(h:Tryz.prog.funcs[n]? =some f)(k:(f.name== "runtime.NumGoroutine")=false:=by kernel_rfl)(b:f.body.isSome=true:=by kernel_rfl):FE:=⟨n,f,h,k,b⟩
noncomputable def tl:List TE:=[tx type0 underlying0,tx type1 underlying1,tx type3 underlying3,tx type4 underlying4,tx type5 underlying5,tx type9 underlying9,tx type20 underlying20,tx type22 underlying22,tx type24 underlying24,tx type25 underlying25,tx type26 underlying26,tx type28 underlying28,tx type30 underlying30,tx type34 underlying34,tx type35 underlying35,tx type36 underlying36,tx type37 underlying37,tx type41 underlying41,tx type43 underlying43,tx type44 underlying44,tx type47 underlying47,tx type50 underlying50,tx type53 underlying53,tx type56 underlying56,tx type70 underlying70,tx type72 underlying72,tf type97 underlying97 eqGuardType97,tx type98 underlying98,tx type99 underlying99,tx type103 underlying103,tx type105 underlying105,tx type107 underlying107,tx type109 underlying109,tx type115 underlying115,tx type117 underlying117,tx type119 underlying119,tx type121 underlying121,tx type123 underlying123,tx type125 underlying125,tx type134 underlying134,tx type136 underlying136,tx type159 underlying159,tx type160 underlying160,tx type163 underlying163,tx type173 underlying173,tx type174 underlying174,tx type176 underlying176,tx type179 underlying179,tx type181 underlying181,tx type182 underlying182,tx type185 underlying185,tx type186 underlying186,tx type189 underlying189,tx type192 underlying192,tx type194 underlying194,tx type198 underlying198,tx type199 underlying199,tx type205 underlying205,tx type207 underlying207,tx type209 underlying209,tx type210 underlying210,tx type212 underlying212,tx type215 underlying215,tx type217 underlying217,tx type218 underlying218,tx type219 underlying219,tx type221 underlying221,tx type223 underlying223,tx type232 underlying232,tx type233 underlying233,tx type259 underlying259,tx type261 underlying261,tx type266 underlying266,tx type269 underlying269,tf type271 underlying271 eqGuardType271,tx type272 underlying272,tx type273 underlying273,tx type275 underlying275,tx type278 underlying278,tx type280 underlying280,tx type283 underlying283,tx type286 underlying286,tx type288 underlying288,tx type289 underlying289,tx type291 underlying291,tx type293 underlying293,tx type295 underlying295,tx type300 underlying300,tx type301 underlying301,tx type303 underlying303,tf type304 underlying304 eqGuardType304,tf type307 underlying307 eqGuardType307,tf type314 underlying314 eqGuardType314,tx type325 underlying325,tx type327 underlying327,tf type331 underlying331 eqGuardType331,tx type334 underlying334,tx type340 underlying340,tx type346 underlying346,tx type348 underlying348,tx type349 underlying349,tx type352 underlying352,tx type354 underlying354,tx type356 underlying356,tx type361 underlying361,tx type365 underlying365,tx type366 underlying366,tx type368 underlying368,tx type377 underlying377,tf type385 underlying385 eqGuardType385,tx type386 underlying386,tx type388 underlying388,tx type394 underlying394,tx type395 underlying395,tx type397 underlying397,tx type399 underlying399,tx type400 underlying400,tf type402 underlying402 eqGuardType402,tx type404 underlying404,tf type406 underlying406 eqGuardType406,tx type413 underlying413,tf type415 underlying415 eqGuardType415,tx type417 underlying417,tx type418 underlying418,tx type422 underlying422,tx type424 underlying424,tx type425 underlying425,tx type426 underlying426,tx type429 underlying429,tx type433 underlying433,tx type435 underlying435,tx type437 underlying437,tx type438 underlying438,tf type440 underlying440 eqGuardType440,tx type441 underlying441,tx type443 underlying443,tx type446 underlying446,tx type456 underlying456,tx type458 underlying458,tx type460 underlying460,tf type463 underlying463 eqGuardType463,tf type464 underlying464 eqGuardType464,tf type465 underlying465 eqGuardType465,tx type467 underlying467,tx type472 underlying472,tx type473 underlying473,tx type479 underlying479,tx type481 underlying481,tx type482 underlying482,tx type483 underlying483,tx type486 underlying486,tx type493 underlying493,tx type498 underlying498,tx type517 underlying517,tx type522 underlying522,tx type524 underlying524,tx type545 underlying545]
noncomputable def fl:List FE:=[fx func3,fx func15,fx func16,fx func17,fx func18,fx func19,fx func20,fx func21,fx func22,fx func24,fx func54,fx func55,fx func56,fx func57,fx func58,fx func59,fx func60,fx func61,fx func62,fx func64,fx func65,fx func66,fx func67,fx func80,fx func94,fx func104,fx func105,fx func106,fx func107,fx func108,fx func109,fx func110,fx func111,fx func112,fx func113,fx func114,fx func115,fx func116,fx func117,fx func118,fx func119,fx func120,fx func122,fx func123,fx func124,fx func125,fx func126,fx func127,fx func128,fx func129,fx func130,fx func131,fx func132,fx func133,fx func134,fx func142,fx func144,fx func145,fx func154,fx func155,fx func156,fx func157,fx func158,fx func159,fx func160,fx func161,fx func162,fx func163,fx func164,fx func165,fx func166,fx func167,fx func168,fx func169,fx func170,fx func171,fx func172,fx func173,fx func174,fx func175,fx func176,fx func177,fx func178,fx func179,fx func180,fx func181,fx func182,fx func183,fx func184,fx func185,fx func186,fx func187,fx func188,fx func189,fx func190,fx func191,fx func192,fx func193,fx func194,fx func195,fx func196,fx func197,fx func198,fx func199,fx func200,fx func216,fx func217,fx func218,fx func219,fx func220,fx func221,fx func222,fx func223,fx func224,fx func225,fx func226,fx func227,fx func228,fx func229,fx func230,fx func231,fx func232,fx func233,fx func234,fx func235,fx func236,fx func237,fx func238,fx func239,fx func240,fx func241,fx func242,fx func243,fx func244,fx func245,fx func246,fx func247,fx func248,fx func249,fx func250,fx func251,fx func252,fx func253,fx func254,fx func255,fx func256,fx func257,fx func258,fx func259,fx func260,fx func261,fx func262,fx func263,fx func264,fx func265,fx func266,fx func267,fx func268,fx func269,fx func286,fx func293,fx func294,fx func295,fx func299,fx func300,fx func301,fx func302,fx func303,fx func304,fx func305,fx func306,fx func307,fx func308,fx func309,fx func310,fx func311,fx func312,fx func313,fx func314,fx func315,fx func316,fx func317,fx func318,fx func319,fx func320,fx func321,fx func322,fx func323,fx func324,fx func325,fx func326,fx func327,fx func328,fx func329,fx func330,fx func331,fx func332,fx func333,fx func334,fx func335,fx func336,fx func337,fx func338,fx func339,fx func340,fx func341,fx func342,fx func361,fx func362,fx func363,fx func364,fx func365,fx func366,fx func367,fx func368,fx func369,fx func370,fx func371,fx func372,fx func373,fx func374,fx func375,fx func376,fx func377,fx func378,fx func379,fx func380,fx func381,fx func382,fx func383,fx func384,fx func385,fx func386,fx func387,fx func388,fx func389,fx func390,fx func391,fx func392,fx func393,fx func394,fx func395,fx func396,fx func397,fx func398,fx func399,fx func400,fx func401,fx func402,fx func403,fx func428,fx func429,fx func430,fx func431,fx func434,fx func435,fx func436,fx func437,fx func438,fx func439,fx func440,fx func441,fx func442,fx func443,fx func444,fx func445,fx func446,fx func447,fx func448,fx func449,fx func450,fx func451,fx func452,fx func453,fx func454,fx func455,fx func456,fx func457,fx func458,fx func478,fx func479,fx func480,fx func481,fx func482,fx func483,fx func494,fx func495]
noncomputable def RF:TT:=(.node (some (tx type0 underlying0).i) (.node (some (tx type1 underlying1).i) (.node (some (tx type3 underlying3).i) (.node none (.node none (.node none .nil (.node none (.node (some (tx type159 underlying159).i) .nil (.node (some (tf type415 underlying415 eqGuardType415).i) .nil .nil)) (.node (some (tx type223 underlying223).i) .nil (.node (some (tx type479 underlying479).i) .nil .nil)))) (.node (some (tx type47 underlying47).i) (.node none (.node none (.node (some (tf type271 underlying271 eqGuardType271).i) .nil .nil) (.node (some (tx type399 underlying399).i) .nil .nil)) (.node (some (tx type207 underlying207).i) .nil (.node (some (tf type463 underlying463 eqGuardType463).i) .nil .nil))) (.node none (.node none (.node (some (tx type303 underlying303).i) .nil .nil) .nil) .nil))) (.node none (.node none (.node none .nil (.node (some (tx type199 underlying199).i) (.node (some (tx type327 underlying327).i) .nil .nil) .nil)) (.node (some (tx type103 underlying103).i) (.node none (.node (some (tx type295 underlying295).i) .nil .nil) .nil) .nil)) (.node none (.node none .nil (.node (some (tx type215 underlying215).i) .nil .nil)) (.node (some (tx type119 underlying119).i) .nil .nil)))) (.node none (.node none (.node (some (tx type35 underlying35).i) (.node none (.node none (.node (some (tx type259 underlying259).i) .nil .nil) .nil) .nil) (.node (some (tx type99 underlying99).i) (.node (some (tx type163 underlying163).i) (.node (some (tx type291 underlying291).i) .nil .nil) .nil) (.node none .nil (.node (some (tx type483 underlying483).i) .nil .nil)))) (.node none (.node none (.node none (.node (some (tx type275 underlying275).i) .nil .nil) .nil) (.node none .nil (.node (some (tx type467 underlying467).i) .nil .nil))) (.node (some (tx type115 underlying115).i) (.node (some (tx type179 underlying179).i) (.node (some (tf type307 underlying307 eqGuardType307).i) .nil .nil) (.node (some (tx type435 underlying435).i) .nil .nil)) .nil))) (.node none (.node (some (tx type43 underlying43).i) (.node none (.node none .nil (.node (some (tx type395 underlying395).i) .nil .nil)) (.node none (.node (some (tf type331 underlying331 eqGuardType331).i) .nil .nil) .nil)) (.node (some (tx type107 underlying107).i) .nil .nil)) (.node none (.node none (.node none (.node (some (tx type283 underlying283).i) .nil .nil) .nil) (.node (some (tx type219 underlying219).i) .nil .nil)) (.node (some (tx type123 underlying123).i) (.node none .nil (.node (some (tx type443 underlying443).i) .nil .nil)) .nil))))) (.node (some (tx type5 underlying5).i) (.node (some (tx type9 underlying9).i) (.node none (.node none (.node none (.node none .nil (.node (some (tf type385 underlying385 eqGuardType385).i) .nil .nil)) .nil) (.node (some (tf type97 underlying97 eqGuardType97).i) (.node none (.node (some (tx type289 underlying289).i) (.node (some (tx type545 underlying545).i) .nil .nil) .nil) (.node (some (tx type417 underlying417).i) .nil .nil)) (.node none .nil (.node (some (tx type481 underlying481).i) .nil .nil)))) (.node none (.node none (.node none (.node (some (tx type273 underlying273).i) .nil .nil) .nil) (.node (some (tx type209 underlying209).i) .nil (.node (some (tf type465 underlying465 eqGuardType465).i) .nil .nil))) (.node none (.node none .nil (.node (some (tx type433 underlying433).i) .nil .nil)) .nil))) (.node (some (tx type25 underlying25).i) (.node (some (tx type41 underlying41).i) .nil (.node (some (tx type105 underlying105).i) (.node none .nil (.node (some (tx type425 underlying425).i) .nil .nil)) (.node (some (tx type233 underlying233).i) (.node (some (tx type361 underlying361).i) .nil .nil) .nil))) (.node none (.node none .nil (.node (some (tx type217 underlying217).i) .nil (.node (some (tx type473 underlying473).i) .nil .nil))) (.node (some (tx type121 underlying121).i) (.node (some (tx type185 underlying185).i) .nil (.node (some (tx type441 underlying441).i) .nil .nil)) (.node none (.node (some (tx type377 underlying377).i) .nil .nil) .nil))))) (.node none (.node none (.node (some (tx type37 underlying37).i) (.node none (.node none (.node (some (tx type261 underlying261).i) (.node (some (tx type517 underlying517).i) .nil .nil) .nil) .nil) (.node none (.node (some (tx type325 underlying325).i) .nil .nil) .nil)) (.node none (.node none (.node (some (tx type293 underlying293).i) .nil .nil) .nil) .nil)) (.node (some (tx type53 underlying53).i) .nil (.node (some (tx type117 underlying117).i) (.node (some (tx type181 underlying181).i) .nil (.node (some (tx type437 underlying437).i) .nil .nil)) .nil))) (.node none (.node none (.node none (.node none (.node (some (tx type269 underlying269).i) .nil .nil) (.node (some (tx type397 underlying397).i) .nil .nil)) (.node (some (tx type205 underlying205).i) .nil .nil)) (.node (some (tx type109 underlying109).i) (.node (some (tx type173 underlying173).i) (.node (some (tx type301 underlying301).i) .nil .nil) (.node (some (tx type429 underlying429).i) .nil .nil)) (.node none (.node (some (tx type365 underlying365).i) .nil .nil) (.node (some (tx type493 underlying493).i) .nil .nil)))) (.node none (.node none (.node none .nil (.node (some (tx type413 underlying413).i) .nil .nil)) (.node (some (tx type221 underlying221).i) (.node (some (tx type349 underlying349).i) .nil .nil) .nil)) (.node (some (tx type125 underlying125).i) (.node (some (tx type189 underlying189).i) .nil .nil) .nil)))))) (.node none (.node (some (tx type4 underlying4).i) (.node none (.node none (.node none (.node none .nil (.node (some (tx type192 underlying192).i) .nil .nil)) (.node none (.node (some (tx type160 underlying160).i) (.node (some (tx type288 underlying288).i) .nil .nil) .nil) (.node none (.node (some (tx type352 underlying352).i) .nil .nil) .nil))) (.node none (.node none (.node none (.node (some (tx type272 underlying272).i) .nil .nil) (.node (some (tx type400 underlying400).i) .nil .nil)) (.node none .nil (.node (some (tf type464 underlying464 eqGuardType464).i) .nil .nil))) (.node none (.node (some (tx type176 underlying176).i) (.node (some (tf type304 underlying304 eqGuardType304).i) .nil .nil) .nil) (.node none (.node (some (tx type368 underlying368).i) .nil .nil) .nil)))) (.node (some (tx type24 underlying24).i) (.node none (.node (some (tx type72 underlying72).i) (.node (some (tx type136 underlying136).i) .nil .nil) (.node none .nil (.node (some (tx type456 underlying456).i) .nil .nil))) (.node none (.node none .nil (.node (some (tx type424 underlying424).i) .nil .nil)) (.node (some (tx type232 underlying232).i) .nil .nil))) (.node (some (tx type56 underlying56).i) (.node none (.node none (.node (some (tx type280 underlying280).i) .nil .nil) .nil) (.node none .nil (.node (some (tx type472 underlying472).i) .nil .nil))) (.node none (.node none .nil (.node (some (tf type440 underlying440 eqGuardType440).i) .nil .nil)) .nil)))) (.node none (.node (some (tx type20 underlying20).i) (.node (some (tx type36 underlying36).i) (.node none (.node none .nil (.node (some (tx type388 underlying388).i) .nil .nil)) .nil) (.node none .nil (.node none (.node (some (tx type356 underlying356).i) .nil .nil) .nil))) (.node none (.node none (.node none .nil (.node (some (tx type404 underlying404).i) .nil .nil)) (.node (some (tx type212 underlying212).i) (.node (some (tx type340 underlying340).i) .nil .nil) .nil)) .nil)) (.node (some (tx type28 underlying28).i) (.node (some (tx type44 underlying44).i) (.node none (.node none (.node none (.node (some (tx type524 underlying524).i) .nil .nil) .nil) .nil) (.node none .nil (.node (some (tx type460 underlying460).i) .nil .nil))) (.node none (.node none (.node (some (tx type300 underlying300).i) .nil .nil) .nil) .nil)) (.node none (.node none .nil (.node none (.node (some (tx type348 underlying348).i) .nil .nil) .nil)) .nil)))) (.node none (.node none (.node none (.node (some (tx type34 underlying34).i) (.node none (.node none .nil (.node (some (tx type386 underlying386).i) .nil .nil)) (.node (some (tx type194 underlying194).i) .nil .nil)) (.node (some (tx type98 underlying98).i) (.node none .nil (.node (some (tx type418 underlying418).i) .nil .nil)) (.node none (.node (some (tx type354 underlying354).i) .nil .nil) (.node (some (tx type482 underlying482).i) .nil .nil)))) (.node (some (tx type50 underlying50).i) (.node none (.node none .nil (.node (some (tf type402 underlying402 eqGuardType402).i) .nil .nil)) (.node (some (tx type210 underlying210).i) .nil .nil)) (.node none .nil (.node none .nil (.node (some (tx type498 underlying498).i) .nil .nil))))) (.node (some (tx type26 underlying26).i) (.node none (.node none (.node none (.node (some (tx type266 underlying266).i) (.node (some (tx type522 underlying522).i) .nil .nil) .nil) (.node (some (tx type394 underlying394).i) .nil .nil)) (.node none .nil (.node (some (tx type458 underlying458).i) .nil .nil))) (.node none (.node none .nil (.node (some (tx type426 underlying426).i) .nil .nil)) .nil)) (.node none (.node none .nil (.node (some (tx type218 underlying218).i) (.node (some (tx type346 underlying346).i) .nil .nil) .nil)) (.node none (.node (some (tx type186 underlying186).i) (.node (some (tf type314 underlying314 eqGuardType314).i) .nil .nil) .nil) .nil)))) (.node none (.node (some (tx type22 underlying22).i) (.node none (.node (some (tx type70 underlying70).i) (.node (some (tx type134 underlying134).i) .nil .nil) (.node (some (tx type198 underlying198).i) .nil .nil)) (.node none (.node none .nil (.node (some (tx type422 underlying422).i) .nil .nil)) (.node none .nil (.node (some (tx type486 underlying486).i) .nil .nil)))) (.node none (.node none (.node none (.node (some (tx type278 underlying278).i) .nil .nil) (.node (some (tf type406 underlying406 eqGuardType406).i) .nil .nil)) .nil) (.node none (.node (some (tx type182 underlying182).i) .nil (.node (some (tx type438 underlying438).i) .nil .nil)) .nil))) (.node (some (tx type30 underlying30).i) (.node none (.node none .nil (.node none (.node (some (tx type334 underlying334).i) .nil .nil) .nil)) (.node none (.node (some (tx type174 underlying174).i) .nil .nil) (.node none (.node (some (tx type366 underlying366).i) .nil .nil) .nil))) (.node none (.node none (.node none (.node (some (tx type286 underlying286).i) .nil .nil) .nil) .nil) (.node none (.node none .nil (.node (some (tx type446 underlying446).i) .nil .nil)) .nil)))))))
noncomputable def RE:FT:=(.node none (.node none (.node (some f3) (.node none (.node (some f15) (.node none (.node none (.node (some f127) (.node (some f255) .nil .nil) (.node (some f383) .nil .nil)) (.node (some f191) (.node (some f319) .nil .nil) (.node (some f447) .nil .nil))) (.node none (.node (some f159) .nil .nil) (.node (some f223) .nil (.node (some f479) .nil .nil)))) (.node none (.node none (.node none .nil (.node (some f399) .nil .nil)) (.node none (.node (some f335) .nil .nil) .nil)) (.node (some f111) (.node (some f175) (.node (some f303) .nil .nil) (.node (some f431) .nil .nil)) (.node (some f239) (.node (some f367) .nil .nil) (.node (some f495) .nil .nil))))) (.node none (.node none (.node none (.node none (.node (some f263) .nil .nil) (.node (some f391) .nil .nil)) (.node (some f199) (.node (some f327) .nil .nil) (.node (some f455) .nil .nil))) (.node none (.node (some f167) (.node (some f295) .nil .nil) .nil) (.node (some f231) .nil .nil))) (.node (some f55) .nil (.node (some f119) (.node (some f183) (.node (some f311) .nil .nil) (.node (some f439) .nil .nil)) (.node (some f247) (.node (some f375) .nil .nil) .nil))))) (.node none (.node (some f19) (.node none (.node (some f67) (.node (some f131) (.node (some f259) .nil .nil) (.node (some f387) .nil .nil)) (.node (some f195) (.node (some f323) .nil .nil) (.node (some f451) .nil .nil))) (.node none (.node (some f163) .nil .nil) (.node (some f227) .nil (.node (some f483) .nil .nil)))) (.node none (.node none (.node none .nil (.node (some f403) .nil .nil)) (.node none (.node (some f339) .nil .nil) .nil)) (.node (some f115) (.node (some f179) (.node (some f307) .nil .nil) (.node (some f435) .nil .nil)) (.node (some f243) (.node (some f371) .nil .nil) .nil)))) (.node none (.node none (.node none (.node none (.node (some f267) .nil .nil) (.node (some f395) .nil .nil)) (.node none (.node (some f331) .nil .nil) .nil)) (.node (some f107) (.node (some f171) (.node (some f299) .nil .nil) .nil) (.node (some f235) (.node (some f363) .nil .nil) .nil))) (.node (some f59) (.node none (.node (some f155) .nil .nil) (.node (some f219) .nil .nil)) (.node (some f123) (.node (some f187) (.node (some f315) .nil .nil) (.node (some f443) .nil .nil)) (.node (some f251) (.node (some f379) .nil .nil) .nil)))))) (.node none (.node none (.node (some f17) (.node none (.node (some f65) (.node (some f129) (.node (some f257) .nil .nil) (.node (some f385) .nil .nil)) (.node (some f193) (.node (some f321) .nil .nil) (.node (some f449) .nil .nil))) (.node none (.node (some f161) .nil .nil) (.node (some f225) .nil (.node (some f481) .nil .nil)))) (.node none (.node none (.node (some f145) .nil (.node (some f401) .nil .nil)) (.node none (.node (some f337) .nil .nil) .nil)) (.node (some f113) (.node (some f177) (.node (some f305) .nil .nil) .nil) (.node (some f241) (.node (some f369) .nil .nil) .nil)))) (.node none (.node none (.node none (.node none (.node (some f265) .nil .nil) (.node (some f393) .nil .nil)) (.node none (.node (some f329) .nil .nil) (.node (some f457) .nil .nil))) (.node (some f105) (.node (some f169) .nil .nil) (.node (some f233) (.node (some f361) .nil .nil) .nil))) (.node (some f57) (.node none .nil (.node (some f217) .nil .nil)) (.node none (.node (some f185) (.node (some f313) .nil .nil) (.node (some f441) .nil .nil)) (.node (some f249) (.node (some f377) .nil .nil) .nil))))) (.node none (.node (some f21) (.node none (.node none (.node (some f133) (.node (some f261) .nil .nil) (.node (some f389) .nil .nil)) (.node (some f197) (.node (some f325) .nil .nil) (.node (some f453) .nil .nil))) (.node none (.node (some f165) (.node (some f293) .nil .nil) .nil) (.node (some f229) .nil .nil))) (.node none (.node none .nil (.node none (.node (some f341) .nil .nil) .nil)) (.node (some f117) (.node (some f181) (.node (some f309) .nil .nil) (.node (some f437) .nil .nil)) (.node (some f245) (.node (some f373) .nil .nil) .nil)))) (.node none (.node none (.node none (.node none (.node (some f269) .nil .nil) (.node (some f397) .nil .nil)) (.node none (.node (some f333) .nil .nil) .nil)) (.node (some f109) (.node (some f173) (.node (some f301) .nil .nil) (.node (some f429) .nil .nil)) (.node (some f237) (.node (some f365) .nil .nil) .nil))) (.node (some f61) (.node none (.node (some f157) .nil .nil) (.node (some f221) .nil .nil)) (.node (some f125) (.node (some f189) (.node (some f317) .nil .nil) (.node (some f445) .nil .nil)) (.node (some f253) (.node (some f381) .nil .nil) .nil))))))) (.node none (.node none (.node none (.node (some f16) (.node none (.node (some f64) (.node (some f128) (.node (some f256) .nil .nil) (.node (some f384) .nil .nil)) (.node (some f192) (.node (some f320) .nil .nil) (.node (some f448) .nil .nil))) (.node none (.node (some f160) .nil .nil) (.node (some f224) .nil (.node (some f480) .nil .nil)))) (.node none (.node (some f80) (.node (some f144) .nil (.node (some f400) .nil .nil)) (.node none (.node (some f336) .nil .nil) .nil)) (.node (some f112) (.node (some f176) (.node (some f304) .nil .nil) .nil) (.node (some f240) (.node (some f368) .nil .nil) .nil)))) (.node (some f24) (.node none (.node none (.node none (.node (some f264) .nil .nil) (.node (some f392) .nil .nil)) (.node (some f200) (.node (some f328) .nil .nil) (.node (some f456) .nil .nil))) (.node (some f104) (.node (some f168) .nil .nil) (.node (some f232) .nil .nil))) (.node (some f56) (.node none .nil (.node (some f216) .nil .nil)) (.node (some f120) (.node (some f184) (.node (some f312) .nil .nil) (.node (some f440) .nil .nil)) (.node (some f248) (.node (some f376) .nil .nil) .nil))))) (.node none (.node (some f20) (.node none (.node none (.node (some f132) (.node (some f260) .nil .nil) (.node (some f388) .nil .nil)) (.node (some f196) (.node (some f324) .nil .nil) (.node (some f452) .nil .nil))) (.node none (.node (some f164) .nil .nil) (.node (some f228) .nil .nil))) (.node none (.node none .nil (.node none (.node (some f340) .nil .nil) .nil)) (.node (some f116) (.node (some f180) (.node (some f308) .nil .nil) (.node (some f436) .nil .nil)) (.node (some f244) (.node (some f372) .nil .nil) .nil)))) (.node none (.node none (.node none (.node none (.node (some f268) .nil .nil) (.node (some f396) .nil .nil)) (.node none (.node (some f332) .nil .nil) .nil)) (.node (some f108) (.node (some f172) (.node (some f300) .nil .nil) (.node (some f428) .nil .nil)) (.node (some f236) (.node (some f364) .nil .nil) .nil))) (.node (some f60) (.node none (.node (some f156) .nil .nil) (.node (some f220) .nil .nil)) (.node (some f124) (.node (some f188) (.node (some f316) .nil .nil) (.node (some f444) .nil .nil)) (.node (some f252) (.node (some f380) .nil .nil) .nil)))))) (.node none (.node none (.node (some f18) (.node none (.node (some f66) (.node (some f130) (.node (some f258) .nil .nil) (.node (some f386) .nil .nil)) (.node (some f194) (.node (some f322) .nil .nil) (.node (some f450) .nil .nil))) (.node none (.node (some f162) .nil .nil) (.node (some f226) .nil (.node (some f482) .nil .nil)))) (.node none (.node none (.node none .nil (.node (some f402) .nil .nil)) (.node none (.node (some f338) .nil .nil) .nil)) (.node (some f114) (.node (some f178) (.node (some f306) .nil .nil) (.node (some f434) .nil .nil)) (.node (some f242) (.node (some f370) .nil .nil) .nil)))) (.node none (.node none (.node none (.node none (.node (some f266) .nil .nil) (.node (some f394) .nil .nil)) (.node none (.node (some f330) .nil .nil) (.node (some f458) .nil .nil))) (.node (some f106) (.node (some f170) .nil .nil) (.node (some f234) (.node (some f362) .nil .nil) .nil))) (.node (some f58) (.node none (.node (some f154) .nil .nil) (.node (some f218) .nil .nil)) (.node (some f122) (.node (some f186) (.node (some f314) .nil .nil) (.node (some f442) .nil .nil)) (.node (some f250) (.node (some f378) .nil .nil) .nil))))) (.node none (.node (some f22) (.node none (.node none (.node (some f134) (.node (some f262) .nil .nil) (.node (some f390) .nil .nil)) (.node (some f198) (.node (some f326) .nil .nil) (.node (some f454) .nil .nil))) (.node none (.node (some f166) (.node (some f294) .nil .nil) .nil) (.node (some f230) .nil .nil))) (.node (some f54) (.node none .nil (.node none (.node (some f342) .nil .nil) .nil)) (.node (some f118) (.node (some f182) (.node (some f310) .nil .nil) (.node (some f438) .nil .nil)) (.node (some f246) (.node (some f374) .nil .nil) .nil)))) (.node none (.node none (.node none (.node (some f142) .nil (.node (some f398) .nil .nil)) (.node none (.node (some f334) .nil .nil) .nil)) (.node (some f110) (.node (some f174) (.node (some f302) .nil .nil) (.node (some f430) .nil .nil)) (.node (some f238) (.node (some f366) .nil .nil) (.node (some f494) .nil .nil)))) (.node (some f62) (.node (some f94) (.node (some f158) (.node (some f286) .nil .nil) .nil) (.node (some f222) .nil (.node (some f478) .nil .nil))) (.node (some f126) (.node (some f190) (.node (some f318) .nil .nil) (.node (some f446) .nil .nil)) (.node (some f254) (.node (some f382) .nil .nil) .nil))))))))
theorem adh:RF=pN (tl.map λe=>(e.t,e.i)):=by kernel_rfl
theorem adg:RE=pN (fl.map λe=>(e.n,e.f)):=by kernel_rfl
noncomputable def nu:dL:=⟨RF,RE⟩
theorem fe:gP Tryz.prog nu:=adi adh adg
 (λp hp=>by obtain⟨e,_,rfl⟩:=List.mem_map.1 hp;exact e.h) (λp hp=>by obtain⟨e,_,rfl⟩:=List.mem_map.1 hp;exact e.h)
def ZP:List Nat:=[397,317,193,181,254,255,249,239,94,267,144,130,262,398,367,81,369,318,317,142,246,269,443,258,458,231,429,444,200,178,241,312,313,240,388,330,307,389,245,162,226,300,224,167]
noncomputable instance:QF:=⟨λn=>List.any ZP (Nat.beq n)⟩
theorem mixed:Tryz.prog.follows .mixedOrders=true:=Tryz.checked.mixed
end
end Lt
end Go.Proofs.YtcfjfbeadhnknaaGreatDoor

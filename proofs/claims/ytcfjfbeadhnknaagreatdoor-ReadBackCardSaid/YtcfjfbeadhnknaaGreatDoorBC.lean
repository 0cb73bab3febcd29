import Derived.Recover
import Derived.Still
import Derived.Laws.BitsLemmas
import Derived.Test.YtcfjfbeadhnknaaGreatDoorChecked
import Derived.KernelRfl
import Derived.Eval
import Derived.Test.YtcfjfbeadhnknaaGreatDoorBB
namespace Go.Proofs.YtcfjfbeadhnknaaGreatDoor
set_option linter.unusedVariables false
set_option linter.unusedSimpArgs false
set_option linter.unusedSectionVars false
set_option linter.constructorNameAsVariable false
set_option maxRecDepth 100000
namespace Lt
section
def vY(P:Program)(g:FuncId)(us:List Value)(R:(Nat->Nat->Option Value)->Value->Prop):Prop:=∀(m:Nat->Nat->Option Value)(args':Array Value)(w:World),Kn m w->PW (aK m) us args'.toList->
 Calls P g args' w λe w'=>∃v',e=.returned v'/\RowKit.Below w.heap.size w w'/\R (cM m w w') v'
def dF(P:Program)(g:FuncId)(avt:List VT)(rvt:VT)(Sh:Fn (VT.fa avt) (Option (bI rvt.ks))):Prop:=
 ∀ls r,iu (VT.fa avt) Sh ls=some r->ff ls->∀us,fI avt ls=some (us,[])->vY P g us λm v=>∃pv,jK rvt (gB rvt.ks r)=some (pv,[])/\ff (gB rvt.ks r)/\aK m pv v
theorem eH.below{w w':World}(h:eH (λ_=>False) w w'):RowKit.Below w.heap.size w w':=⟨h.os,h.tape,h.output,h.size,λb hb=>h.block b hb id⟩
theorem eH.Kb{w w':World}(h:RowKit.Below w.heap.size w w'):eH (λ_=>False) w w':=⟨h.os,h.tape,h.output,h.size,λb hb _=>h.block b hb⟩
theorem Mem.start{m:Nat->Nat->Option Value}{w:World}(K:Kn m w){n:Nat}{dG:List Deferred}{F:Nat->Prop}:Mem ⟨w,λ_=>False,m,0,λ_=>none,n,dG⟩ ⟨λ_=>none,m⟩ (hG .nil) F w:=
 ⟨λid so h=>(oN h).elim,λi j so so' o o' n n' h=>(oN h).elim,λ_ _=>rfl,K,λb i v _ ⟨id,so,o,n,h,_⟩=>oN h,eH.refl _ _,λb ⟨id,so,o,n,h,_⟩=>(oN h).elim,λb i v h=>.inl h,λk hk=>(Nat.not_lt_zero k hk).elim,λ_ _ _ h=>h⟩
theorem Mem.Wj{m:Nat->Nat->Option Value}{w w':World}(K:Kn m w){an n:Nat}{nm:Nat->Option (Option (Nat×Nat)×Nat)}{dG:List Deferred}{F:Nat->Prop}{σ:Ren}{h:Tr SO}(M:Mem ⟨w,λ_=>False,m,an,nm,n,dG⟩ σ (hG h) F w'):Seen σ (cM m w w') h w':=by
 refine⟨λb i v q=>?_,M.obj,λid so ho o n hn i v hv=>?_⟩
 ·unfold cM;rcases M.lW b i v q with k|k|k
  ·rw[az (mZ (K b i v k))];exact k
  ·exact k.elim
  ·rw[ar (Nat.not_lt.2 k)];exact M.lit b i v q
 ·rcases M.owned o.1 ⟨id,so,o,_,ho,hn,rfl⟩ with k|k
  ·exact k.elim
  ·unfold cM;rw[ar (Nat.not_lt.2 k)];exact hv
theorem Yp:∀{svs:List SV}{n:Nat}{T:Tr SV}{t:Nat}{sv:SV},(nY svs n T).get t=some sv->(∃i,t=n+i/\svs[i]? =some sv)\/T.get t=some sv
 |[],n,T,t,sv,h=>.inr h
 |x::svs,n,T,t,sv,h=>by
  rcases Yp (svs:=svs) h with⟨i,h1,h2⟩|h
  ·exact .inl ⟨i+1,by omega,h2⟩
  ·rw[Tr.fA] at h;split at h
   ·rename_i q;cases h;exact .inl ⟨0,q,rfl⟩
   ·exact .inr h
theorem BK{σ:Ren}{svs:List SV}{args:Array Value}(d:eQ σ svs args.toList){dG:List Deferred}:Ev σ (nY svs 0 .nil) {tmps:=args,defers:=dG}:=λt sv h=>by
 rcases Yp h with⟨i,rfl,hi⟩|h
 ·obtain⟨y,h1,h2⟩:=d.get hi;rw[mh] at h1;simp only[Act.eval,gm,pT,h1,qb];exact h2
 ·rw[Tr.get_nil] at h;cases h
theorem sJ{σ:Ren}{tm:Tr SV}{args:Array Value}{k:Nat}{dG dfs':List Deferred}(R:Ev σ tm {tmps:=args,defers:=dG}):Ev σ tm {tmps:=args++Array.replicate k undef,defers:=dfs'}:=λt sv h=>by
 have e:(args++Array.replicate k undef).getD t undef=args.getD t undef:=by
  simp only[pT,Array.getElem?_append,Array.getElem?_replicate];split
  ·rfl
  ·rename_i q;rw[Array.getElem?_eq_none (Nat.not_lt.1 q)];split<;>rfl
 have:=R t sv h;simp only[Act.eval] at this⊢;rwa[e]
section
noncomputable def Zu{β:Type}[QF](C:Ctx β)(N:Nat)(avt:List VT)(body:Code)(ls:List bo):Option β:=
 ob (vD avt ls) λq=>dn C N [] [.code body] ⟨nY q.1 0 .nil,.nil,0⟩
noncomputable def Px[QF](w:Nat)(X:ed)(pt:(β:Type)->FuncId->Option (cy β))(fn:Func)(avt:List VT)(rvt:VT)(lv jv:Nat->Option cH)(un:Nat->Bool):Fn (VT.fa avt) (Option (bI rvt.ks)):=
 lL (VT.fa avt) (Zu {X:=X,pt:=pt _,n:=avt.length+(fn.ntmps -avt.length),rs:=fn.results.toList,lv:=lv,jv:=jv,un:=un,df:=false,fuel:=w,an:=0,hM:=λsv st=>zx st rvt sv (dec rvt.ks),lR:=λ_ _=>bF 52} 100000 avt (fn.body.getD .skip))
def jo(P:Program)(pt:(β:Type)->FuncId->Option (cy β)):Prop:=∀β,mP P (pt β)
theorem sZ{P:Program}:jo P (λ_ _=>none):=λ_ g e h=>by cases h
theorem zk{β:Type}{P:Program}{C:Ctx β}{fn:Func}{g:FuncId}{B:Bs}{b:β}{args:Array Value}{w:World}{R:Ending->World->Prop}(hf:P.funcs[g]? =some fn)(hb:fn.body=some (fn.body.getD .skip))(hd:C.df=false)(hB:B.dG=[])
 (G:mO P [.code (fn.body.getD .skip)] (tT P C fn B b) {tmps:=args++Array.replicate (fn.ntmps -args.size) undef,defers:=[]} w)
 (k:∀{σ:Ren}{st:St}{sv:SV}{a:Act}{w':World}{v:Value},dt B σ st a w'->DV σ sv v->(C.hM sv st=some b->R (.returned v) w')/\(C.lR sv st=some b->R (.panicked [pe v]) w')):Calls P g args w R:=by
 refine calls_of_wp hf hb (wp_mono (λb k cs=>G b k cs) λx a w' q=>?_);cases x with
 |panic ch=>obtain⟨σ,st,sv,v,r,kp,rfl,d⟩:=q;exact⟨r.dG.trans hB,(k r d).2 kp⟩
 |normal=>obtain⟨σ,st,sv,r,kr,q⟩:=q;rw[hd] at q;obtain⟨v,q1,q2⟩:=q;exact⟨r.dG.trans hB,v,q1,(k r q2).1 kr⟩
 |ret=>obtain⟨σ,st,sv,r,kr,q⟩:=q;rw[hd] at q;obtain⟨v,q1,q2⟩:=q;exact⟨r.dG.trans hB,v,q1,(k r q2).1 kr⟩
 |_=>exact q.elim
theorem aaR[QF]{P:Program}{X:ed}(OK:iF P X)(mx:P.follows .mixedOrders=true){pt:(β:Type)->FuncId->Option (cy β)}(PT:jo P pt){g:FuncId}{fn:Func}{avt:List VT}{rvt:VT}{lv jv:Nat->Option cH}{un:Nat->Bool}{w:Nat}{Sh:Fn (VT.fa avt) (Option (bI rvt.ks))}
 (hF:X.F.get g=some fn) (hb:fn.body=some (fn.body.getD .skip)) (hS:Sh=Px w X pt fn avt rvt lv jv un):dF P g avt rvt Sh:=by
 intro ls r e lo us hu m args' w0 K A;subst hS;have e1:=mR _ _ _ _ e;obtain⟨⟨svs,rest⟩,h1,e2⟩:=ay e1;obtain⟨_,q1,_⟩:=wD avt ls _ _ _ _ lo hu h1;have hl:args'.size=avt.length:=by rw[<-IH _ _ _ _ hu,<-Array.length_toList];exact A.1.symm
 refine zk (B:=⟨w0,λ_=>False,m,0,λ_=>none,avt.length+(fn.ntmps -avt.length),[]⟩) (OK.F _ _ hF).1 hb rfl rfl (sD OK mx (PT _) rfl rfl rfl _ _ _ _ _ e2 (λr hr=>by cases hr) (σ:=⟨λ_=>none,m⟩) ⟨by simp[hl],rfl,sJ (BK (q1 A) (dG:=[])),Mem.start K⟩) λR d=>⟨λkr=>?_,λkp=>by cases kp⟩;obtain⟨ls',f1,f3⟩:=Ji _ _ _ _ kr;obtain⟨pv,g1,g3⟩:=f3 [];rw[dQ,<-pw _ _ _ f1] at g1;obtain⟨z1,z2⟩:=g3 (Mem.Wj K R.mem) d;rw[<-pw _ _ _ f1] at z2;exact⟨_,rfl,R.mem.base.below,pv,g1,z2,z1⟩
end
theorem Mem.kn{B:Bs}{σ:Ren}{G A:Nat->SO->Prop}{F:Nat->Prop}{w:World}(M:Mem B σ G F w):Kn (kb σ A w) w:=λb i v h=>by
 unfold kb at h;split at h
 ·exact h
 ·exact M.lit b i v h
section
variable{β:Type}
def IP(avt:List VT)(rvt:VT)(Sh:Fn (VT.fa avt) (Option (bI rvt.ks))):cy β:=λst args K=>
 cond (pQ rvt)
  (rj st avt args λls=>ob (iu (VT.fa avt) Sh ls) λr=>ob (Hb rvt (gB rvt.ks r)) λq=>K false q.1 st)
  (rj {st with h:=(iV 1000 (SV.jN args) .nil st.h).1 } avt args λls=>ob (iu (VT.fa avt) Sh ls) λr=>ob (Hb rvt (gB rvt.ks r)) λq=>K false q.1 {st with h:=(iV 1000 (SV.jN args) .nil st.h).2 })
theorem aas{P:Program}{g:FuncId}{avt:List VT}{rvt:VT}{Sh:Fn (VT.fa avt) (Option (bI rvt.ks))}(F:dF P g avt rvt Sh):mm P g (IP (β:=β) avt rvt Sh):=by
 intro st args K b e;unfold IP at e;cases hs:pQ rvt with
 |true=>rw[hs] at e;obtain⟨ls,h1,h3⟩:=uB _ _ _ _ e;obtain⟨r,k1,h1⟩:=ay h1;obtain⟨⟨sv,rest⟩,k2,h1⟩:=ay h1;obtain⟨us,p1,p3⟩:=h3 [];rw[dQ] at p1;refine⟨false,sv,st,h1,rfl,aL _,λ{B σ Fr w} _ M args' d=>?_⟩;obtain⟨A,lo⟩:=p3 (M.seen λ_ _ h=>h) d;refine Calls.mono (F ls r k1 lo us p1 _ args' w M.kn A) λx w' ⟨v',e1,Bl,pv,g1,g2,g3⟩=>?_;obtain⟨_,q,_⟩:=IJ _ _ _ _ _ _ g2 g1 k2;exact⟨σ,v',e1,Ext.refl _,q (VL _ _ _ _ hs g1 _ _ _ g3),(M.same (.Kb Bl)).less (λ_ _ h=>h) λ_ h=>h.1⟩
 |false=>
  rw[hs] at e;obtain⟨m1,m2⟩:=wU 1000 (SV.jN args) .nil st.h (λid so q=>by rw[Tr.get_nil] at q;cases q) (λid so q=>⟨q,Tr.get_nil _⟩);generalize hA:(iV 1000 (SV.jN args) .nil st.h).1 =A at e m1 m2;generalize hB:(iV 1000 (SV.jN args) .nil st.h).2 =Bh at e m1 m2;obtain⟨ls,h1,h3⟩:=uB _ _ _ _ e;obtain⟨r,k1,h1⟩:=ay h1;obtain⟨⟨sv,rest⟩,k2,h1⟩:=ay h1;obtain⟨us,p1,p3⟩:=h3 [];rw[dQ] at p1;refine⟨false,sv,{st with h:=Bh},h1,rfl,aL _,λ{B σ Fr w} _ M args' d=>?_⟩
  obtain⟨E,M1⟩:=M.zA (A:=hG A) (G':=hG Bh) (λi s h=>(m1 i s h).1) (λi s h=>⟨s,(m2 i s h).1,λs' q=>by have:=(m2 i s h).2;rw[show A.get i=some s' from q] at this;cases this⟩) λE i s h=>(M.obj i s (m2 i s h).1).mono E λ_ _ _=>rfl;obtain⟨A',lo⟩:=p3 (M.seen λi s h=>(m1 i s h).1) d;have K:Kn (kb σ (hG A) w) w:=M.kn;refine Calls.mono (F ls r k1 lo us p1 _ args' w K A') λx w' ⟨v',e1,Bl,pv,g1,g2,g3⟩=>?_;obtain⟨_,q,_⟩:=IJ _ _ _ _ _ _ g2 g1 k2;have M2:=M1.lits (.Kb Bl) (m:=cM (kb σ (hG A) w) w w') K.mono (K.new Bl) λb i v h=>by
   unfold cM at h;split at h
   ·exact .inl h
   ·rename_i z;exact .inr (Nat.not_lt.1 z)
  exact⟨⟨σ.nm,cM (kb σ (hG A) w) w w'⟩,v',e1,E.trans ⟨λ_ _ h=>h,K.mono⟩,q g3,M2.less (λ_ _ h=>h) λ_ h=>h.1⟩
end
mutual
def fits(st:St):VT->SV->Bool
 | .i k,.i k' _=>decide (k=k')
 | .b,.b _=>true
 | .s,.s _=>true
 | .v,.v _=>true
 | .v,.nl=>true
 | .v,.ni=>true
 | .v,.gr _ _=>true
 | .v,.sl _ _ _ _=>true
 | .agg ts,.agg l=>uz st ts l
 | .aH ts,.aH l=>uz st ts l
 | .fn f ts,.fn f' l=>Nat.beq f f'&&uz st ts l
 | .em b,.em b'=>b==b'
 | .nf,.v .nilFunc=>true
 | .lp _,.lp _=>true
 | .lp ts,.ptr id off=>match st.h.get id with
  |some (.cells c _)=>uz st ts (c.drop off)
  |_=>false
 |_,_=>false
def uz(st:St):List VT->List SV->Bool
 |[],[]=>true
 |t::ts,x::xs=>fits st t x&&uz st ts xs
 |_,_=>false
end
def K2(pt:(β:Type)->FuncId->Option (cy β))(g:FuncId)(avt:List VT)(rvt:VT)(Sh:Fn (VT.fa avt) (Option (bI rvt.ks))):(β:Type)->FuncId->Option (cy β):=
 λβ f=>cond (Nat.beq f g) (some λst args K=>cond (uz st avt args) (IP avt rvt Sh st args K) (ob (pt β f) λe=>e st args K)) (pt β f)
theorem iB{P:Program}{pt:(β:Type)->FuncId->Option (cy β)}(PT:jo P pt){g:FuncId}{avt:List VT}{rvt:VT}{Sh:Fn (VT.fa avt) (Option (bI rvt.ks))}(F:dF P g avt rvt Sh):jo P (K2 pt g avt rvt Sh):=by
 intro β f e h;unfold K2 at h;cases hb:Nat.beq f g with
 |true=>
  rw[hb] at h;have hg:=bT hb;subst hg;cases h;intro st args K b k;cases hf:uz st avt args with
  |true=>simp[hf] at k;exact aas F st args K b k
  |false=>simp[hf] at k;obtain⟨e0,h0,k⟩:=ay k;exact PT β f e0 h0 st args K b k
 |false=>rw[hb] at h;exact PT β f e h
theorem Jf{P:Program}{g:FuncId}{Sh0:Fn (VT.fa [.v]) (Option (bI (VT.ks .v)))}(F:dF P g [.v] .v Sh0)(Fz:dF P g [.em false] .v (some (ae 0 [])))(Fn:dF P g [.em true] .v (some (ae 0 []))):
 dF P g [.v] .v (λx=>ak x λn=>cond (Nat.beq n 0) (some (ae 0 [])) (Sh0 x)):=by
 intro ls r e lo us hu;have hls:∃x,ls=[.v x]:=by
  cases ls with
  |nil=>cases e
  |cons l ls=>
   cases l with
   |v x=>
    cases ls with
    |nil=>simp
    |cons _ _=>cases hu
   |_=>cases e
 obtain⟨x,rfl⟩:=hls;have e:(ak x λn=>cond (Nat.beq n 0) (some (ae 0 [])) (Sh0 x))=some r:=e;unfold ak at e;split at e
 ·rename_i n p f cs ys hxx;replace e:cond (Nat.beq n 0) (some (ae 0 [])) (iu (VT.fa [.v]) Sh0 [.v (.func (.via n p f true) cs ys)])=some r:=e;cases hn:Nat.beq n 0 with
  |false=>rw[hn] at e;exact F _ r e lo us hu
  |true=>
   have hn:=bT hn;subst hn;cases e;cases hu;intro m args' w K A;obtain⟨y,l,h1,h2,h3⟩:=A.inv;have h3:=h3.ew;subst h3;have key:∃a c,y=.slice a 0 c:=by cases h2<;>exact⟨_,_,rfl⟩
   obtain⟨a,c,rfl⟩:=key;cases a with
   |none=>exact Fn [] (ae 0 []) rfl ff.nil [CT true] rfl m args' w K (by rw[h1];exact .cons .Ab .nil)
   |some a=>exact Fz [] (ae 0 []) rfl ff.nil [CT false] rfl m args' w K (by rw[h1];exact .cons .Ca .nil)
 ·cases e
end
section
variable{β:Type}
structure HT where
 n:Nat
 ti:cH
 an:Nat
 to:cH
theorem Aa{t:cH}{ls:List bo}{st:St}(e:hU t ls=some st):st.sx=t.sx:=by
 obtain⟨p,h1,e⟩:=ay e;obtain⟨q,h2,e⟩:=ay e
 grind
def tH(t:cH):VT:=match t.GZ with
 |(_,v)::_=>v
 |[]=>.b
def Ed:Nat->VT->Bool
 |0,_=>false
 |f+1,t=>match t with
  | .agg l=>l.all (Ed f)
  | .aH l=>l.all (Ed f)
  | .i _=>true
  | .b=>true
  | .s=>true
  | .v=>true
  |_=>false
def wL:Nat->SV->List Nat
 |0,_=>[]
 |f+1,x=>match x with
  | .agg l=>l.flatMap (wL f)
  | .aH l=>l.flatMap (wL f)
  | .gr id _=>[id]
  |_=>[]
def tJ(h:Tr SO):List Nat->Tr SO
 |[]=>.nil
 |i::l=>match h.get i with
  |some s=>(tJ h l).set i s
  |none=>tJ h l
def uo(h:Tr SO):List Nat->Tr SO
 |[]=>h
 |i::l=>(uo h l).del i
theorem BS{h:Tr SO}{i:Nat}{s:SO}:∀{l:List Nat},(tJ h l).get i=some s->h.get i=some s/\i∈l
 |[],q=>by have q:(Tr.nil:Tr SO).get i=some s:=q;rw[Tr.get_nil] at q;cases q
 |j::l,q=>by
  unfold tJ at q;split at q
  ·rename_i s' hs;rw[Tr.fA] at q;by_cases z:i=j
   ·grind
   ·rw[ar z] at q;have:=BS q;simp_all
  ·have:=BS q
   grind
theorem CO{h:Tr SO}{i:Nat}{s:SO}:∀{l:List Nat},(uo h l).get i=some s->h.get i=some s/\i∉l
 |[],q=>⟨q,by simp⟩
 |j::l,q=>by
  have q:((uo h l).del j).get i=some s:=q;rw[Tr.rk] at q;by_cases z:i=j
  ·grind
  ·rw[ar z] at q;have:=CO q
   grind
def uZ(h:Tr SO):Nat->SV->Option SV
 |0,_=>none
 |f+1,x=>match x with
  | .agg l=>ob (sL (uZ h f) l) λp=>some (.agg p)
  | .aH l=>ob (sL (uZ h f) l) λp=>some (.aH p)
  | .i k n=>some (.i k n)
  | .b q=>some (.b q)
  | .s q=>some (.s q)
  |x=>ob (gv h 1 x) λu=>some (.v u)
def rz(t:VT)(sv:SV)(st:St)(K:SV->St->Option β):Option β:=match t,sv with
 | .aH ts,.aH l=>cond (Ed 5 (.aH ts)&&!(wL 5 (.aH l)).isEmpty) (ob (uZ (tJ st.h (wL 5 (.aH l))) 5 (.aH l)) λp=>K p {st with h:=uo st.h (wL 5 (.aH l))}) (K (.aH l) st)
 | .v,.gr id E=>ob (uZ (tJ st.h [id]) 1 (.gr id E)) λp=>K p {st with h:=uo st.h [id]}
 |_,sv=>K sv st
theorem LL{σ:Ren}{m:Nat->Nat->Option Value}{h:Tr SO}{w:World}(S:Seen σ m h w):∀(f:Nat)(x x':SV)(v:Value),uZ h f x=some x'->DV σ x v->DV ⟨σ.nm,m⟩ x' v
 |0,x,p,v,e,_=>by cases e
 |f+1,x,p,v,e,d=>by
  unfold uZ at e;split at e
  ·obtain⟨q,h1,e⟩:=ay e;cases e;cases d with
   |agg hl ds=>have q:=uC (λx u v=>LL S f x u v) h1 ⟨hl,ds⟩;exact .agg q.1 q.2
  ·obtain⟨q,h1,e⟩:=ay e;cases e;cases d with
   |aH hl ds=>have q:=uC (λx u v=>LL S f x u v) h1 ⟨hl,ds⟩;exact .aH q.1 q.2
  ·cases e;cases d;exact .i _ _
  ·cases e;cases d;exact .b _
  ·cases e;cases d;exact .s _
  ·obtain⟨u,h1,e⟩:=ay e;cases e;obtain⟨a,b⟩:=nN S 1 _ _ _ h1 d;exact .v a b
theorem Ey{t:VT}{sv:SV}{st:St}{K:SV->St->Option β}{b:β}(e:rz t sv st K=some b):
 ∃sv2 st2,K sv2 st2=some b/\∀{B:Bs}{σ:Ren}{w:World}{v:Value},DV σ sv v->iP B σ st.h st.sx w->∃σ',DV σ' sv2 v/\iP B σ' st2.h st2.sx w:=by
 have key:∀{ids:List Nat}{f:Nat}{p:SV},uZ (tJ st.h ids) f sv=some p->∀{B:Bs}{σ:Ren}{w:World}{v:Value},DV σ sv v->iP B σ st.h st.sx w->∃σ',DV σ' p v/\iP B σ' (uo st.h ids) st.sx w:=λ{ids f p} h B σ w v d M=>
  ⟨_,LL (M.seen λi s h=>(BS h).1) _ _ _ _ h d,(M.zA (A:=hG (tJ st.h ids)) (G':=hG (uo st.h ids)) (λi s h=>(BS h).1) (λi s h=>⟨s,(CO h).1,λs' q=>(CO h).2 (BS q).2⟩) λE i s h=>(M.obj i s (CO h).1).mono E λ_ _ _=>rfl).2⟩
 unfold rz at e;split at e
 ·rename_i ts l;generalize wL 5 (.aH l)=ids at e;cases hc:Ed 5 (.aH ts)&&!ids.isEmpty with
  |false=>rw[hc] at e;exact⟨_,_,e,λd M=>⟨_,d,M⟩⟩
  |true=>rw[hc] at e;obtain⟨p,h1,f⟩:=ay e;exact⟨_,_,f,key h1⟩
 ·obtain⟨p,h1,f⟩:=ay e;exact⟨_,_,f,key h1⟩
 ·exact⟨_,_,e,λd M=>⟨_,d,M⟩⟩
def Cd(P:Program)(g:FuncId)(n an:Nat)(st so:St)(p:Bool):Prop:=∀{B:Bs}{σ:Ren}{w:World}(args':Array Value),args'.size=n->B.an=an->Ev σ st.tm ⟨args',[]⟩->iP B σ st.h st.sx w->
 Calls P g args' w λx w'=>∃σ' v,x=End p v/\(∀sv,so.tm.get 0=some sv->DV σ' sv v)/\iP B σ' so.h so.sx w'
def nE(P:Program)(g:FuncId)(T:HT)(Sh:Fn T.ti.ks (Option (bI T.to.ks))):Prop:=
 ∀ls r st so,iu T.ti.ks Sh ls=some r->hU T.ti ls=some st->hU T.to (gB T.to.ks r)=some so->Cd P g T.n T.an st so false
theorem Mem.nd{B:Bs}{σ:Ren}{G:Nat->SO->Prop}{F:Nat->Prop}{w:World}{n:Nat}{dG:List Deferred}(M:Mem B σ G F w):Mem {B with n:=n,dG:=dG} σ G F w:=⟨M.obj,M.inj,M.fresh,M.lit,M.free,M.base,M.owned,M.lW,M.jY,M.na⟩
theorem xi{B:Bs}{to:cH}{sv:SV}{st so:St}{K:List bo->Option β}{b:β}{L:List bo}(e:kJ B.an to ⟨Tr.nil.set 0 sv,st.h,st.sx⟩ K=some b)(hL:∀ls,K ls=some b->L=ls)(hso:hU to L=some so){σ:Ren}{w:World}{v:Value}(d:DV σ sv v)(M:iP B σ st.h st.sx w):
 ∃σ',(∀sv,so.tm.get 0=some sv->DV σ' sv v)/\iP B σ' so.h so.sx w:=by
 obtain⟨ls,q1,st',q2,_,q4⟩:=uu e;rw[hL _ q1,q2] at hso;cases hso;obtain⟨σ',z1,z2⟩:=q4 (σ:=σ) (a:=⟨#[v],[]⟩) (w:=w) (λt x h=>by
  rw[Tr.fA] at h;split at h
  ·rename_i q;subst q;cases h;exact d
  ·rw[Tr.get_nil] at h;cases h) M
 exact⟨σ',λx h=>z1 0 x h,z2⟩
noncomputable def Pw[QF](w:Nat)(X:ed)(pt:(β:Type)->FuncId->Option (cy β))(fn:Func)(T:HT)(lv jv:Nat->Option cH)(un:Nat->Bool):Fn T.ti.ks (Option (bI T.to.ks)):=
 lL T.ti.ks λls=>ob (hU T.ti ls) λst=>dn {X:=X,pt:=pt _,n:=T.n+(fn.ntmps -T.n),rs:=fn.results.toList,lv:=lv,jv:=jv,un:=un,df:=false,fuel:=w,an:=T.an,hM:=λsv st=>rz (tH T.to) sv st λsv st=>kJ T.an T.to ⟨Tr.nil.set 0 sv,st.h,st.sx⟩ (dec T.to.ks),lR:=λ_ _=>bF 52} 100000 [] [.code (fn.body.getD .skip)] st
theorem Je[QF]{P:Program}{X:ed}(OK:iF P X)(mx:P.follows .mixedOrders=true){pt:(β:Type)->FuncId->Option (cy β)}(PT:jo P pt){g:FuncId}{fn:Func}{T:HT}{lv jv:Nat->Option cH}{un:Nat->Bool}{w:Nat}{Sh:Fn T.ti.ks (Option (bI T.to.ks))}
 (hF:X.F.get g=some fn) (hb:fn.body=some (fn.body.getD .skip)) (hS:Sh=Pw w X pt fn T lv jv un):nE P g T Sh:=by
 intro ls r st so e hst hso B σ w0 args' hn ha ev M;subst hS;have e1:=mR _ _ _ _ e;obtain⟨st1,g1,e2⟩:=ay e1;rw[hst] at g1;cases g1;refine zk (B:={B with n:=T.n+(fn.ntmps -T.n),dG:=[]}) (OK.F _ _ hF).1 hb rfl rfl (sD OK mx (PT _) rfl rfl ha _ _ _ _ _ e2 (λr hr=>by cases hr) ⟨by simp[hn],rfl,sJ ev,M.nd⟩) λR d=>⟨λkr=>?_,λkp=>by cases kp⟩
 obtain⟨sv2,st2,k1,k2⟩:=Ey (t:=tH T.to) (K:=λsv st=>kJ T.an T.to ⟨Tr.nil.set 0 sv,st.h,st.sx⟩ (dec T.to.ks)) kr;obtain⟨σ2,d2,M2⟩:=k2 d R.mem.nd;obtain⟨σ3,z1,z2⟩:=xi (B:=B) (by rw[ha];exact k1) (λls q=>pw _ _ _ q) hso d2 M2;exact⟨σ3,_,rfl,z1,z2⟩
mutual
def oR(f:Nat->Nat):SV->SV
 | .ptr id off=>.ptr (f id) off
 | .sl id off n c=>.sl (f id) off n c
 | .gr id E=>.gr (f id) E
 | .agg l=>.agg (ta f l)
 | .aH l=>.aH (ta f l)
 | .fn g l=>.fn g (ta f l)
 | .fC t x=>.fC t (oR f x)
 | .em b=>.em b
 | .ni=>.ni
 | .mp id=>.mp (f id)
 | .i k n=>.i k n
 | .b x=>.b x
 | .s x=>.s x
 | .v x=>.v x
 | .nl=>.nl
 | .lp c=>.lp c
def ta(f:Nat->Nat):List SV->List SV
 |[]=>[]
 |x::xs=>oR f x::ta f xs
end
def El(f:Nat->Nat):SO->SO
 | .cells c t=>.cells (ta f c) t
 | .arr c t=>.arr c t
 | .grow E c t=>.grow E c t
 | .mp es=>.mp (es.map λe=>(e.1,oR f e.2))
theorem Vi{f:Nat->Nat}:∀l:List SV,ta f l=l.map (oR f)
 |[]=>rfl
 |x::l=>by unfold ta;rw[Vi l];rfl
theorem Em{σ':Ren}{f:Nat->Nat}{l:List SV}{ys:List Value}(hl:l.length=ys.length)(ih:∀(i:Nat) x y,l[i]? =some x->ys[i]? =some y->DV σ' (oR f x) y):eQ σ' (ta f l) ys:=by rw[Vi];refine⟨by simp[hl],λi x y a b=>?_⟩;rw[List.getElem?_map] at a;obtain⟨x',a1,rfl⟩:=Option.map_eq_some_iff.1 a;exact ih i x' y a1 b
theorem Lv{σ σ':Ren}{f:Nat->Nat}(hl:σ'.lit=σ.lit)(e:∀k x,σ.nm k=some x->σ'.nm (f k)=some x){x:SV}{v:Value}(d:DV σ x v):DV σ' (oR f x) v:=by
 induction d with
 |i=>exact .i _ _
 |b=>exact .b _
 |s=>exact .s _
 |v h h1=>exact .v (hl▸h) h1
 |nl=>exact .nl
 |agg kl _ ih=>have q:=Em kl ih;exact .agg q.1 q.2
 |aH kl _ ih=>have q:=Em kl ih;exact .aH q.1 q.2
 |ptr h=>exact .ptr (e _ _ h)
 |lp h=>exact .lp (hl▸h)
 |sl h hn=>exact .sl (e _ _ h) hn
 |jx h=>exact .jx (e _ _ h)
 |gr h hc hn=>exact .gr (e _ _ h) hc hn
 |fn kl _ ih=>have q:=Em kl ih;exact .fn q.1 q.2
 |fC _ ih=>exact .fC ih
 |em h=>exact .em (hl▸h)
 |ni=>exact .ni
 |mp h=>exact .mp (e _ _ h)
theorem aht{σ σ':Ren}{f:Nat->Nat}(hl:σ'.lit=σ.lit)(e:∀k x,σ.nm k=some x->σ'.nm (f k)=some x){w:World}{k:Nat}{so:SO}(d:DO σ w k so):DO σ' w (f k) (El f so):=by
 cases so with
 |cells c t=>obtain⟨o,n,vs,a,b,c⟩:=d;exact⟨o,n,vs,e _ _ a,b,Em c.1 λi x y h1 h2=>Lv hl e (c.2 i x y h1 h2)⟩
 |arr c t=>obtain⟨o,n,vs,a,b,c⟩:=d;exact⟨o,n,vs,e _ _ a,b,hl▸c⟩
 |grow E c t=>
  obtain⟨a,p,g⟩:=d;refine⟨a,p,?_⟩;rcases g with⟨g,h⟩|⟨o,n,cs,g,h⟩
  ·exact .inl ⟨e _ _ g,h⟩
  ·exact .inr ⟨o,n,cs,e _ _ g,hl▸h⟩
 |mp es=>obtain⟨o,n,es',ck,a,b,c⟩:=d;refine⟨o,n,es',ck,e _ _ a,b,by simp[c.1],λi x y h1 h2=>?_⟩;rw[List.getElem?_map] at h1;obtain⟨x',h3,rfl⟩:=Option.map_eq_some_iff.1 h1;have q:=c.2 i x' y h3 h2;exact⟨q.1,Lv hl e q.2⟩
def mD(an sx:Nat)(m:Mp)(k:Nat):Nat:=cond (Nat.blt k an) (match dU k m with
 |some (some a)=>a
 |_=>0) (sx+k)
def rm(h:Tr SO):Mp->Bool
 |[]=>true
 |(_,some a)::m=>(match h.get a with|some _=>rm h m|none=>false)
 |(_,none)::m=>rm h m
def sq(m:Mp):Nat->Bool
 |0=>true
 |n+1=>(match dU n m with|some (some _)=>sq m n|_=>false)
def rf:Mp->Tr SO->Tr SO
 |[],h=>h
 |(_,some a)::m,h=>rf m (h.del a)
 |(_,none)::m,h=>rf m h
def qy(f:Nat->Nat)(s:Tr SO):List (Nat×OT)->Tr SO->Tr SO
 |[],h=>h
 |(k,_)::l,h=>match s.get k with
  |some so=>(qy f s l h).set (f k) (El f so)
  |none=>qy f s l h
def Qi(T:HT)(Sh:Fn T.ti.ks (Option (bI T.to.ks))):cy β:=λst args K=>
 cond (Nat.beq args.length T.n) (ur [] T.ti ⟨nY args 0 .nil,st.h,st.sx⟩ λls m=>
  cond (rm st.h m&&sq m T.an) (ob (iu T.ti.ks Sh ls) λr=>ob (hU T.to (gB T.to.ks r)) λso=>ob (so.tm.get 0) λsv=>
   K false (oR (mD T.an st.sx m) sv) ⟨st.tm,qy (mD T.an st.sx m) so.h T.to.pF (rf m st.h),st.sx+T.to.sx⟩) none) none
theorem uL{h:Tr SO}:∀{m:Mp},rm h m=true->∀k a,dU k m=some (some a)->∃so,h.get a=some so
 |[],_,k,a,e=>by cases e
 |(j,x)::m,hl,k,a,e=>by
  rw[qo] at e;cases x with
  |none=>
   by_cases q:j=k
   ·grind
   ·rw[ar q] at e;exact uL (m:=m) hl k a e
  |some y=>
   unfold rm at hl;split at hl
   ·rename_i so hso;by_cases q:j=k
    ·grind
    ·rw[ar q] at e;exact uL hl k a e
   grind
theorem wi{m:Mp}:∀{n:Nat},sq m n=true->∀k,k<n->∃a,dU k m=some (some a)
 |0,_,k,h=>by omega
 |n+1,e,k,h=>by
  unfold sq at e;split at e
  ·rename_i a ha;by_cases q:k=n
   ·grind
   ·exact wi e k (by omega)
  grind
def Dd(a:Nat):Mp->Prop
 |[]=>False
 |(_,x)::m=>x=some a\/Dd a m
theorem IC:∀{m:Mp}{h:Tr SO}{id:Nat}{so:SO},(rf m h).get id=some so->h.get id=some so/\¬Dd id m
 |[],h,id,so,e=>⟨e,λh=>h⟩
 |(j,none)::m,h,id,so,e=>by
  obtain⟨a,b⟩:=IC (m:=m) e;exact⟨a,λq=>by
   rcases q with q|q
   ·grind
   ·exact b q⟩
 |(j,some x)::m,h,id,so,e=>by
  obtain⟨a,b⟩:=IC (m:=m) e;rw[Tr.rk] at a;by_cases q:id=x
  ·grind
  ·rw[ar q] at a;exact⟨a,λw=>by
    rcases w with w|w
    ·grind
    ·exact b w⟩
theorem Re:∀{m:Mp}{k a:Nat},dU k m=some (some a)->Dd a m
 |[],k,a,e=>by cases e
 |(j,x)::m,k,a,e=>by
  rw[qo] at e;by_cases q:j=k
  ·rw[az q] at e;cases e;exact .inl rfl
  ·rw[ar q] at e;exact .inr (Re e)
theorem Lh{f:Nat->Nat}{s:Tr SO}:∀{l:List (Nat×OT)}{h:Tr SO}{id:Nat}{so:SO},(qy f s l h).get id=some so->h.get id=some so\/∃k x,id=f k/\s.get k=some x/\so=El f x
 |[],h,id,so,e=>.inl e
 |(k,t)::l,h,id,so,e=>by
  unfold qy at e;split at e
  ·rename_i x hx;rw[Tr.fA] at e;by_cases q:id=f k
   ·grind
   ·rw[ar q] at e;exact Lh e
  ·exact Lh e
theorem zn{P:Program}{g:FuncId}{an n:Nat}{pF:List (Nat×OT)}{st:St}{args:List SV}{m:Mp}{stT so:St}{sv:SV}{pb:Bool}(hlen:args.length=n)(hinj:kV m)(hsx:∀id x,dU id m=some x->id<stT.sx)
 (h4:∀{σ:Ren}{a:Act}{w:World},Ev σ (nY args 0 .nil) a->(∀id so,st.h.get id=some so->DO σ w id so)->Ev (σm σ m) stT.tm a/\∀id so,stT.h.get id=some so->DO (σm σ m) w id so/\(dU id m=some none\/∃a so',dU id m=some (some a)/\st.h.get a=some so'))
 (L:∀k a,dU k m=some (some a)->∃so,st.h.get a=some so) (A:∀k,k<an->∃a,dU k m=some (some a)) (k3:so.tm.get 0=some sv) (Fg:Cd P g n an stT so pb)
 {B:Bs} {σ:Ren} {F:Nat->Prop} {w:World} (hF:∀id,st.sx<=id->id<st.sx+so.sx->F id) (M:Mem B σ (hG st.h) F w) (args':Array Value) (d:eQ σ args args'.toList):
 Calls P g args' w λx w'=>∃σ' v,x=End pb v/\Ext σ σ'/\DV σ' (oR (mD an st.sx m) sv) v/\Mem B σ' (hG (qy (mD an st.sx m) so.h pF (rf m st.h))) (lN F st.sx (st.sx+so.sx)) w':=by
 let G':Nat->SO->Prop:=λid x=>st.h.get id=some x/\Dd id m
 have sG:∀id x,G' id x->hG st.h id x:=λ_ _ h=>h.1;obtain⟨ev,ob⟩:=h4 (σ:=σ) (a:=⟨args',[]⟩) (w:=w) (BK d) M.obj;have MT:iP ⟨w,Own σ G',σ.lit,an,(σm σ m).nm,0,[]⟩ (σm σ m) stT.h stT.sx w:=(M.C6 sG).map hinj hsx (λid x h=>⟨(ob id x h).1,(ob id x h).2.imp_right λ⟨a,s,h1,h2⟩=>⟨a,s,h1,h2,Re h1⟩⟩) (eH.refl _ _) (λb q=>.inl q) (λ_ _ _ q=>.inl q) (λ_ _ _ q=>q) λ_ _ _ q=>q;refine Calls.mono (Fg args' (by rw[<-hlen,d.1,Array.length_toList]) rfl ev MT) λx w' ⟨σ2,v,e1,dv,M2⟩=>?_;generalize hf:mD an st.sx m=f
 let σn:Ren:=⟨λid=>if st.sx<=id/\id<st.sx+so.sx then σ2.nm (id -st.sx) else σ.nm id,σ2.lit⟩
 have E:Ext σ σn:=⟨λid x e=>by show(if _ then _ else _)=_;rw[ar λq=>by rw[M.fresh id (hF id q.1 q.2)] at e;cases e];exact e,M2.na⟩;have n1:∀k x,σ2.nm k=some x->σn.nm (f k)=some x:=λk x e=>by
  rcases iE k an with hk|hk
  ·obtain⟨a,ha⟩:=A k hk;obtain⟨s0,hs0⟩:=L k a ha;have fk:f k=a:=by
    rw[<-hf];unfold mD;rw[show Nat.blt k an=true from Cb hk,aE,ha]
   have hy:∃y,σ.nm a=some y:=(M.obj a s0 hs0).nm.elim (λq=>⟨_,q⟩) λ⟨_,_,q,_⟩=>⟨_,q⟩;obtain⟨y,hy⟩:=hy;have:=M2.jY k hk y ((σm_some ha).trans hy);rw[e] at this;cases this;rw[fk];exact E.nm _ _ hy
  ·have lt:k<so.sx:=Nat.not_le.1 λq=>by rw[M2.fresh k q] at e;cases e
   have fk:f k=st.sx+k:=by rw[<-hf];unfold mD;rw[show Nat.blt k an=false from Bool.eq_false_iff.2 λq=>by have:=eX q;omega];rfl
   rw[fk];show(if _ then _ else _)=_;rw[az ⟨by omega,by omega⟩,show st.sx+k -st.sx=k by omega];exact e
 have back:∀{k y o n},so.h.get k=some y->σn.nm (f k)=some (some o,n)->σ2.nm k=some (some o,n):=λ{k y o n} h1 h2=>by rcases(M2.obj k y h1).nm with q|⟨_,_,q,_⟩<;>rw[n1 _ _ q] at h2<;>cases h2;exact q
 have M3:Mem (Ay w (Own σ G') σ.lit) σn (λid x=>∃k y,id=f k/\so.h.get k=some y/\x=El f y) (lN F st.sx (st.sx+so.sx)) w':=by
  refine⟨λid x ⟨k,y,h1,h2,h3⟩=>?_,λi j s s' o o' n n' ⟨k,y,h1,h2,_⟩ ⟨k',y',h1',h2',_⟩ p p' q=>?_,λid h=>?_,M2.lit,λb i v q ⟨id,x,o,n,⟨k,y,h1,h2,_⟩,p,r⟩=>?_,M2.base,λb ⟨id,x,o,n,⟨k,y,h1,h2,_⟩,p,r⟩=>?_,M2.lW,λk hk=>(Nat.not_lt_zero k hk).elim,M2.na⟩
  ·rw[h1,h3];exact aht (σ:=σ2) (σ':=σn) rfl n1 (M2.obj k y h2)
  ·rw[h1] at p⊢;rw[h1'] at p'⊢;rw[M2.inj _ _ _ _ _ _ _ _ h2 h2' (back h2 p) (back h2' p') q]
  ·show(if _ then _ else _)=_;rw[ar h.2];exact M.fresh id h.1
  ·rw[h1] at p;exact M2.free b i v q ⟨k,y,o,n,h2,back h2 p,r⟩
  ·rw[h1] at p;exact M2.owned b ⟨k,y,o,n,h2,back h2 p,r⟩
 refine⟨σn,v,e1,E,Lv (σ:=σ2) (σ':=σn) rfl n1 (dv sv k3),(M.frame sG E M3).less (λid x h=>?_) λ_ h=>h⟩;rcases Lh h with q|q
 ·have⟨q1,q2⟩:=IC q;exact .inr ⟨q1,λs' z=>q2 z.2⟩
 ·exact .inl q
theorem aar{P:Program}{g:FuncId}{T:HT}{Sh:Fn T.ti.ks (Option (bI T.to.ks))}(F:nE P g T Sh):mm P g (Qi (β:=β) T Sh):=by intro st args K b e;obtain⟨hlen,e⟩:=bc e;obtain⟨ls,m,h1,_,hinj,hsx,stT,h2,h3,h4⟩:=CZ (λi j a q=>by cases q) e;obtain⟨hl,h1⟩:=bc h1;rw[bq] at hl;obtain⟨r,k1,h1⟩:=ay h1;obtain⟨so,k2,h1⟩:=ay h1;obtain⟨sv,k3,h1⟩:=ay h1;have sx:=Aa k2;rw[<-sx] at h1;exact⟨false,_,_,h1,rfl,Nat.le_add_right _ _,λhF M args' d=>zn (bT hlen) hinj (by rw[h3];exact hsx) h4 (uL hl.1) (wi hl.2) k3 (F ls r stT so k1 h2 k2) hF M args' d⟩
def QH(T:HT)(st:St)(args:List SV):Bool:=cond (Nat.beq args.length T.n) ((ur (β:=Unit) [] T.ti ⟨nY args 0 .nil,st.h,st.sx⟩ λ_ m=>cond (rm st.h m&&sq m T.an) (some ()) none).isSome) false
def K3(pt:(β:Type)->FuncId->Option (cy β))(g:FuncId)(T:HT)(Sh:Fn T.ti.ks (Option (bI T.to.ks))):(β:Type)->FuncId->Option (cy β):=
 λβ f=>cond (Nat.beq f g) (some λst args K=>cond (QH T st args) (Qi T Sh st args K) (ob (pt β f) λe=>e st args K)) (pt β f)
theorem nT{P:Program}{pt:(β:Type)->FuncId->Option (cy β)}(PT:jo P pt){g:FuncId}{T:HT}{Sh:Fn T.ti.ks (Option (bI T.to.ks))}(F:nE P g T Sh):jo P (K3 pt g T Sh):=by
 intro β f e h;unfold K3 at h;cases hb:Nat.beq f g with
 |true=>
  rw[hb] at h;have hg:=bT hb;subst hg;cases h;intro st args K b k;cases hf:QH T st args with
  |true=>simp[hf] at k;exact aar F st args K b k
  |false=>simp[hf] at k;obtain⟨e0,h0,k⟩:=ay k;exact PT β f e0 h0 st args K b k
 |false=>rw[hb] at h;exact PT β f e h
def lQ{α:Type}(z:α)(F:α->α)(n:Nat):α:=Nat.rec z (λ_ r=>F r) n
theorem aaM{P:Program}{g:FuncId}{T:HT}:nE P g T (iN T.ti.ks):=λ_ _ _ _ e=>(yT _ _ _ e).elim
theorem aaN{P:Program}{g:FuncId}{avt:List VT}{rvt:VT}:dF P g avt rvt (iN (VT.fa avt)):=λ_ _ e=>(yT _ _ _ e).elim
theorem Jd{P:Program}{g:FuncId}{T:HT}{F:Fn T.ti.ks (Option (bI T.to.ks))->Fn T.ti.ks (Option (bI T.to.ks))}(h:∀r,nE P g T r->nE P g T (F r))(n:Nat):nE P g T (lQ (iN T.ti.ks) F n):=by
 induction n with
 |zero=>exact aaM
 |succ n ih=>exact h _ ih
theorem zw{P:Program}{g:FuncId}{avt:List VT}{rvt:VT}{F:Fn (VT.fa avt) (Option (bI rvt.ks))->Fn (VT.fa avt) (Option (bI rvt.ks))}(h:∀r,dF P g avt rvt r->dF P g avt rvt (F r))(n:Nat):dF P g avt rvt (lQ (iN (VT.fa avt)) F n):=by
 induction n with
 |zero=>exact aaN
 |succ n ih=>exact h _ ih
end
section
variable{β:Type}
structure PT where
 n:Nat
 ti:cH
 an:Nat
 to:cH
 tp:cH
def PT.out(T:PT)(p:Bool):cH:=cond p T.tp T.to
def sa(P:Program)(g:FuncId)(T:PT)(Sh:Fn T.ti.ks (Option (bI T.to.ks⊕bI T.tp.ks))):Prop:=
 ∀ls r st,iu T.ti.ks Sh ls=some r->hU T.ti ls=some st->∀(p:Bool)(l:List bo) so,(match r with| .inl a=>p=false/\l=gB T.to.ks a| .inr a=>p=true/\l=gB T.tp.ks a)->hU (T.out p) l=some so->Cd P g T.n T.an st so p
noncomputable def Py[QF](w:Nat)(X:ed)(pt:(β:Type)->FuncId->Option (cy β))(fn:Func)(T:PT)(lv jv:Nat->Option cH)(un:Nat->Bool):Fn T.ti.ks (Option (bI T.to.ks⊕bI T.tp.ks)):=
 lL T.ti.ks λls=>ob (hU T.ti ls) λst=>dn {X:=X,pt:=pt _,n:=T.n+(fn.ntmps -T.n),rs:=fn.results.toList,lv:=lv,jv:=jv,un:=un,df:=false,fuel:=w,an:=T.an,hM:=λsv st=>rz (tH T.to) sv st λsv st=>kJ T.an T.to ⟨Tr.nil.set 0 sv,st.h,st.sx⟩ λls=>ob (dec T.to.ks ls) λa=>some (.inl a),lR:=λsv st=>kJ T.an T.tp ⟨Tr.nil.set 0 sv,st.h,st.sx⟩ λls=>ob (dec T.tp.ks ls) λa=>some (.inr a)} 100000 [] [.code (fn.body.getD .skip)] st
theorem QL[QF]{P:Program}{X:ed}(OK:iF P X)(mx:P.follows .mixedOrders=true){pt:(β:Type)->FuncId->Option (cy β)}(PTO:jo P pt){g:FuncId}{fn:Func}{T:PT}{lv jv:Nat->Option cH}{un:Nat->Bool}{w:Nat}{Sh:Fn T.ti.ks (Option (bI T.to.ks⊕bI T.tp.ks))}
 (hF:X.F.get g=some fn) (hb:fn.body=some (fn.body.getD .skip)) (hS:Sh=Py w X pt fn T lv jv un):sa P g T Sh:=by
 intro ls r st e hst p l so hr hso B σ w0 args' hn ha ev M;subst hS;have e1:=mR _ _ _ _ e;obtain⟨st1,g1,e2⟩:=ay e1;rw[hst] at g1;cases g1;refine zk (B:={B with n:=T.n+(fn.ntmps -T.n),dG:=[]}) (OK.F _ _ hF).1 hb rfl rfl (sD OK mx (PTO _) rfl rfl ha _ _ _ _ _ e2 (λr hr=>by cases hr) ⟨by simp[hn],rfl,sJ ev,M.nd⟩) λR d=>⟨λkr=>?_,λkp=>?_⟩
 ·obtain⟨sv2,st2,k1,k2⟩:=Ey (β:=bI T.to.ks⊕bI T.tp.ks) (t:=tH T.to) (K:=λsv st=>kJ T.an T.to ⟨Tr.nil.set 0 sv,st.h,st.sx⟩ λls=>ob (dec T.to.ks ls) λa=>some (.inl a)) kr;obtain⟨σ2,d2,M2⟩:=k2 d R.mem.nd;replace k1:kJ T.an T.to ⟨Tr.nil.set 0 sv2,st2.h,st2.sx⟩ (λls=>ob (dec T.to.ks ls) λa=>some (Sum.inl a))=some r:=k1;cases r with
  |inl a=>obtain⟨rfl,rfl⟩:=hr;obtain⟨σ3,z1,z2⟩:=xi (B:=B) (by rw[ha];exact k1) (λls q=>by obtain⟨a',q1,q2⟩:=ay q;cases q2;exact pw _ _ _ q1) hso d2 M2;exact⟨σ3,_,rfl,z1,z2⟩
  |inr a=>obtain⟨ls',q1,_⟩:=uu (B:=B) (by rw[ha];exact k1);obtain⟨a',_,q2⟩:=ay q1;cases q2
 ·replace kp:kJ T.an T.tp ⟨Tr.nil.set 0 _,_,_⟩ (λls=>ob (dec T.tp.ks ls) λa=>some (Sum.inr a))=some r:=kp;cases r with
  |inl a=>obtain⟨ls',q1,_⟩:=uu (B:=B) (by rw[ha];exact kp);obtain⟨a',_,q2⟩:=ay q1;cases q2
  |inr a=>obtain⟨rfl,rfl⟩:=hr;obtain⟨σ3,z1,z2⟩:=xi (B:=B) (by rw[ha];exact kp) (λls q=>by obtain⟨a',q1,q2⟩:=ay q;cases q2;exact pw _ _ _ q1) hso d R.mem.nd;exact⟨σ3,_,rfl,z1,z2⟩
def dr{α γ δ:Type}(r:α⊕γ)(f:α->δ)(g:γ->δ):δ:=match r with
 | .inl a=>f a
 | .inr a=>g a
def Qj(T:PT)(Sh:Fn T.ti.ks (Option (bI T.to.ks⊕bI T.tp.ks))):cy β:=λst args K=>
 cond (Nat.beq args.length T.n) (ur [] T.ti ⟨nY args 0 .nil,st.h,st.sx⟩ λls m=>
  cond (rm st.h m&&sq m T.an) (ob (iu T.ti.ks Sh ls) λr=>dr r
   (λa=>ob (hU T.to (gB T.to.ks a)) λso=>ob (so.tm.get 0) λsv=>K false (oR (mD T.an st.sx m) sv) ⟨st.tm,qy (mD T.an st.sx m) so.h T.to.pF (rf m st.h),st.sx+T.to.sx⟩)
   (λa=>ob (hU T.tp (gB T.tp.ks a)) λso=>ob (so.tm.get 0) λsv=>K true (oR (mD T.an st.sx m) sv) ⟨st.tm,qy (mD T.an st.sx m) so.h T.tp.pF (rf m st.h),st.sx+T.tp.sx⟩)) none) none
theorem aat{P:Program}{g:FuncId}{T:PT}{Sh:Fn T.ti.ks (Option (bI T.to.ks⊕bI T.tp.ks))}(F:sa P g T Sh):mm P g (Qj (β:=β) T Sh):=by
 intro st args K b e;obtain⟨hlen,e⟩:=bc e;obtain⟨ls,m,h1,_,hinj,hsx,stT,h2,h3,h4⟩:=CZ (λi j a q=>by cases q) e;obtain⟨hl,h1⟩:=bc h1;rw[bq] at hl;obtain⟨r,k1,h1⟩:=ay h1;cases r with
 |inl a=>obtain⟨so,k2,h1⟩:=ay h1;obtain⟨sv,k3,h1⟩:=ay h1;have sx:=Aa k2;rw[<-sx] at h1;exact⟨false,_,_,h1,rfl,Nat.le_add_right _ _,λhF M args' d=>zn (bT hlen) hinj (by rw[h3];exact hsx) h4 (uL hl.1) (wi hl.2) k3 (F ls _ stT k1 h2 false _ so ⟨rfl,rfl⟩ k2) hF M args' d⟩
 |inr a=>obtain⟨so,k2,h1⟩:=ay h1;obtain⟨sv,k3,h1⟩:=ay h1;have sx:=Aa k2;rw[<-sx] at h1;exact⟨true,_,_,h1,rfl,Nat.le_add_right _ _,λhF M args' d=>zn (bT hlen) hinj (by rw[h3];exact hsx) h4 (uL hl.1) (wi hl.2) k3 (F ls _ stT k1 h2 true _ so ⟨rfl,rfl⟩ k2) hF M args' d⟩
def C4(T:PT)(st:St)(args:List SV):Bool:=cond (Nat.beq args.length T.n) ((ur (β:=Unit) [] T.ti ⟨nY args 0 .nil,st.h,st.sx⟩ λ_ m=>cond (rm st.h m&&sq m T.an) (some ()) none).isSome) false
def K4(pt:(β:Type)->FuncId->Option (cy β))(g:FuncId)(T:PT)(Sh:Fn T.ti.ks (Option (bI T.to.ks⊕bI T.tp.ks))):(β:Type)->FuncId->Option (cy β):=
 λβ f=>cond (Nat.beq f g) (some λst args K=>cond (C4 T st args) (Qj T Sh st args K) (ob (pt β f) λe=>e st args K)) (pt β f)
theorem pK{P:Program}{pt:(β:Type)->FuncId->Option (cy β)}(PTO:jo P pt){g:FuncId}{T:PT}{Sh:Fn T.ti.ks (Option (bI T.to.ks⊕bI T.tp.ks))}(F:sa P g T Sh):jo P (K4 pt g T Sh):=by
 intro β f e h;unfold K4 at h;cases hb:Nat.beq f g with
 |true=>
  rw[hb] at h;have hg:=bT hb;subst hg;cases h;intro st args K b k;cases hf:C4 T st args with
  |true=>simp[hf] at k;exact aat F st args K b k
  |false=>simp[hf] at k;obtain⟨e0,h0,k⟩:=ay k;exact PTO β f e0 h0 st args K b k
 |false=>rw[hb] at h;exact PTO β f e h
theorem aaP{P:Program}{g:FuncId}{T:PT}:sa P g T (iN T.ti.ks):=λ_ _ _ e=>(yT _ _ _ e).elim
theorem aaO{P:Program}{g:FuncId}{T:PT}{F:Fn T.ti.ks (Option (bI T.to.ks⊕bI T.tp.ks))->Fn T.ti.ks (Option (bI T.to.ks⊕bI T.tp.ks))}(h:∀r,sa P g T r->sa P g T (F r))(n:Nat):sa P g T (lQ (iN T.ti.ks) F n):=by
 induction n with
 |zero=>exact aaP
 |succ n ih=>exact h _ ih
end
section
variable{β:Type}
def Rw:List Operand->Bool
 |[]=>true
 |_=>false
def Lm(o:Oper)(n:Nat)(K:Nat->Option β):Option β:=match o.op with
 | .call c=>match c.callee with
  | .builtin .recover=>match o.guard with
   |none=>cond (Rw c.args.toList) (match o.dst with|some d=>cond (Nat.blt d n) (K d) none|none=>none) none
   |some _=>none
  |_=>none
 |_=>none
theorem ahc{o:Oper}{n:Nat}{K:Nat->Option β}{b:β}(e:Lm o n K=some b):∃d,K d=some b/\o.dst=some d/\Nat.blt d n=true/\o.guard=none/\∃c,o.op=.call c/\c.callee=.builtin .recover/\c.args.toList=[]:=by
 unfold Lm at e;split at e
 ·rename_i c hop;split at e
  ·rename_i hc;split at e
   ·rename_i hg;obtain⟨e1,e⟩:=bc e;split at e
    ·rename_i d hd;obtain⟨e2,e⟩:=bc e;refine⟨d,e,hd,e2,hg,c,hop,hc,?_⟩;generalize c.args.toList=l at e1;cases l with
     |nil=>rfl
     |cons _ _=>cases e1
    grind
   grind
  grind
 grind
def ID(o:Oper)(K:Nat->Option β):Option β:=match o.op with
 | .defer c=>match c.callee with
  | .value (.tmp t)=>match o.guard,o.dst with
   |none,none=>cond (Rw c.args.toList) (K t) none
   |_,_=>none
  |_=>none
 |_=>none
theorem aaa{o:Oper}{K:Nat->Option β}{b:β}(e:ID o K=some b):∃t,K t=some b/\o.dst=none/\o.guard=none/\∃c,o.op=.defer c/\c.callee=.value (.tmp t)/\c.args.toList=[]:=by
 unfold ID at e;split at e
 ·rename_i c hop;split at e
  ·rename_i t hc;split at e
   ·rename_i hg hd;obtain⟨e1,e⟩:=bc e;refine⟨t,e,hd,hg,c,hop,hc,?_⟩;generalize c.args.toList=l at e1;cases l with
    |nil=>rfl
    |cons _ _=>cases e1
   grind
  grind
 grind
def Dx(q:Option SV)(r:Option β):Option β:=match q with
 |none=>r
 |some _=>bF 60
theorem J6{q:Option SV}{r:Option β}{b:β}(e:Dx q r=some b):q=none/\r=some b:=by
 cases q with
 |none=>exact⟨rfl,e⟩
 |some _=>cases e
section
variable[QF]
noncomputable def uj(C:Ctx β)(gn:Func)(lvg jvg:Nat->Option cH)(ung:Nat->Bool)(caps:List SV)(rv:SV)(st:St)(K:St->Option β):Option β:=match gn.body with
 |some (.seq (.region _ ops false) rest)=>match ops.toList with
  |o::os=>cond (Nat.ble C.an st.sx) (Lm o (caps.length+(gn.ntmps -caps.length)) λd=>
   xy C.X C.pt (caps.length+(gn.ntmps -caps.length)) ops os ⟨(nY caps 0 .nil).set d rv,st.h,st.sx⟩ λq st1=>Dx q
    (dn {C with n:=caps.length+(gn.ntmps -caps.length),rs:=[],lv:=lvg,jv:=jvg,un:=ung,df:=true,an:=st.sx,hM:=λ_ st2=>K ⟨st.tm,st2.h,st2.sx⟩,lR:=λ_ _=>bF 62} 100000 [] [.code rest] st1)) (bF 61)
  |[]=>bF 63
 |_=>bF 64
noncomputable def wG(C:Ctx β)(st:St):Option β:=uw C.X.T st C.rs (zt C.hM st)
noncomputable def CR(C:Ctx β)(g:FuncId)(gn:Func)(lvg jvg:Nat->Option cH)(ung:Nat->Bool)(body:Code)(st:St):Option β:=match body with
 | .seq (.region _ ops0 false) (.seq (.region _ ops1 false) rest)=>xy C.X C.pt C.n ops0 ops0.toList st λq st1=>Dx q (match ops1.toList with
  |[o1,o2]=>match o1.guard with
   |none=>CS C.n o1 (Ak C.X C.pt st1 o1 λq st2=>Dx q (ID o2 λt=>ob (st2.tm.get t) λfv=>match fv with
    | .fn g' caps=>cond (Nat.beq g' g&&(Nat.blt g' 65536&&Nat.ble C.an st2.sx)) (dn {C with df:=true,an:=st2.sx,hM:=λ_ st3=>uj C gn lvg jvg ung caps .ni st3 (wG C),lR:=λrv st3=>uj C gn lvg jvg ung caps rv st3 (wG C)} 100000 [] [.code rest] st2) (bF 65)
    |_=>bF 66))
   |some _=>bF 68
  |_=>bF 69)
 |_=>bF 67
end
theorem Mem.Pn{B:Bs}{σ:Ren}{h:Tr SO}{sx:Nat}{w:World}(M:iP B σ h sx w){n:Nat}{dG:List Deferred}:iP ⟨B.w,B.own,σ.lit,sx,σ.nm,n,dG⟩ σ h sx w:=
 ⟨M.obj,M.inj,M.fresh,M.lit,M.free,M.base,M.owned,λ_ _ _ q=>.inl q,λ_ _ _ q=>q,λ_ _ _ q=>q⟩
theorem Mem.Y4{B:Bs}{σ σ':Ren}{h:Tr SO}{sx:Nat}{w w':World}{G:Nat->SO->Prop}{F:Nat->Prop}(M:iP B σ h sx w)(ha:B.an<=sx){n:Nat}{dG:List Deferred}(M':Mem ⟨B.w,B.own,σ.lit,sx,σ.nm,n,dG⟩ σ' G F w'):Ext σ σ'/\Mem B σ' G F w':=by
 have E:Ext σ σ':=⟨λid x e=>M'.jY id (Nat.not_le.1 λq=>by rw[M.fresh id q] at e;cases e) x e,M'.na⟩;refine⟨E,M'.obj,M'.inj,M'.fresh,M'.lit,M'.free,M'.base,M'.owned,λb i v q=>?_,λk hk x hx=>E.nm _ _ (M.jY k hk x hx),λb i v q=>E.lit b i v (M.na b i v q)⟩;rcases M'.lW b i v q with k|k
 ·exact M.lW b i v k
 ·exact .inr k
theorem D4{P:Program}{ops:Array Oper}{Q:Exit->Act->List Frame->World->Prop}{cs:List Frame}(hQ:∀a w,¬Q .outgrown a cs w):∀(l:List Nat){a:Act}{w:World},wpOps P ops (λe a w=>Q e a cs w) l a w->wpOpsS P ops Q l a cs w
 |[],a,w,h=>h
 |i::l,a,w,h=>by
  unfold wpOps at h;unfold wpOpsS;split at h
  ·rename_i ho;simp only[ho];exact D4 hQ l h
  ·rename_i o ho;simp only[ho];split at h
   ·rename_i hw;simp only[hw,dW];rcases h with h|⟨_,a',w',q⟩
    ·have h:=Oper.wp_mono (K':=λa w=>wpOpsS P ops Q l a cs w) (λa w h=>D4 hQ l h) h;unfold Oper.wp at h;split
     ·rename_i w' hr;rw[hr] at h;exact h.elim
     ·exact h
    ·exact(hQ _ _ q).elim
   ·rename_i hw;simp only[hw];exact D4 hQ l h
section
variable[QF]
theorem ZN{P:Program}{C:Ctx β}(OK:iF P C.X)(mx:P.follows .mixedOrders=true)(PT:mP P C.pt){g:FuncId}{gn:Func}(hG:C.X.F.get g=some gn)(hres:gn.results.toList=[]){lvg jvg:Nat->Option cH}{ung:Nat->Bool}{caps:List SV}{cv:Array Value}{rv:SV}{st:St}{K:St->Option β}{b:β}
 (e:uj C gn lvg jvg ung caps rv st K=some b) {B:Bs} (ha:B.an=C.an) {σ:Ren} {a:Act} {w:World} {u:FrameMode} (hm:(u=.returning/\rv=.ni)\/∃v,u=.panicking [pe v]/\DV σ rv v) (R:dt B σ st a w) (d:eQ σ caps cv.toList):
 CallsD P g cv u w λe u' w'=>∃v,e=.returned v/\settle u'=.returning/\∃st',K st'=some b/\∃σ',dt B σ' st' a w':=by
 unfold uj at e;split at e
 case h_2=>cases e
 rename_i id ops rest hb;split at e
 case h_2=>cases e
 rename_i o os hops;obtain⟨han,e⟩:=bc e;have han:=dY han;obtain⟨dR,e,hdst,hlt,hgd,c,hop,hcal,harg⟩:=ahc e;have hlen:cv.size=caps.length:=by rw[<-Array.length_toList];exact d.1.symm
 have ho:ops[0]? =some o:=by rw[<-mh,hops];rfl
 have hrg:List.range ops.size=0::List.range' 1 os.length:=by rw[List.range_eq_range',show ops.size=os.length+1 by rw[<-Array.length_toList,hops];rfl,List.range'_succ]
 refine callsD_of_wpS (OK.F _ _ hG).1 hb λc₀ cs hu=>wpS_seq (wpS_region ?_);rw[hrg]
 let a0:Act:={tmps:=cv++Array.replicate (gn.ntmps -cv.size) undef,defers:=[]}
 have hsz:a0.tmps.size=caps.length+(gn.ntmps -caps.length):=by simp[a0,hlen]
 obtain⟨q,st1,e1,G⟩:=AU OK PT os 1 (λi o' hi=>by rw[<-mh,hops,Nat.add_comm];exact hi) _ _ _ e;obtain⟨rfl,e2⟩:=J6 e1;have run:(execOp a0.eval o).run P w=.ok .recover w:=by
  have:c.args=#[]:=by simpa using harg
  unfold execOp resolve;simp only[hop,hcal,this];rfl
 have key:∀(y:Value)(u':FrameMode),settle u'=.returning->DV σ rv y->wpOpsS P ops (Exit.thenS (rest.wpS P (bodyPostS P gn c₀ cs λe u' w'=>∃v,e=.returned v/\settle u'=.returning/\∃st',K st'=some b/\∃σ',dt B σ' st' a w')) (bodyPostS P gn c₀ cs λe u' w'=>∃v,e=.returned v/\settle u'=.returning/\∃st',K st'=some b/\∃σ',dt B σ' st' a w')) (List.range' 1 os.length) (a0.put o.dst y) ({c₀ with mode:=u'}::cs) w:=by
  intro y u' hu' dy
  let B2:Bs:=⟨B.w,B.own,σ.lit,st.sx,σ.nm,caps.length+(gn.ntmps -caps.length),[]⟩
  refine D4 (λa w q=>by obtain⟨_,_,h,_⟩:=q;cases h) _ (G (B:=B2) (σ:=σ) rfl ⟨by rw[hdst];simp[Act.put,hsz,B2],by rw[hdst];rfl,?_,R.mem.Pn⟩ _ ?_)
  ·rw[hdst];exact(sJ (BK d (dG:=[]))).put (Ext.refl _) (d:=some dR) (λk hk=>by cases hk;show dR<a0.tmps.size;rw[hsz];exact eX hlt) dy
  ·intro σ1 a1 w1 R1;refine wpS_of_wp (wp_mono (λb k cs=>(sD (fn:=gn) (B:=B2) (C:={C with n:=caps.length+(gn.ntmps -caps.length),rs:=[],lv:=lvg,jv:=jvg,un:=ung,df:=true,an:=st.sx,hM:=λ_ st2=>K ⟨st.tm,st2.h,st2.sx⟩,lR:=λ_ _=>bF 62}) OK mx PT hres rfl rfl _ _ _ _ _ e2 (λr hr=>by cases hr) R1) b k cs) λx a2 w2 q=>?_)
   have fin2:(∃σ2 st2 sv,dt B2 σ2 st2 a2 w2/\K ⟨st.tm,st2.h,st2.sx⟩=some b/\sv=SV.aH [])->a2.defers=[]/\∃u2,({c₀ with mode:=u'}:Frame)::cs={c₀ with mode:=u2}::cs/\∃v,(results gn a2.tmps).run P w2=.ok v w2/\∃v2,Ending.returned v=.returned v2/\settle u2=.returning/\∃st',K st'=some b/\∃σ',dt B σ' st' a w2:=λ⟨σ2,st2,_,r,kr,_⟩=>by
    obtain⟨E,M⟩:=R.mem.Y4 (ha▸han) r.mem;refine⟨r.dG,u',rfl,.tuple #[],?_,_,rfl,hu',_,kr,σ2,R.size,R.dG,λt sv h=>(R.ev t sv h).mono E,M⟩;have:gn.results=#[]:=by simpa using hres
    simp[results,this]
   cases x with
   |normal=>exact fin2 q
   |ret=>exact fin2 q
   |panic ch=>obtain⟨_,_,_,_,_,kp,_⟩:=q;cases kp
   |_=>exact q.elim
 unfold wpOpsS;have hw:Region.wanted o (yielded ops a0.tmps)=true:=by unfold Region.wanted;rw[hgd]
 simp only[ho];rw[az hw];rcases hm with⟨rfl,rfl⟩|⟨v,rfl,dv⟩
 ·have hr:recoverD (c₀::cs)=none:=by unfold recoverD;simp only[hu]
  have hc:({c₀ with mode:=.returning}:Frame)=c₀:=by rw[<-hu]
  have:=key .nilIface .returning rfl .ni;rw[hc] at this;rw[show(execOp ({tmps:=cv++Array.replicate (gn.ntmps -cv.size) undef,defers:=[]}:Act).eval o).run P w=.ok .recover w from run];simp only[hr];exact this
 ·have hr:recoverD (c₀::cs)=some (v,{c₀ with mode:=.panicking [{v:=v,recovered:=true}]}::cs):=by unfold recoverD;simp only[hu,pe]
  rw[show(execOp ({tmps:=cv++Array.replicate (gn.ntmps -cv.size) undef,defers:=[]}:Act).eval o).run P w=.ok .recover w from run];simp only[hr];exact key v _ rfl dv
theorem P2{P:Program}{C:Ctx β}(OK:iF P C.X)(mx:P.follows .mixedOrders=true)(PT:mP P C.pt){f:FuncId}{fn:Func}(hF:P.funcs[f]? =some fn){body:Code}(hb:fn.body=some body)(hrs:fn.results.toList=C.rs)(hdf:C.df=false){g:FuncId}{gn:Func}(hG:C.X.F.get g=some gn)(hres:gn.results.toList=[]){lvg jvg:Nat->Option cH}{ung:Nat->Bool}{st:St}{b:β}
 (e:CR C g gn lvg jvg ung body st=some b) {B:Bs} (hn:B.n=C.n) (ha:B.an=C.an) (hB:B.dG=[]) {σ:Ren} {args:Array Value} {w:World} (R:dt B σ st {tmps:=args++Array.replicate (fn.ntmps -args.size) undef,defers:=[]} w) {Rp:Ending->World->Prop}
 (k:∀{σ:Ren}{st:St}{sv:SV}{a:Act}{w':World}{v:Value},dt B σ st a w'->DV σ sv v->C.hM sv st=some b->Rp (.returned v) w'):Calls P f args w Rp:=by
 unfold CR at e;split at e
 case h_2=>cases e
 rename_i id0 ops0 id1 ops1 rest;obtain⟨q,st1,e1,G1⟩:=AU OK PT ops0.toList 0 (λi o ho=>by rw[gm,<-mh];exact ho) _ _ _ e;obtain⟨rfl,e2⟩:=J6 e1;split at e2
 case h_2=>cases e2
 rename_i o1 o2 hops;split at e2
 case h_2=>cases e2
 rename_i hg1;obtain⟨e3,hd1⟩:=P9 e2;obtain⟨q,sv,st2,e4,hx,ht,D⟩:=KI OK PT e3;obtain⟨rfl,e5⟩:=J6 e4;have ht:st2.tm=km st1.tm o1.dst sv:=by rcases ht with h|h;exact h.2;cases h.1
 obtain⟨t,e6,hd2,hg2,c,hop,hcal,harg⟩:=aaa e5;obtain⟨fv,hfv,e7⟩:=ay e6;split at e7
 case h_2=>cases e7
 rename_i g' caps;obtain⟨hq,e8⟩:=bc e7;simp only[bq] at hq;have hgg:=bT hq.1;have hsm:=eX hq.2.1;have han:=dY hq.2.2;subst hgg;have ho1:ops1[0]? =some o1:=by rw[<-mh,hops];rfl
 have ho2:ops1[1]? =some o2:=by rw[<-mh,hops];rfl
 have hrg1:List.range ops1.size=[0,1]:=by rw[show ops1.size=2 by rw[<-Array.length_toList,hops];rfl];rfl
 have leave:∀{σ:Ren}{st:St}{a:Act}{w:World},wG C st=some b->dt B σ st a w->Leaves P fn a.tmps Rp [] .returning w:=λ{σ st a w} h R=>by obtain⟨σ',st',sv,R',kr,q⟩:=Ja (fn:=fn) OK.T hrs (st:=st) (b:=b) (by rw[hdf];exact h) R;rw[hdf] at q;obtain⟨v,q1,q2⟩:=q;exact⟨v,q1,k R' q2 kr⟩
 have G:mO P [.code (.seq (.region id0 ops0 false) (.seq (.region id1 ops1 false) rest))] (λe a w=>bodyPostD P fn Rp e a w) {tmps:=args++Array.replicate (fn.ntmps -args.size) undef,defers:=[]} w:=by
  refine .step (T':=[.code (.region id0 ops0 false),.code (.seq (.region id1 ops1 false) rest)]) (λ_ _ _=>step_seq) (.code (wp_region ?_));rw[(show List.range ops0.size=List.range' 0 ops0.toList.length from by rw[List.range_eq_range'];simp)];refine G1 hn R _ λσ1 a1 w1 R1=>?_;refine .step (T':=[.code (.region id1 ops1 false),.code rest]) (λ_ _ _=>step_seq) (.code (wp_region ?_));rw[hrg1,wpOps_cons];have hw1:Region.wanted o1 (yielded ops1 a1.tmps)=true:=by unfold Region.wanted;rw[hg1]
  unfold wpOp;simp only[ho1,hw1,dW];refine .inl (D a1 R1.ev (λ_ h _=>h) R1.mem _ _ λσ2 v w2 E dv M=>?_);have R2:dt B σ2 st2 (a1.put o1.dst v) w2:=by have:=R1.put E (iP.next hx M) (λk hk=>by rw[hn];exact hd1 k hk) dv;rwa[<-ht] at this
  generalize a1.put o1.dst v=a2 at R2;have hw2:Region.wanted o2 (yielded ops1 a2.tmps)=true:=by unfold Region.wanted;rw[hg2]
  have dfv:=R2.ev t _ hfv;generalize hfx:a2.eval (.tmp t)=fx at dfv;cases dfv with
  |fn hl hr=>
  rename_i cv;rw[Jg hsm] at hfx;have dcv:eQ σ2 caps cv:=⟨hl,hr⟩
  let d:Deferred:={target:=.fn (.func g') ⟨cv⟩,args:=#[]}
  have run:(execOp a2.eval o2).run P w2=.ok (.defer d) w2:=by
   have:c.args=#[]:=by simpa using harg
   unfold execOp resolve;simp[hop,hcal,this,hfx,Deferred.ofValue,d]
  rw[wpOps_cons];unfold wpOp;simp only[ho2,hw2,dW];refine .inl ?_;unfold Oper.wp;rw[run,Oper.upon_defer,hd2,R2.dG,hB];show mO P [.code rest] _ {tmps:=a2.tmps,defers:=[d]} w2
  let B2:Bs:=⟨B.w,B.own,σ2.lit,st2.sx,σ2.nm,B.n,[d]⟩
  have inv:∀w,(invoke d.target d.args).run P w=.ok (.enter g' ⟨cv⟩) w:=λw=>by
   obtain⟨f1,f2,f3⟩:=OK.F _ _ hG;have h4:gn.body.isNone=false:=by cases hb:gn.body with
    |none=>rw[hb] at f3;cases f3
    |some b=>rfl
   unfold invoke callFunc;simp only[d,da,run_program,eE,f1,f2,h4,kx,gK,eG];simp
  have dn2:=sD (fn:=fn) (B:=B2) (C:={C with df:=true,an:=st2.sx,hM:=λ_ st3=>uj C gn lvg jvg ung caps .ni st3 (wG C),lR:=λrv st3=>uj C gn lvg jvg ung caps rv st3 (wG C)}) OK mx PT hrs hn rfl _ _ _ _ _ e8 (λr hr=>by cases hr) (σ:=σ2) (a:={tmps:=a2.tmps,defers:=[d]}) (w:=w2) ⟨R2.size,rfl,R2.ev,R2.mem.Pn⟩
  have last:∀{u:FrameMode}{σ3:Ren}{st3:St}{rv:SV}{a3:Act}{w3:World},u≠.run->(u=.returning/\rv=.ni)\/(∃v,u=.panicking [pe v]/\DV σ3 rv v)->uj C gn lvg jvg ung caps rv st3 (wG C)=some b->dt B2 σ3 st3 a3 w3->Leaves P fn a3.tmps Rp a3.defers u w3:=by intro u σ3 st3 rv a3 w3 hu hm kr R3;obtain⟨E3,M3⟩:=R2.mem.Y4 (ha▸han) R3.mem;rw[R3.dG];have Rx:dt B σ3 st3 {tmps:=a3.tmps,defers:=[]} w3:=⟨R3.size,hB.symm,R3.ev,M3⟩;refine leaves_cons hu (inv w3) (CallsD.mono (ZN OK mx PT hG hres kr ha hm Rx (show eQ σ3 caps (⟨cv⟩:Array Value).toList from dcv.mono E3)) λx u' w' ⟨v,h1,h2,st',h3,σ',R'⟩=>?_);subst h1;show Leaves P fn a3.tmps Rp [] (settle u') w';rw[h2];exact leave (a:={tmps:=a3.tmps,defers:=[]}) h3 R'
  intro b0 k0 cs0;obtain⟨x,a3,w3,q,arr⟩:=dn2 b0 k0 cs0;refine⟨x,a3,w3,?_,arr⟩;cases x with
  |normal=>obtain⟨σ3,st3,sv3,R3,kr,_⟩:=q;exact last (by simp) (.inl ⟨rfl,rfl⟩) kr R3
  |ret=>obtain⟨σ3,st3,sv3,R3,kr,_⟩:=q;exact last (by simp) (.inl ⟨rfl,rfl⟩) kr R3
  |panic ch=>obtain⟨σ3,st3,sv3,v3,R3,kr,rfl,dv3⟩:=q;exact last (by simp) (.inr ⟨v3,rfl,dv3⟩) kr R3
  |_=>exact q.elim
 exact calls_of_wp_defers hF hb λb k cs=>G b k cs
end
end
section
variable[QF]
noncomputable def Zv{β:Type}(C:Ctx β)(g:FuncId)(gn:Func)(lvg jvg:Nat->Option cH)(ung:Nat->Bool)(avt:List VT)(body:Code)(ls:List bo):Option β:=
 ob (vD avt ls) λq=>CR C g gn lvg jvg ung body ⟨nY q.1 0 .nil,.nil,0⟩
noncomputable def Zx(w:Nat)(X:ed)(pt:(β:Type)->FuncId->Option (cy β))(fn:Func)(g:FuncId)(gn:Func)(avt:List VT)(rvt:VT)(lv jv:Nat->Option cH)(un:Nat->Bool)(lvg jvg:Nat->Option cH)(ung:Nat->Bool):Fn (VT.fa avt) (Option (bI rvt.ks)):=
 lL (VT.fa avt) (Zv {X:=X,pt:=pt _,n:=avt.length+(fn.ntmps -avt.length),rs:=fn.results.toList,lv:=lv,jv:=jv,un:=un,df:=false,fuel:=w,an:=0,hM:=λsv st=>zx st rvt sv (dec rvt.ks),lR:=λ_ _=>none} g gn lvg jvg ung avt (fn.body.getD .skip))
theorem aaK{P:Program}{X:ed}(OK:iF P X)(mx:P.follows .mixedOrders=true){pt:(β:Type)->FuncId->Option (cy β)}(PT:jo P pt){f:FuncId}{fn:Func}{g:FuncId}{gn:Func}{avt:List VT}{rvt:VT}{lv jv:Nat->Option cH}{un:Nat->Bool}{lvg jvg:Nat->Option cH}{ung:Nat->Bool}{w:Nat}{Sh:Fn (VT.fa avt) (Option (bI rvt.ks))}
 (hF:X.F.get f=some fn) (hb:fn.body=some (fn.body.getD .skip)) (hG:X.F.get g=some gn) (hres:gn.results.toList=[]) (hS:Sh=Zx w X pt fn g gn avt rvt lv jv un lvg jvg ung):dF P f avt rvt Sh:=by
 intro ls r e lo us hu m args' w0 K A;subst hS;have e1:=mR _ _ _ _ e;obtain⟨⟨svs,rest⟩,h1,e2⟩:=ay e1;obtain⟨_,q1,_⟩:=wD avt ls _ _ _ _ lo hu h1;have hl:args'.size=avt.length:=by rw[<-IH _ _ _ _ hu,<-Array.length_toList];exact A.1.symm
 refine P2 (B:=⟨w0,λ_=>False,m,0,λ_=>none,avt.length+(fn.ntmps -avt.length),[]⟩) OK mx (PT _) (OK.F _ _ hF).1 hb rfl rfl hG hres e2 rfl rfl rfl (σ:=⟨λ_=>none,m⟩) ⟨by simp[hl],rfl,sJ (BK (q1 A) (dG:=[])),Mem.start K⟩ λR d kr=>?_;obtain⟨ls',f1,f3⟩:=Ji _ _ _ _ kr;obtain⟨pv,g1,g3⟩:=f3 [];rw[dQ,<-pw _ _ _ f1] at g1;obtain⟨z1,z2⟩:=g3 (Mem.Wj K R.mem) d;rw[<-pw _ _ _ f1] at z2;exact⟨_,rfl,R.mem.base.below,pv,g1,z2,z1⟩
noncomputable def Zw(w:Nat)(X:ed)(pt:(β:Type)->FuncId->Option (cy β))(fn:Func)(g:FuncId)(gn:Func)(T:HT)(lv jv:Nat->Option cH)(un:Nat->Bool)(lvg jvg:Nat->Option cH)(ung:Nat->Bool):Fn T.ti.ks (Option (bI T.to.ks)):=
 lL T.ti.ks λls=>ob (hU T.ti ls) λst=>CR {X:=X,pt:=pt _,n:=T.n+(fn.ntmps -T.n),rs:=fn.results.toList,lv:=lv,jv:=jv,un:=un,df:=false,fuel:=w,an:=T.an,hM:=λsv st=>kJ T.an T.to ⟨Tr.nil.set 0 sv,st.h,st.sx⟩ (dec T.to.ks),lR:=λ_ _=>bF 52} g gn lvg jvg ung (fn.body.getD .skip) st
theorem aaL{P:Program}{X:ed}(OK:iF P X)(mx:P.follows .mixedOrders=true){pt:(β:Type)->FuncId->Option (cy β)}(PT:jo P pt){f:FuncId}{fn:Func}{g:FuncId}{gn:Func}{T:HT}{lv jv:Nat->Option cH}{un:Nat->Bool}{lvg jvg:Nat->Option cH}{ung:Nat->Bool}{w:Nat}{Sh:Fn T.ti.ks (Option (bI T.to.ks))}
 (hF:X.F.get f=some fn) (hb:fn.body=some (fn.body.getD .skip)) (hG:X.F.get g=some gn) (hres:gn.results.toList=[]) (hS:Sh=Zw w X pt fn g gn T lv jv un lvg jvg ung):nE P f T Sh:=by
 intro ls r st so e hst hso B σ w0 args' hn ha ev M;subst hS;have e1:=mR _ _ _ _ e;obtain⟨st1,g1,e2⟩:=ay e1;rw[hst] at g1;cases g1;refine P2 (B:={B with n:=T.n+(fn.ntmps -T.n),dG:=[]}) OK mx (PT _) (OK.F _ _ hF).1 hb rfl rfl hG hres e2 rfl ha rfl ⟨by simp[hn],rfl,sJ ev,M.nd⟩ λR d kr=>?_
 obtain⟨σ3,z1,z2⟩:=xi (B:=B) (by rw[ha];exact kr) (λls q=>pw _ _ _ q) hso d R.mem.nd;exact⟨σ3,_,rfl,z1,z2⟩
end
theorem CJ{a b:Bool}(h:cond a b false=true):a=true/\b=true:=mS h
theorem zH{P:Program}{t:Nat}{inf:TypeInfo}(h:P.types[t]? =some inf):P.info? t=some inf:=by
 unfold Tables.info?
 grind
def Ce(P:Program)(t:Nat):Prop:=(∃k,P.underlying t=some (.int k))/\∃inf,P.info? t=some inf/\inf.size=1
def C5:List Field->Nat->(Nat->Bool)->Bool
 |[],_,_=>true
 |f::fs,n,ints=>cond (f.name== "_") false (cond (Nat.beq f.offset n) (cond (ints f.type) (C5 fs (n+1) ints) false) false)
theorem QI{P:Program}{ints:Nat->Bool}(hi:∀t,ints t=true->Ce P t):∀(fs:List Field)(n:Nat),C5 fs n ints=true->∀(i:Nat)(f:Field),fs[i]? =some f->f.name≠ "_"/\f.offset=n+i/\Ce P f.type
 |[],n,_,i,f,h=>by grind
 |g::fs,n,e,i,f,h=>by
  unfold C5 at e;cases hn:(g.name== "_") with
  |true=>grind
  |false=>
   simp only[hn] at e;obtain⟨e1,e2⟩:=CJ e;obtain⟨e3,e4⟩:=CJ e2;cases i with
   |zero=>simp_all
   |succ i=>
    obtain⟨a,b,c⟩:=QI hi fs (n+1) e4 i f (by grind)
    grind
def Jb(ints:Nat->Bool)(n:Nat):TypeDesc->Bool
 | .struct fs=>cond (Nat.beq fs.toList.length n) (C5 fs.toList 0 ints) false
 | .array len e=>cond (Nat.beq len n) (ints e) false
 |_=>false
theorem aaH{P:Program}{ints:Nat->Bool}(hi:∀t,ints t=true->Ce P t){n:Nat}{d:TypeDesc}(h:Jb ints n d=true):yI P n d:=by
 unfold Jb at h;split at h
 ·rename_i fs;obtain⟨h1,h2⟩:=CJ h;have:=bT h1;refine⟨by simpa using this,λi f hf=>?_⟩;obtain⟨a,b,c⟩:=QI hi _ _ h2 i f (by grind);exact⟨a,by omega,c⟩
 ·rename_i len e;obtain⟨h1,h2⟩:=CJ h;exact⟨bT h1,hi _ h2⟩
 grind
def sV{α:Type}:List (Nat×α)->Tr α
 |[]=>.nil
 |(n,x)::l=>(sV l).set n x
theorem Ac{α:Type}:∀{l:List (Nat×α)}{n:Nat}{x:α},(sV l).get n=some x->(n,x)∈l
 |[],n,x,h=>by rw[sV,Tr.get_nil] at h;cases h
 |(m,y)::l,n,x,h=>by
  rw[sV,Tr.fA] at h;by_cases e:n=m
  ·grind
  ·rw[ar e] at h;exact mJ _ (Ac h)
structure O7(P:Program)(t:Nat)(i:iZ):Prop where
 under:P.underlying t=some i.desc
 info:∃inf,P.info? t=some inf/\inf.size=i.size/\inf.bytes=i.bytes/\∀z,i.zero=some z->inf.zero=some z
 flat:i.flat=true->P.eqGuardType P.depth t=false/\P.stoodInHeld t=false/\yI P i.size i.desc
theorem akP{P:Program}{T:TT}{F:FT}{lT:List (Nat×iZ)}{lF:List (Nat×Func)}(eT:T=sV lT)(eF:F=sV lF)(hT:∀p∈lT,O7 P p.1 p.2)(hF:∀p∈lF,P.funcs[p.1]? =some p.2 /\(p.2.name== "runtime.NumGoroutine")=false/\p.2.body.isSome=true):iF P ⟨T,F⟩:=by subst eT eF;exact⟨⟨λt i h=>(hT _ (Ac h)).under,λt i h=>(hT _ (Ac h)).info,λt i h=>(hT _ (Ac h)).flat⟩,λf fn h=>hF _ (Ac h)⟩
section
variable{β:Type}
theorem Db{x:SV}{id:Nat}(h:id∈SV.ids x):∀{l:List SV},x∈l->id∈SV.jN l
 |y::l,hx=>by
  unfold SV.jN;rcases cO.1 hx with rfl|hx
  ·exact List.mem_append_left _ h
  ·exact List.mem_append_right _ (Db h hx)
theorem DV.via{σ σ':Ren}(hl:σ'.lit=σ.lit){x:SV}{v:Value}(d:DV σ x v):(∀id∈SV.ids x,∀z,σ.nm id=some z->σ'.nm id=some z)->DV σ' x v:=by
 have sub:∀{l:List SV}{i:Nat}{x:SV}{p:Nat->Prop},(∀id∈SV.jN l,p id)->l[i]? =some x->∀id∈SV.ids x,p id:=λh e id q=>h id (Db q (nB e));induction d with
 |i=>exactλ_=>.i _ _
 |b=>exactλ_=>.b _
 |s=>exactλ_=>.s _
 |v h h1=>exactλ_=>.v (hl▸h) h1
 |nl=>exactλ_=>.nl
 |agg kl _ ih=>exactλp=>.agg kl λi x y a b=>ih i x y a b (sub (by unfold SV.ids at p;exact p) a)
 |aH kl _ ih=>exactλp=>.aH kl λi x y a b=>ih i x y a b (sub (by unfold SV.ids at p;exact p) a)
 |ptr h=>exactλp=>.ptr (p _ (by unfold SV.ids;simp) _ h)
 |lp h=>exactλ_=>.lp (hl▸h)
 |sl h hn=>exactλp=>.sl (p _ (by unfold SV.ids;simp) _ h) hn
 |jx h=>exactλp=>.jx (p _ (by unfold SV.ids;simp) _ h)
 |gr h hc hn=>exactλp=>.gr (p _ (by unfold SV.ids;simp) _ h) hc hn
 |fn kl _ ih=>exactλp=>.fn kl λi x y a b=>ih i x y a b (sub (by unfold SV.ids at p;exact p) a)
 |fC _ ih=>exactλp=>.fC (ih (by unfold SV.ids at p;exact p))
 |em h=>exactλ_=>.em (hl▸h)
 |ni=>exactλ_=>.ni
 |mp h=>exactλp=>.mp (p _ (by unfold SV.ids;simp) _ h)
def BL(p:Nat->Bool):SO->Bool
 | .cells c _=>(SV.jN c).all p
 | .mp es=>es.all λe=>(SV.ids e.2).all p
 |_=>true
theorem DO.via{σ σ':Ren}(hl:σ'.lit=σ.lit){w:World}{id:Nat}{so:SO}(d:DO σ w id so){p:Nat->Bool}(h:∀id,p id=true->∀z,σ.nm id=some z->σ'.nm id=some z)(hi:p id=true)(hs:BL p so=true):DO σ' w id so:=by
 have e:=h id hi;cases so with
 |cells c t=>obtain⟨o,n,vs,a,b,c⟩:=d;exact⟨o,n,vs,e _ a,b,c.1,λi x y h1 h2=>(c.2 i x y h1 h2).via hl λk hk=>h k (ij.1 hs k (Db hk (nB h1)))⟩
 |arr c t=>obtain⟨o,n,vs,a,b,c⟩:=d;exact⟨o,n,vs,e _ a,b,hl▸c⟩
 |grow E c t=>
  obtain⟨a,q,g⟩:=d;refine⟨a,q,?_⟩;rcases g with⟨g,k⟩|⟨o,n,cs,g,k⟩
  ·exact .inl ⟨e _ g,k⟩
  ·exact .inr ⟨o,n,cs,e _ g,hl▸k⟩
 |mp es=>obtain⟨o,n,es',ck,a,b,c⟩:=d;exact⟨o,n,es',ck,e _ a,b,c.1,λi x y h1 h2=>have q:=c.2 i x y h1 h2;⟨q.1,q.2.via hl λk hk=>h k (ij.1 (ij.1 hs x (nB h1)) k hk)⟩⟩
def q9(f:Nat->SO->Bool):Tr SO->Nat->Nat->Bool
 | .nil,_,_=>true
 | .node v l r,a,b=>(match v with|some x=>f b x|none=>true)&&(q9 f l (2*a) (a+b)&&q9 f r (2*a) (2*a+b))
theorem Ia{f:Nat->SO->Bool}:∀(p:jn){t:Tr SO}{a b:Nat}{x:SO},q9 f t a b=true->walk p t=some x->f (a*p.num+b) x=true
 |p,.nil,a,b,x,h,e=>by rw[Hi] at e;cases e
 | .z,.node v l r,a,b,x,h,e=>by
  unfold q9 at h;rw[bq] at h;cases v with
  |none=>cases e
  |some y=>have e:some y=some x:=e;cases e;rw[show a*jn.z.num+b=b by unfold jn.num;omega];exact h.1
 | .l p,.node v l r,a,b,x,h,e=>by unfold q9 at h;rw[bq,bq] at h;have:=Ia p h.2.1 (show walk p l=some x from e);rw[show a*(jn.l p).num+b=2*a*p.num+(a+b) by show a*(2*p.num+1)+b=_;rw[Nat.mul_add,<-Nat.mul_assoc,mM a 2];omega];exact this
 | .r p,.node v l r,a,b,x,h,e=>by unfold q9 at h;rw[bq,bq] at h;have:=Ia p h.2.2 (show walk p r=some x from e);rw[show a*(jn.r p).num+b=2*a*p.num+(2*a+b) by show a*(2*p.num+2)+b=_;rw[Nat.mul_add,<-Nat.mul_assoc,mM a 2];omega];exact this
theorem Pm{f:Nat->SO->Bool}{t:Tr SO}(h:q9 f t 1 0=true){n:Nat}{x:SO}(e:t.get n=some x):f n x=true:=by have:=Ia (rE n) h e;rwa[show(rE n).num=n from Aq _ _ (kA _),Nat.one_mul,Nat.add_zero] at this
def pD(h:Tr SO)(i:Nat):Bool:=match h.get i with
 |some _=>true
 |none=>false
def uI(h:Tr SO)(sx i:Nat):Bool:=Nat.ble sx i||pD h i
section
variable[QF]
noncomputable def Rl(X:ed)(pt:(β:Type)->FuncId->Option (cy β))(fn:Func)(lv jv:Nat->Option cH)(un:Nat->Bool)(w n sx:Nat):Ctx (Bool×SV×St):=
 {X:=X,pt:=pt _,n:=n+(fn.ntmps -n),rs:=fn.results.toList,lv:=lv,jv:=jv,un:=un,df:=false,fuel:=w,an:=sx,hM:=λsv st=>some (false,sv,st),lR:=λsv st=>some (true,sv,st)}
noncomputable def inl(X:ed)(pt:(β:Type)->FuncId->Option (cy β))(fn:Func)(lv jv:Nat->Option cH)(un:Nat->Bool)(w:Nat):cy β:=λst args K=>
 cond (q9 (λi so=>Nat.blt i st.sx&&BL (pD st.h) so) st.h 1 0&&(SV.jN args).all (pD st.h))
  (ob (dn (Rl X pt fn lv jv un w args.length st.sx) 100000 [] [.code (fn.body.getD .skip)] ⟨nY args 0 .nil,st.h,st.sx⟩) λr=>
   cond (Nat.ble st.sx r.2.2.sx&&(q9 (λi so=>uI st.h st.sx i&&BL (uI st.h st.sx) so) r.2.2.h 1 0&&(SV.ids r.2.1).all (uI st.h st.sx)))
    (K r.1 r.2.1 ⟨st.tm,r.2.2.h,r.2.2.sx⟩) (bF 81)) (bF 82)
theorem abj{P:Program}{X:ed}(OK:iF P X)(mx:P.follows .mixedOrders=true){pt:(β:Type)->FuncId->Option (cy β)}(PT:jo P pt){g:FuncId}{fn:Func}(hF:X.F.get g=some fn)(hb:fn.body=some (fn.body.getD .skip)){lv jv:Nat->Option cH}{un:Nat->Bool}{w:Nat}:mm P g (inl (β:=β) X pt fn lv jv un w):=by
 intro st args K b e;obtain⟨c0,e⟩:=bc e;obtain⟨⟨p,sv,st'⟩,e1,e⟩:=ay e;obtain⟨c1,e⟩:=bc e;simp only[bq] at c0 c1;obtain⟨c2,c3⟩:=c0;obtain⟨c4,c5,c6⟩:=c1;have hx:st.sx<=st'.sx:=dY c4;refine⟨p,sv,_,e,rfl,hx,λ{B σ F w0} hN M args' d=>?_⟩;have lv0:∀{id so},st.h.get id=some so->pD st.h id=true:=λh=>by unfold pD;rw[h]
 have lt0:∀{id so},st.h.get id=some so->id<st.sx/\BL (pD st.h) so=true:=λh=>by have:=Pm c2 h;rw[bq] at this;exact⟨eX this.1,this.2⟩
 let σ0:Ren:=⟨λid=>if pD st.h id then σ.nm id else none,σ.lit⟩
 have to0:∀id,pD st.h id=true->∀z,σ.nm id=some z->σ0.nm id=some z:=λid h z hz=>by show(if _ then _ else _)=_;rw[az h];exact hz
 have of0:∀{id z},σ0.nm id=some z->σ.nm id=some z:=λ{id z} h=>by
  replace h:(if pD st.h id then σ.nm id else none)=some z:=h;split at h
  ·exact h
  ·cases h
 have D6:∀b,Own σ0 (hG st.h) b->Own σ (hG st.h) b:=λb ⟨i,s,o,n,a,p,q⟩=>⟨i,s,o,n,a,of0 p,q⟩
 let B2:Bs:=⟨w0,Own σ (hG st.h),σ.lit,st.sx,σ0.nm,args.length+(fn.ntmps -args.length),[]⟩
 have fr0:∀id,st.sx<=id->σ0.nm id=none:=λid h=>by
  show(if _ then _ else _)=_;rw[ar];intro q;unfold pD at q;split at q
  ·rename_i s hs;have:=(lt0 hs).1;omega
  ·cases q
 have M0:iP B2 σ0 st.h st.sx w0:=⟨λid so h=>(M.obj id so h).via (σ:=σ) (σ':=σ0) rfl to0 (lv0 h) (lt0 h).2,λi j s s' o o' n n' a a' p p' q=>M.inj _ _ _ _ _ _ _ _ a a' (of0 p) (of0 p') q,fr0,M.lit,λb i v h q=>M.free b i v h (D6 b q),eH.refl _ _,λb q=>.inl (D6 b q),λ_ _ _ q=>.inl q,λ_ _ _ q=>q,λ_ _ _ q=>q⟩;have dv0:eQ σ0 args args'.toList:=⟨d.1,λi x y h1 h2=>(d.2 i x y h1 h2).via (σ:=σ) (σ':=σ0) rfl λid hid=>to0 id (ij.1 c3 id (Db hid (nB h1)))⟩;have hl:args'.size=args.length:=by rw[<-Array.length_toList];exact d.1.symm
 have fin:∀{σ':Ren}{a:Act}{w':World}{v:Value},dt B2 σ' st' a w'->DV σ' sv v->∃σn v',End p v=End p v'/\Ext σ σn/\DV σn sv v'/\Mem B σn (hG st'.h) (lN F st.sx st'.sx) w':=by
  intro σ' a w' v R dv
  let σn:Ren:=⟨λid=>if st.sx<=id/\id<st'.sx then σ'.nm id else σ.nm id,σ'.lit⟩
  have E:Ext σ σn:=⟨λid x e=>by show(if _ then _ else _)=_;rw[ar λq=>by rw[M.fresh id (hN id q.1 q.2)] at e;cases e];exact e,R.mem.na⟩;have key:∀id,uI st.h st.sx id=true->∀z,σ'.nm id=some z->σn.nm id=some z:=λid h z hz=>by
   by_cases q:st.sx<=id
   ·have:id<st'.sx:=Nat.not_le.1 λq=>by rw[R.mem.fresh id q] at hz;cases hz
    show(if _ then _ else _)=_;rw[az ⟨q,this⟩];exact hz
   ·unfold uI at h;rw[qS] at h;rcases h with h|h
    ·exact absurd (dY h) q
    ·have ex:∃so,st.h.get id=some so:=by
      unfold pD at h;split at h
      ·rename_i s hs;exact⟨s,hs⟩
      ·cases h
     obtain⟨so,hso⟩:=ex;have hy:∃y,σ.nm id=some y:=(M.obj id so hso).nm.elim (λq=>⟨_,q⟩) λ⟨_,_,q,_⟩=>⟨_,q⟩;obtain⟨y,hy⟩:=hy;have:=R.mem.jY id (Nat.not_le.1 q) y (to0 id h y hy);rw[hz] at this;cases this;exact E.nm _ _ hy
  have kp:∀{id so},st'.h.get id=some so->uI st.h st.sx id=true/\BL (uI st.h st.sx) so=true:=λh=>by have:=Pm c5 h;rwa[bq] at this
  have back:∀{id so o n},st'.h.get id=some so->σn.nm id=some (some o,n)->σ'.nm id=some (some o,n):=λ{id so o n} h1 h2=>by rcases(R.mem.obj id so h1).nm with q|⟨_,_,q,_⟩<;>rw[key _ (kp h1).1 _ q] at h2<;>cases h2;exact q
  have M3:Mem (Ay w0 (Own σ (hG st.h)) σ.lit) σn (hG st'.h) (lN F st.sx st'.sx) w':=
   ⟨λid so h=>(R.mem.obj id so h).via (σ:=σ') (σ':=σn) rfl key (kp h).1 (kp h).2,λi j s s' o o' n n' a a' p p' q=>R.mem.inj _ _ _ _ _ _ _ _ a a' (back a p) (back a' p') q,λid h=>by show(if _ then _ else _)=_;rw[ar h.2];exact M.fresh id h.1,R.mem.lit,λb i v h ⟨i',s,o,n,a,p,q⟩=>R.mem.free b i v h ⟨i',s,o,n,a,back a p,q⟩,R.mem.base,λb ⟨i',s,o,n,a,p,q⟩=>R.mem.owned b ⟨i',s,o,n,a,back a p,q⟩,R.mem.lW,λk hk=>(Nat.not_lt_zero k hk).elim,R.mem.na⟩
  exact⟨σn,v,rfl,E,dv.via (σ:=σ') (σ':=σn) rfl λid h=>key id (ij.1 c6 id h),(M.frame (λ_ _ h=>h) E M3).less (λ_ _ h=>.inl h) λ_ h=>h⟩
 refine zk (C:=Rl X pt fn lv jv un w args.length st.sx) (B:=B2) (b:=(p,sv,st')) (OK.F _ _ hF).1 hb rfl rfl (sD OK mx (PT _) rfl rfl rfl _ _ _ _ _ e1 (λr hr=>by cases hr) ⟨by simp[hl,B2],rfl,sJ (BK dv0 (dG:=[])),M0⟩) λR dv=>⟨λkr=>?_,λkp=>?_⟩
 ·cases kr;exact fin R dv
 ·cases kp;exact fin R dv
noncomputable def K5(pt pi:(β:Type)->FuncId->Option (cy β))(g:FuncId)(X:ed)(fn:Func)(lv:Nat->Option cH)(un:Nat->Bool)(w:Nat):(β:Type)->FuncId->Option (cy β):=
 λβ f=>cond (Nat.beq f g) (some (inl X pi fn lv (λ_=>none) un w)) (pt β f)
theorem ag8{P:Program}{X:ed}(OK:iF P X)(mx:P.follows .mixedOrders=true){pt pi:(β:Type)->FuncId->Option (cy β)}(PT:jo P pt)(PI:jo P pi){g:FuncId}{fn:Func}(hF:X.F.get g=some fn)(hb:fn.body=some (fn.body.getD .skip)){lv:Nat->Option cH}{un:Nat->Bool}{w:Nat}:jo P (K5 pt pi g X fn lv un w):=by
 intro β f e h;unfold K5 at h;cases hq:Nat.beq f g with
 |true=>rw[hq] at h;obtain rfl:=bT hq;cases h;exact abj OK mx PI hF hb
 |false=>rw[hq] at h;exact PT β f e h
end
def Ly(e:Nat×Nat×List Nat×Nat):Value:=.func (.func 0) #[.agg #[.int .i64 e.1,.int .i64 e.2.1]] #[.agg #[ae e.2.2.1.length (e.2.2.1.map λt=>.int .i64 (Int.ofNat t)),.int .i64 e.2.2.2]]
def xq(l:List (Nat×Nat×List Nat×Nat)):Value:=.func (.method "") ⟨l.map Ly⟩ #[]
end
section
variable{β:Type}
def rF:SV->Bool
 | .aH (x::_)=>(match x with| .ptr _ _=>true|_=>false)
 |_=>false
def Cc(P:Program)(g:FuncId)(T:PT)(Sh:Fn T.ti.ks (Option (bI T.to.ks⊕bI T.tp.ks))):Prop:=
 ∀ls r st,iu T.ti.ks Sh ls=some r->hU T.ti ls=some st->∀so,(match r with| .inl a=>hU T.to (gB T.to.ks a)=some so| .inr a=>hU T.tp (gB T.tp.ks a)=some so)->Cd P g T.n T.an st so false
noncomputable def Zy[QF](w:Nat)(X:ed)(pt:(β:Type)->FuncId->Option (cy β))(fn:Func)(T:PT)(lv jv:Nat->Option cH)(un:Nat->Bool):Fn T.ti.ks (Option (bI T.to.ks⊕bI T.tp.ks)):=
 lL T.ti.ks λls=>ob (hU T.ti ls) λst=>dn {X:=X,pt:=pt _,n:=T.n+(fn.ntmps -T.n),rs:=fn.results.toList,lv:=lv,jv:=jv,un:=un,df:=false,fuel:=w,an:=T.an,hM:=λsv st=>cond (rF sv) (rz (tH T.to) sv st λsv st=>kJ T.an T.to ⟨Tr.nil.set 0 sv,st.h,st.sx⟩ λls=>ob (dec T.to.ks ls) λa=>some (.inl a)) (rz (tH T.tp) sv st λsv st=>kJ T.an T.tp ⟨Tr.nil.set 0 sv,st.h,st.sx⟩ λls=>ob (dec T.tp.ks ls) λa=>some (.inr a)),lR:=λ_ _=>none} 100000 [] [.code (fn.body.getD .skip)] st
theorem aaQ[QF]{P:Program}{X:ed}(OK:iF P X)(mx:P.follows .mixedOrders=true){pt:(β:Type)->FuncId->Option (cy β)}(PTO:jo P pt){g:FuncId}{fn:Func}{T:PT}{lv jv:Nat->Option cH}{un:Nat->Bool}{w:Nat}{Sh:Fn T.ti.ks (Option (bI T.to.ks⊕bI T.tp.ks))}
 (hF:X.F.get g=some fn) (hb:fn.body=some (fn.body.getD .skip)) (hS:Sh=Zy w X pt fn T lv jv un):Cc P g T Sh:=by
 intro ls r st e hst so hso B σ w0 args' hn ha ev M;subst hS;have e1:=mR _ _ _ _ e;obtain⟨st1,g1,e2⟩:=ay e1;rw[hst] at g1;cases g1;refine zk (B:={B with n:=T.n+(fn.ntmps -T.n),dG:=[]}) (OK.F _ _ hF).1 hb rfl rfl (sD OK mx (PTO _) rfl rfl ha _ _ _ _ _ e2 (λr hr=>by cases hr) ⟨by simp[hn],rfl,sJ ev,M.nd⟩) λ{σ1 s1 sv a1 w1 v1} R d=>⟨λkr=>?_,λkp=>by cases kp⟩
 cases hp:rF sv with
 |true=>
  replace kr:cond (rF sv) _ _=some r:=kr;rw[hp] at kr;obtain⟨sv2,st2,k1,k2⟩:=Ey (β:=bI T.to.ks⊕bI T.tp.ks) (t:=tH T.to) (K:=λsv st=>kJ T.an T.to ⟨Tr.nil.set 0 sv,st.h,st.sx⟩ λls=>ob (dec T.to.ks ls) λa=>some (.inl a)) kr;obtain⟨σ2,d2,M2⟩:=k2 d R.mem.nd;replace k1:kJ T.an T.to ⟨Tr.nil.set 0 sv2,st2.h,st2.sx⟩ (λls=>ob (dec T.to.ks ls) λa=>some (Sum.inl a))=some r:=k1;cases r with
  |inl a=>obtain⟨σ3,z1,z2⟩:=xi (B:=B) (by rw[ha];exact k1) (λls q=>by obtain⟨a',q1,q2⟩:=ay q;cases q2;exact pw _ _ _ q1) hso d2 M2;exact⟨σ3,_,rfl,z1,z2⟩
  |inr a=>obtain⟨ls',q1,_⟩:=uu (B:=B) (by rw[ha];exact k1);obtain⟨a',_,q2⟩:=ay q1;cases q2
 |false=>
  replace kr:cond (rF sv) _ _=some r:=kr;rw[hp] at kr;obtain⟨sv2,st2,k1,k2⟩:=Ey (β:=bI T.to.ks⊕bI T.tp.ks) (t:=tH T.tp) (K:=λsv st=>kJ T.an T.tp ⟨Tr.nil.set 0 sv,st.h,st.sx⟩ λls=>ob (dec T.tp.ks ls) λa=>some (.inr a)) kr;obtain⟨σ2,d2,M2⟩:=k2 d R.mem.nd;replace k1:kJ T.an T.tp ⟨Tr.nil.set 0 sv2,st2.h,st2.sx⟩ (λls=>ob (dec T.tp.ks ls) λa=>some (Sum.inr a))=some r:=k1;cases r with
  |inl a=>obtain⟨ls',q1,_⟩:=uu (B:=B) (by rw[ha];exact k1);obtain⟨a',_,q2⟩:=ay q1;cases q2
  |inr a=>obtain⟨σ3,z1,z2⟩:=xi (B:=B) (by rw[ha];exact k1) (λls q=>by obtain⟨a',q1,q2⟩:=ay q;cases q2;exact pw _ _ _ q1) hso d2 M2;exact⟨σ3,_,rfl,z1,z2⟩
def Qk(T:PT)(Sh:Fn T.ti.ks (Option (bI T.to.ks⊕bI T.tp.ks))):cy β:=λst args K=>
 cond (Nat.beq args.length T.n) (ur [] T.ti ⟨nY args 0 .nil,st.h,st.sx⟩ λls m=>
  cond (rm st.h m&&sq m T.an) (ob (iu T.ti.ks Sh ls) λr=>dr r
   (λa=>ob (hU T.to (gB T.to.ks a)) λso=>ob (so.tm.get 0) λsv=>K false (oR (mD T.an st.sx m) sv) ⟨st.tm,qy (mD T.an st.sx m) so.h T.to.pF (rf m st.h),st.sx+T.to.sx⟩)
   (λa=>ob (hU T.tp (gB T.tp.ks a)) λso=>ob (so.tm.get 0) λsv=>K false (oR (mD T.an st.sx m) sv) ⟨st.tm,qy (mD T.an st.sx m) so.h T.tp.pF (rf m st.h),st.sx+T.tp.sx⟩)) none) none
theorem aau{P:Program}{g:FuncId}{T:PT}{Sh:Fn T.ti.ks (Option (bI T.to.ks⊕bI T.tp.ks))}(F:Cc P g T Sh):mm P g (Qk (β:=β) T Sh):=by
 intro st args K b e;obtain⟨hlen,e⟩:=bc e;obtain⟨ls,m,h1,_,hinj,hsx,stT,h2,h3,h4⟩:=CZ (λi j a q=>by cases q) e;obtain⟨hl,h1⟩:=bc h1;rw[bq] at hl;obtain⟨r,k1,h1⟩:=ay h1;cases r with
 |inl a=>obtain⟨so,k2,h1⟩:=ay h1;obtain⟨sv,k3,h1⟩:=ay h1;have sx:=Aa k2;rw[<-sx] at h1;exact⟨false,_,_,h1,rfl,Nat.le_add_right _ _,λhF M args' d=>zn (bT hlen) hinj (by rw[h3];exact hsx) h4 (uL hl.1) (wi hl.2) k3 (F ls _ stT k1 h2 so k2) hF M args' d⟩
 |inr a=>obtain⟨so,k2,h1⟩:=ay h1;obtain⟨sv,k3,h1⟩:=ay h1;have sx:=Aa k2;rw[<-sx] at h1;exact⟨false,_,_,h1,rfl,Nat.le_add_right _ _,λhF M args' d=>zn (bT hlen) hinj (by rw[h3];exact hsx) h4 (uL hl.1) (wi hl.2) k3 (F ls _ stT k1 h2 so k2) hF M args' d⟩
def UM(pt:(β:Type)->FuncId->Option (cy β))(g:FuncId)(T:PT)(Sh:Fn T.ti.ks (Option (bI T.to.ks⊕bI T.tp.ks))):(β:Type)->FuncId->Option (cy β):=
 λβ f=>cond (Nat.beq f g) (some λst args K=>cond (C4 T st args) (Qk T Sh st args K) (ob (pt β f) λe=>e st args K)) (pt β f)
theorem ag7{P:Program}{pt:(β:Type)->FuncId->Option (cy β)}(PTO:jo P pt){g:FuncId}{T:PT}{Sh:Fn T.ti.ks (Option (bI T.to.ks⊕bI T.tp.ks))}(F:Cc P g T Sh):jo P (UM pt g T Sh):=by
 intro β f e h;unfold UM at h;cases hb:Nat.beq f g with
 |true=>
  rw[hb] at h;have hg:=bT hb;subst hg;cases h;intro st args K b k;cases hf:C4 T st args with
  |true=>simp[hf] at k;exact aau F st args K b k
  |false=>simp[hf] at k;obtain⟨e0,h0,k⟩:=ay k;exact PTO β f e0 h0 st args K b k
 |false=>rw[hb] at h;exact PTO β f e h
end
end Lt
structure bB where
 bR:Int
 data:List UInt8
 scan:List UInt8
 deriving DecidableEq
def nt(m:Int):Bool:=decide (208<=m/\m<=215)
def iG(m:Int):Bool:=decide (m=216\/m=217)
def jy(m:Int):Bool:=decide (192<=m/\m<=254)&&!nt m&&!iG m
def ej:List UInt8->Nat
 |[]=>0
 |b::t=>if b=255 then(match t with
  |[]=>0
  |c::_=>if c≠0/\nt c.toNat=false then 0 else ej t+1) else ej t+1
theorem AR:∀l,ej l<=l.length
 |[]=>aL _
 |b::t=>by
  have ih:=AR t;unfold ej
  grind
inductive OX where
 |ok (l:List bB) (end_:Nat)
 |bad (at_:Nat) (e:Int)
 deriving DecidableEq
inductive Zi where
 |last (s:bB) (rest:List UInt8)
 |more (s:bB) (rest:List UInt8)
 |short
 |form (behind:Nat)
def jR(first:Bool):List UInt8->Zi
 |[]=>.short
 |[x]=>if x=255 then .short else .form 0
 |x::m::t=>
  if x≠255 then .form 0
  else if(first !=decide (m=216))||!(iG m.toNat||jy m.toNat) then .form 0
  else if m=217 then .last ⟨217,[],[]⟩ t
  else if m=216 then .more ⟨216,[],[]⟩ t
  else match t with
   |a::b::_=>
    let n:=a.toNat*256+b.toNat
    if n<2 then .form 2
    else if t.length<n then .short
    else
     let r:=t.drop n
     let k:=if m=218 then ej r else 0
     .more ⟨m.toNat,(t.drop 2).take (n -2),r.take k⟩ (r.drop k)
   |_=>.short
def kg(L:Nat):Nat->Bool->List UInt8->OX
 |0,_,_=>.bad 0 0
 |f+1,first,r=>match jR first r with
  | .short=>.bad L 3
  | .form k=>.bad (L -r.length+k) 2
  | .last s t=>.ok [s] (L -t.length)
  | .more s t=>match kg L f false t with
   | .ok l e=>.ok (s::l) e
   |x=>x
def ofM(b:List UInt8):OX:=kg b.length (b.length+1) true b
def lu(s:bB):Bool:=jy s.bR&&decide (s.data.length<=65533)&&(s.scan.isEmpty||(decide (s.bR=218)&&decide (ej s.scan=s.scan.length)))
def kC(s:bB)(m:Int):Bool:=decide (s.bR=m)&&s.data.isEmpty&&s.scan.isEmpty
def iz:List bB->Bool
 |[]=>false
 |[s]=>kC s 217
 |s::t=>lu s&&iz t
def kK:List bB->Bool
 |[]=>false
 |s::t=>kC s 216&&iz t
def cP(s:bB):List UInt8:=
 if iG s.bR then[255,UInt8.ofNat s.bR.toNat]
 else[255,UInt8.ofNat s.bR.toNat,UInt8.ofNat ((s.data.length+2)/256),UInt8.ofNat ((s.data.length+2)%256)]++s.data++s.scan
def cJ(l:List bB):List UInt8:=l.flatMap cP
theorem kR(s:bB)(l:List bB):cJ (s::l)=cP s++cJ l:=rfl
theorem JZ:∀{l:List bB},iz l=true->∃(m:UInt8)(t:List UInt8),cJ l=255::m::t/\m≠0/\nt m.toNat=false
 |[],h=>by cases h
 |s::t,h=>by
  have key:(192<=s.bR/\s.bR<=254/\nt s.bR=false):=by
   cases t with
   |nil=>simp[iz,kC] at h;rw[h.1.1];decide
   |cons s' t=>simp[iz,lu,jy,bq] at h;exact⟨h.1.1.1.1.1.1,h.1.1.1.1.1.2,h.1.1.1.1.2⟩
  obtain⟨k1,k2,k3⟩:=key;have hm:((UInt8.ofNat s.bR.toNat).toNat:Int)=s.bR:=by rw[qW];omega
  refine⟨UInt8.ofNat s.bR.toNat,?_⟩;have e:∃t',cP s=255::UInt8.ofNat s.bR.toNat::t':=by unfold cP;split<;>simp_all
  obtain⟨t',e⟩:=e;refine⟨t'++cJ t,by rw[kR,e];rfl,?_,by rw[hm];exact k3⟩;intro h0;rw[h0] at hm;simp at hm;omega
theorem EP:∀(l:List UInt8)(m:UInt8)(t:List UInt8),ej l=l.length->m≠0->nt m.toNat=false->ej (l++255::m::t)=l.length
 |[],m,t,_,h1,h2=>by unfold ej;simp_all
 |b::l,m,t,h,h1,h2=>by
  have hl:ej l=l.length/\(b=255->∃c r,l=c::r/\¬(c≠0/\nt c.toNat=false)):=by
   unfold ej at h
   grind
  have ih:=EP l m t hl.1 h1 h2;rw[eV];unfold ej
  grind
theorem ah0(x:List UInt8){s:bB}(h:kC s 217=true):jR false (cP s++x)=.last s x:=by obtain⟨m,d,c⟩:=s;simp[kC] at h;obtain⟨⟨rfl,rfl⟩,rfl⟩:=h;rfl
theorem Wl(x:List UInt8){s:bB}(h:kC s 216=true):jR true (cP s++x)=.more s x:=by obtain⟨m,d,c⟩:=s;simp[kC] at h;obtain⟨⟨rfl,rfl⟩,rfl⟩:=h;rfl
theorem ah1{s:bB}(h:lu s=true)(m:UInt8)(t:List UInt8)(h1:m≠0)(h2:nt m.toNat=false):jR false (cP s++255::m::t)=.more s (255::m::t):=by
 obtain⟨k,d,c⟩:=s;simp[lu,jy,bq,tN,qS,List.isEmpty_iff] at h;obtain⟨⟨⟨⟨⟨a1,a2⟩,a3⟩,a4⟩,a5⟩,a6⟩:=h;have hm:((UInt8.ofNat k.toNat).toNat:Int)=k:=by rw[qW];omega
 have n216:UInt8.ofNat k.toNat≠216:=by intro e;rw[e] at hm;rw[<-hm] at a4;exact absurd a4 (by decide)
 have n217:UInt8.ofNat k.toNat≠217:=by intro e;rw[e] at hm;rw[<-hm] at a4;exact absurd a4 (by decide)
 unfold cP;rw[ar (by simp[a4])];simp;dsimp only[jR];rw[ar (by simp)];have hh:jy ((UInt8.ofNat k.toNat).toNat:Int)=true:=by rw[hm];simp[jy,a1,a2,a3,a4]
 rw[(show((false !=decide (UInt8.ofNat k.toNat=216))||!(iG ((UInt8.ofNat k.toNat).toNat:Int)||jy ((UInt8.ofNat k.toNat).toNat:Int)))=false from by rw[hh,fH n216];simp),ar (by simp),ar n217,ar n216];have hn:(UInt8.ofNat ((d.length+2)/256)).toNat*256+(UInt8.ofNat ((d.length+2)%256)).toNat=d.length+2:=by rw[qW,qW];omega
 rw[hn,ar (by omega),ar (by simp)];have e1:(UInt8.ofNat ((d.length+2)/256)::UInt8.ofNat ((d.length+2)%256)::(d++(c++255::m::t))).drop (d.length+2)=c++255::m::t:=by simp
 rw[e1];have e2:(if UInt8.ofNat k.toNat=218 then ej (c++255::m::t) else 0)=c.length:=by
  rcases a6 with rfl|⟨a6,a7⟩
  ·split
   ·exact EP [] m t rfl h1 h2
   ·rfl
  ·rw[az (by rw[a6];rfl),EP c m t a7 h1 h2]
 rw[e2];simp;omega
theorem Zc{l:List bB}(h:iz l=true):l.length<=(cJ l).length:=by
 induction l with
 |nil=>simp
 |cons s t ih=>
  rw[kR,aP,cm];have:1<=(cP s).length:=by unfold cP;split<;>simp<;>omega
  cases t with
  |nil=>grind
  |cons s' t=>have:=ih (by simp[iz] at h;exact h.2);omega
theorem SM(L:Nat)(x:List UInt8):∀(l:List bB)(f:Nat),iz l=true->l.length<f->kg L f false (cJ l++x)=.ok l (L -x.length)
 |[],_,h,_=>by cases h
 |[s],f+1,h,_=>by
  have:cJ [s]=cP s:=by simp[cJ]
  rw[this];unfold kg;rw[ah0 x h]
 |s::s'::t,f+1,h,hf=>by have h':=((bq _ _).mp h).2;obtain⟨m,u,e,h1,h2⟩:=JZ h';have ih:=SM L x (s'::t) f h' (by grind);rw[kR,dO];unfold kg;rw[e] at ih⊢;rw[eV,eV] at ih⊢;rw[ah1 (((bq _ _).mp h).1) m (u++x) h1 h2];simp_all
 |_::_,0,_,hf=>by grind
theorem acF{l:List bB}(h:kK l=true)(x:List UInt8):ofM (cJ l++x)=.ok l (cJ l).length:=by
 cases l with
 |nil=>cases h
 |cons s t=>
  simp[kK] at h;unfold ofM;rw[kR,dO];unfold kg;rw[Wl _ h.1];have hl:t.length<(cP s++(cJ t++x)).length:=by
   have:=Zc h.2;have:1<=(cP s).length:=by unfold cP;split<;>simp<;>omega
   grind
  simp only[SM _ x t _ h.2 hl]
  grind
theorem VM:∀l:List UInt8,ej l=l.length->ej (l++[255])=l.length
 |[],_=>rfl
 |b::l,h=>by
  have hl:ej l=l.length/\(b=255->∃c r,l=c::r/\¬(c≠0/\nt c.toNat=false)):=by
   unfold ej at h;have:=AR l
   grind
  have ih:=VM l hl.1;rw[eV];unfold ej
  grind
theorem ah2{s:bB}(h:lu s=true)(x:List UInt8)(hx:∀c,ej c=c.length->ej (c++x)=c.length):jR false (cP s++x)=.more s x:=by
 obtain⟨k,d,c⟩:=s;simp[lu,jy,bq,tN,qS,List.isEmpty_iff] at h;obtain⟨⟨⟨⟨⟨a1,a2⟩,a3⟩,a4⟩,a5⟩,a6⟩:=h;have hm:((UInt8.ofNat k.toNat).toNat:Int)=k:=by rw[qW];omega
 have n216:UInt8.ofNat k.toNat≠216:=by intro e;rw[e] at hm;rw[<-hm] at a4;exact absurd a4 (by decide)
 have n217:UInt8.ofNat k.toNat≠217:=by intro e;rw[e] at hm;rw[<-hm] at a4;exact absurd a4 (by decide)
 unfold cP;rw[ar (by simp[a4])];simp;dsimp only[jR];rw[ar (by simp)];have hh:jy ((UInt8.ofNat k.toNat).toNat:Int)=true:=by rw[hm];simp[jy,a1,a2,a3,a4]
 rw[(show((false !=decide (UInt8.ofNat k.toNat=216))||!(iG ((UInt8.ofNat k.toNat).toNat:Int)||jy ((UInt8.ofNat k.toNat).toNat:Int)))=false from by rw[hh,fH n216];simp),ar (by simp),ar n217,ar n216];have hn:(UInt8.ofNat ((d.length+2)/256)).toNat*256+(UInt8.ofNat ((d.length+2)%256)).toNat=d.length+2:=by rw[qW,qW];omega
 rw[hn,ar (by omega),ar (by simp)];have e1:(UInt8.ofNat ((d.length+2)/256)::UInt8.ofNat ((d.length+2)%256)::(d++(c++x))).drop (d.length+2)=c++x:=by simp
 rw[e1];have e2:(if UInt8.ofNat k.toNat=218 then ej (c++x) else 0)=c.length:=by
  rcases a6 with rfl|⟨a6,a7⟩
  ·split
   ·exact hx [] rfl
   ·rfl
  ·rw[az (by rw[a6];rfl),hx c a7]
 rw[e2];simp;omega
theorem Zd{l:List bB}(h:iz l=true):cJ l≠[]:=by obtain⟨m,t,e,_⟩:=JZ h;rw[e];exact List.cons_ne_nil _ _
theorem SN(L:Nat):∀(l:List bB)(f:Nat),iz l=true->l.length<f->kg L f false (cJ l).dropLast=.bad L 3
 |[],_,h,_=>by cases h
 |[s],f+1,h,_=>by obtain⟨m,d,c⟩:=s;simp[iz,kC] at h;obtain⟨⟨rfl,rfl⟩,rfl⟩:=h;rfl
 |s::s'::t,f+1,h,hf=>by
  have h':=((bq _ _).mp h).2;obtain⟨m,u,e,h1,h2⟩:=JZ h';have ih:=SN L (s'::t) f h' (by simp at hf⊢;omega);rw[kR,List.dropLast_append_of_ne_nil (Zd h')];unfold kg;have hx:∀c,ej c=c.length->ej (c++(cJ (s'::t)).dropLast)=c.length:=by
   intro c hc;rw[e];cases u with
   |nil=>exact VM c hc
   |cons y u=>exact EP c m _ hc h1 h2
  rw[ah2 (((bq _ _).mp h).1) _ hx];simp only;rw[ih]
 |_::_,0,_,hf=>by simp at hf
theorem acG{l:List bB}(h:kK l=true):ofM (cJ l).dropLast=.bad (cJ l).dropLast.length 3:=by
 cases l with
 |nil=>cases h
 |cons s t=>
  simp[kK] at h;have cu:=Zd h.2;have hl:t.length<=(cJ t).length:=Zc h.2;have hs:(cP s).length=2:=by obtain⟨m,d,c⟩:=s;have:=h.1;simp[kC] at this;obtain⟨⟨rfl,rfl⟩,rfl⟩:=this;rfl
  unfold ofM;rw[kR,List.dropLast_append_of_ne_nil cu];unfold kg;rw[Wl _ h.1];simp only;rw[SN _ t _ h.2 (by rw[aP,List.length_dropLast,hs];omega)]
def gU(l:List UInt8):Nat:=l.foldl (λn b=>n*256+b.toNat) 0
def gG(l:List UInt8)(at_ size:Nat)(order:Int):List UInt8:=
 if order=1 then((l.drop at_).take size).reverse else(l.drop at_).take size
theorem Dz(l:List UInt8)(b:UInt8):gU (l++[b])=gU l*256+b.toNat:=by unfold gU;rw[List.foldl_append];rfl
def BY(s:Int):Bool:=s==1||s==2||s==4
def fQ(s o:Int):Bool:=BY s&&(o==1||o==2)
def oH(l:List UInt8)(at_ size order:Int):Option Int:=
 if fQ size order=true/\0<=at_/\at_<=(l.length:Int) -size then some (gU (gG l at_.toNat size.toNat order)) else none
def eI(n:Nat):Nat->List UInt8
 |0=>[]
 |s+1=>eI (n/256) s++[UInt8.ofNat (n%256)]
theorem oC(s:Nat):∀n,(eI n s).length=s:=by
 induction s with
 |zero=>intro n;rfl
 |succ s ih=>intro n;simp[eI,ih]
def aW(n s:Nat)(order:Int):List UInt8:=if order=1 then(eI n s).reverse else eI n s
theorem ef(n s:Nat)(o:Int):(aW n s o).length=s:=by unfold aW;split<;>simp[oC]
theorem wI{l:List UInt8}{p s:Nat}{order:Int}(hs:s=1\/s=2\/s=4)(ho:order=1\/order=2)(hp:p+s<=l.length):oH l p s order=some (gU (gG l p s order):Int):=by unfold oH;rw[az ⟨by rcases hs with rfl|rfl|rfl<;>rcases ho with rfl|rfl<;>rfl,by omega,by omega⟩];simp
def aI(n:Nat):Nat:=n+n%2
def oP(n:Int)(s:Nat)(order:Int):Option (List UInt8):=if 0<=n/\n<((256^s:Nat):Int) then some (aW n.toNat s order) else none
def ib(l:List UInt8)(s m:Nat):List UInt8:=
 (List.range l.length).map λi=>if i<m then(l[i -i%s+(s -1 -i%s)]?).getD 0 else(l[i]?).getD 0
theorem oU(l:List UInt8)(s m:Nat):(ib l s m).length=l.length:=by simp[ib]
theorem B4(l:List UInt8)(s m i:Nat)(h:i<l.length):(ib l s m)[i]? =some (if i<m then(l[i -i%s+(s -1 -i%s)]?).getD 0 else(l[i]?).getD 0):=by simp[ib,h]
def iM(l:List UInt8)(s:Nat)(order:Int):List UInt8:=if order=1 then ib l s l.length else l
theorem vJ(l:List UInt8)(s:Nat)(o:Int):(iM l s o).length=l.length:=by unfold iM;split<;>simp[oU]
def kindOf(t:Int):Int×Int×Int:=
 if t=1\/t=2\/t=7 then(1,1,1) else if t=3 then(2,2,1) else if t=4 then(4,4,1) else if t=5 then(8,4,3) else if t=6 then(1,1,2) else if t=8 then(2,2,2)
 else if t=9 then(4,4,2) else if t=10 then(8,4,4) else if t=11 then(4,4,5) else if t=12 then(8,8,5) else(0,0,0)
def zj(l:List UInt8):Bool:=(List.range l.length).all λi=>((l[i]?).getD 0==0)==(i+1==l.length)
def ec(ty aA:Int)(l:List UInt8):Bool:=
 decide ((kindOf ty).1 ≠0/\1<=aA/\aA<=65536/\(l.length:Int)=aA*(kindOf ty).1)&&(ty !=2||zj l)
theorem Di{t:Int}(h:t<1\/12<t):kindOf t=(0,0,0):=by
 unfold kindOf
 repeat(rw[ar (by omega)])
theorem JM(t:Int)(h:(kindOf t).1 ≠0):∃s m:Nat,(kindOf t).2.1 =(s:Int)/\(kindOf t).1 =((m*s:Nat):Int)/\(s=1\/s=2\/s=4\/s=8):=by
 by_cases o:t<1\/12<t
 ·rw[Di o] at h;exact absurd rfl h
 ·have hc:t=1\/t=2\/t=3\/t=4\/t=5\/t=6\/t=7\/t=8\/t=9\/t=10\/t=11\/t=12:=by omega
  rcases hc with rfl|rfl|rfl|rfl|rfl|rfl|rfl|rfl|rfl|rfl|rfl|rfl
  ·exact⟨1,1,rfl,rfl,by omega⟩
  ·exact⟨1,1,rfl,rfl,by omega⟩
  ·exact⟨2,1,rfl,rfl,by omega⟩
  ·exact⟨4,1,rfl,rfl,by omega⟩
  ·exact⟨4,2,rfl,rfl,by omega⟩
  ·exact⟨1,1,rfl,rfl,by omega⟩
  ·exact⟨1,1,rfl,rfl,by omega⟩
  ·exact⟨2,1,rfl,rfl,by omega⟩
  ·exact⟨4,1,rfl,rfl,by omega⟩
  ·exact⟨4,2,rfl,rfl,by omega⟩
  ·exact⟨4,1,rfl,rfl,by omega⟩
  ·exact⟨8,1,rfl,rfl,by omega⟩
theorem Ss{ty aA:Int}{l:List UInt8}(h:ec ty aA l=true):∃s q:Nat,(kindOf ty).2.1 =(s:Int)/\l.length=q*s/\(s=1\/s=2\/s=4\/s=8):=by
 unfold ec at h;rw[bq,bX] at h;obtain⟨⟨h1,h2,h3,h4⟩,-⟩:=h;obtain⟨s,m,e1,e2,e3⟩:=JM ty h1;refine⟨s,aA.toNat*m,e1,?_,e3⟩;rw[e2] at h4;have:(l.length:Int)=((aA.toNat*m*s:Nat):Int):=by
  rw[h4,Nat.mul_assoc]
  push_cast
  rw[mj (by omega)]
 omega
theorem J7(s:Nat):∀n,n<256^s->gU (eI n s)=n:=by
 induction s with
 |zero=>intro n h;simp at h;subst h;rfl
 |succ s ih=>intro n h;show gU (eI (n/256) s++[UInt8.ofNat (n%256)])=n;rw[Dz,ih (n/256) (by rw[Nat.pow_succ] at h;omega),qW];omega
theorem UF(pre l post:List UInt8)(s:Nat)(order:Int)(hl:l.length=s):gG (pre++(l++post)) pre.length s order=if order=1 then l.reverse else l:=by unfold gG;rw[List.drop_left,<-hl,List.take_left]
theorem acC(pre post:List UInt8)(n s:Nat)(order:Int)(h:n<256^s):gU (gG (pre++(aW n s order++post)) pre.length s order)=n:=by
 rw[UF _ _ _ _ _ (ef n s order)];unfold aW;split
 ·rw[List.reverse_reverse,J7 s n h]
 ·exact J7 s n h
theorem get_at(pre post:List UInt8)(n s:Nat)(order:Int)(hs:s=1\/s=2\/s=4)(ho:order=1\/order=2)(h:n<256^s):oH (pre++(aW n s order++post)) pre.length s order=some (n:Int):=by rw[wI hs ho (by simp[ef]),acC _ _ _ _ _ h]
theorem J8:∀(l:List UInt8),gU l<256^l.length:=by
 intro l;induction h:l.length generalizing l with
 |zero=>rw[oX] at h;subst h;decide
 |succ k ih=>
  have cu:l≠[]:=by intro e;subst e;simp at h
  have e:=List.dropLast_concat_getLast cu;rw[<-e,Dz];have:=ih l.dropLast (by simp[h]);have hb:=(l.getLast cu).toNat_lt;rw[Nat.pow_succ];omega
theorem Pv:∀(k:Nat)(l:List UInt8),l.length=k->eI (gU l) k=l:=by
 intro k;induction k with
 |zero=>intro l h;rw[oX] at h;subst h;rfl
 |succ k ih=>
  intro l h;have cu:l≠[]:=by intro e;subst e;simp at h
  have e:=List.dropLast_concat_getLast cu;have hb:=(l.getLast cu).toNat_lt
  conv=>lhs;rw[<-e,Dz]
  show eI ((gU l.dropLast*256+(l.getLast cu).toNat)/256) k++[UInt8.ofNat ((gU l.dropLast*256+(l.getLast cu).toNat)%256)]=l;have e1:(gU l.dropLast*256+(l.getLast cu).toNat)/256=gU l.dropLast:=by omega
  have e2:(gU l.dropLast*256+(l.getLast cu).toNat)%256=(l.getLast cu).toNat:=by omega
  rw[e1,e2,ih _ (by simp[h]),UInt8.ofNat_toNat];exact e
theorem agL(l:List UInt8)(s:Nat)(order:Int)(h:l.length=s):aW (gU (if order=1 then l.reverse else l)) s order=l:=by
 unfold aW;split
 ·rw[Pv s _ (by simp[h]),List.reverse_reverse]
 ·exact Pv s _ h
theorem akZ{s n i:Nat}(hs:0<s)(hd:n%s=0)(hi:i<n):i -i%s+(s -1 -i%s)<n/\(i -i%s+(s -1 -i%s)) -(i -i%s+(s -1 -i%s))%s+(s -1 -(i -i%s+(s -1 -i%s))%s)=i:=by
 have hm:=Nat.mod_lt i hs;obtain⟨q,hq⟩:∃q,n=s*q:=⟨n/s,by have:=Nat.div_add_mod n s;omega⟩;have hdm:=Nat.div_add_mod i s;obtain⟨a,ha⟩:∃a,i/s=a:=⟨_,rfl⟩;obtain⟨r,hr⟩:∃r,i%s=r:=⟨_,rfl⟩;rw[ha,hr] at hdm;rw[hr] at hm;rw[hr];have hi':i=s*a+r:=by omega
 have haq:a<q:=by
  have:s*a<s*q:=by omega
  exact Nat.lt_of_mul_lt_mul_left this
 have hle:s*(a+1)<=s*q:=Nat.mul_le_mul_left s haq;rw[Nat.mul_add,gD] at hle;have e:i -r+(s -1 -r)=s*a+(s -1 -r):=by omega
 have e2:(s*a+(s -1 -r))%s=s -1 -r:=by rw[Nat.mul_add_mod,qa (by omega)]
 rw[e,e2];omega
theorem ak0(l:List UInt8)(s:Nat)(order:Int)(hs:0<s)(hd:l.length%s=0):iM (iM l s order) s order=l:=by
 unfold iM;split
 ·apply qU;intro i;rcases iE i l.length with h|h
  ·obtain⟨h1,h2⟩:=akZ hs hd h;rw[B4 _ _ _ _ (by rw[oU];exact h),oU,az h,B4 _ _ _ _ h1,az h1,h2,cN h];rfl
  ·rw[kT (by rw[oU,oU];exact h),kT h]
 ·rfl
def oO(ty aA:Int)(b:List UInt8)(order:Int):Option (List UInt8):=
 if(kindOf ty).1 ≠0/\1<=aA/\aA<=65536/\aA*(kindOf ty).1 <=(b.length:Int)/\ec ty aA (iM (b.take (aA*(kindOf ty).1).toNat) (kindOf ty).2.1.toNat order)=true then
  some (iM (b.take (aA*(kindOf ty).1).toNat) (kindOf ty).2.1.toNat order) else none
theorem uO{ty aA:Int}{l:List UInt8}(h:ec ty aA l=true):(kindOf ty).1 ≠0/\1<=aA/\aA<=65536/\(l.length:Int)=aA*(kindOf ty).1 :=by unfold ec at h;rw[bq,bX] at h;exact h.1
theorem SJ{ty aA order:Int}{l:List UInt8}(h:ec ty aA l=true)(post:List UInt8):oO ty aA (iM l (kindOf ty).2.1.toNat order++post) order=some l:=by
 obtain⟨h1,h2,h3,h4⟩:=uO h;obtain⟨s,q,e1,e2,e3⟩:=Ss h;have hs:(kindOf ty).2.1.toNat=s:=by rw[e1];simp
 have hn:(aA*(kindOf ty).1).toNat=l.length:=by omega
 have ht:(iM l (kindOf ty).2.1.toNat order++post).take (aA*(kindOf ty).1).toNat=iM l (kindOf ty).2.1.toNat order:=by
  rw[hn]
  conv=>lhs;rw[<-vJ l (kindOf ty).2.1.toNat order]
  exact List.take_left
 have hb:iM (iM l (kindOf ty).2.1.toNat order) (kindOf ty).2.1.toNat order=l:=by rw[hs];exact ak0 l s order (by omega) (by rw[e2];exact Nat.mul_mod_left q s)
 unfold oO;rw[ht,hb,az ⟨h1,h2,h3,by simp[vJ];omega,h⟩]
structure aJ where
 tag:Int
 ty:Int
 aA:Int
 data:List UInt8
 deriving DecidableEq
mutual
inductive aT where
 |mk (tags:List aJ) (subs:cA) (blob:List UInt8)
inductive cA where
 |nil
 |cons (tag:Int) (d:aT) (r:cA)
end
structure mn where
 order:Int
 dE:List aT
structure im where
 tag:Int
 shape:Int
structure aZ where
 bJ:List im
 at_:Int
 cx:Int
 next:Int
structure bk where
 tag:Int
 ty:Int
 aA:Int
 slot:Nat
 deriving DecidableEq
structure bn where
 nz:Int
 dir:Int
 tag:Int
 at_:Nat
 cx:Nat
 deriving DecidableEq
def iU(ty aA:Int):Int:=if aA<1\/65536<aA then 0 else aA*(kindOf ty).1
def bK(ty aA:Int):Nat:=if 4<iU ty aA then(iU ty aA).toNat else 0
def bY:cA->Nat
 | .nil=>0
 | .cons _ _ r=>bY r+1
def bE:aT->Nat
 | .mk tags subs blob=>tags.length+bY subs+(if blob.length=0 then 0 else 2)
def bZ(e:Nat):List aJ->Nat
 |[]=>e
 |t::ts=>if bK t.ty t.aA=0 then bZ e ts else bZ (aI e+bK t.ty t.aA) ts
mutual
def bt(e:Nat):aT->Nat
 | .mk tags subs blob=>
  if blob.length=0 then ea (bZ (aI e+(6+12*bE (.mk tags subs blob))) tags) subs
  else aI (ea (bZ (aI e+(6+12*bE (.mk tags subs blob))) tags) subs)+blob.length
def ea(e:Nat):cA->Nat
 | .nil=>e
 | .cons _ d r=>ea (bt e d) r
end
mutual
def dw:aT->Nat
 | .mk _ subs _=>gX subs+1
def gX:cA->Nat
 | .nil=>0
 | .cons _ d r=>dw d+gX r
end
def cU(no:Nat)(e:Nat):List aJ->List bn
 |[]=>[]
 |t::ts=>if bK t.ty t.aA=0 then cU no e ts else⟨3,no,t.tag,aI e,bK t.ty t.aA⟩::cU no (aI e+bK t.ty t.aA) ts
mutual
def fR(no:Nat)(e:Nat):aT->List bn
 | .mk tags subs blob=>
  ⟨2,no,0,aI e,6+12*bE (.mk tags subs blob)⟩::
   (cU no (aI e+(6+12*bE (.mk tags subs blob))) tags++
    (kv (no+1) (bZ (aI e+(6+12*bE (.mk tags subs blob))) tags) subs++
     (if blob.length=0 then[] else[⟨4,no,0,aI (ea (bZ (aI e+(6+12*bE (.mk tags subs blob))) tags) subs),blob.length⟩])))
def kv(no:Nat)(e:Nat):cA->List bn
 | .nil=>[]
 | .cons _ d r=>fR no e d++kv (no+dw d) (bt e d) r
end
def kQ(order:Int)(t:aJ):List UInt8:=iM t.data (kindOf t.ty).2.1.toNat order
def oJ(order:Int)(t:aJ):Nat:=gU (gG (kQ order t++List.replicate (4 -t.data.length) 0) 0 4 order)
def ee(order:Int)(e:Nat):List aJ->List bk
 |[]=>[]
 |t::ts=>if bK t.ty t.aA=0 then⟨t.tag,t.ty,t.aA,oJ order t⟩::ee order e ts else⟨t.tag,t.ty,t.aA,aI e⟩::ee order (aI e+bK t.ty t.aA) ts
def iw(e:Nat):cA->List bk
 | .nil=>[]
 | .cons tag d r=>⟨tag,4,1,aI e⟩::iw (bt e d) r
def gR(S:aZ)(e:Nat)(blob:List UInt8):List bk:=
 if blob.length=0 then[] else[⟨S.at_,4,1,aI e⟩,⟨S.cx,4,1,blob.length⟩]
def jP(x:bk):List bk->List bk
 |[]=>[x]
 |y::l=>if x.tag<=y.tag then x::y::l else y::jP x l
def gw:List bk->List bk
 |[]=>[]
 |x::l=>jP x (gw l)
def iR(order:Int)(x:bk):List UInt8:=aW x.tag.toNat 2 order++(aW x.ty.toNat 2 order++(aW x.aA.toNat 4 order++aW x.slot 4 order))
def kG(order:Int)(l:List bk)(next:Nat):List UInt8:=aW l.length 2 order++(l.flatMap (iR order)++aW next 4 order)
def dN(e:Nat):List UInt8:=if e%2=0 then[] else[0]
def gk(order:Int)(e:Nat):List aJ->List UInt8
 |[]=>[]
 |t::ts=>if bK t.ty t.aA=0 then gk order e ts else dN e++(kQ order t++gk order (aI e+bK t.ty t.aA) ts)
def SE:aZ:=⟨[],0,0,-1⟩
def aM(sh:List aZ)(s:Nat):aZ:=(sh[s]?).getD SE
def lk(S:aZ)(tag:Int):Option Nat:=(S.bJ.find? λx=>x.tag==tag).map λx=>x.shape.toNat
mutual
def jb(order:Int)(sh:List aZ)(s:Nat)(next:Nat)(e:Nat):aT->List UInt8
 | .mk tags subs blob=>
  dN e++(kG order (gw (ee order (aI e+(6+12*bE (.mk tags subs blob))) tags++
   (iw (bZ (aI e+(6+12*bE (.mk tags subs blob))) tags) subs++
    gR (aM sh s) (ea (bZ (aI e+(6+12*bE (.mk tags subs blob))) tags) subs) blob))) next++
   (gk order (aI e+(6+12*bE (.mk tags subs blob))) tags++
    (jI order sh (aM sh s) (bZ (aI e+(6+12*bE (.mk tags subs blob))) tags) subs++
     (if blob.length=0 then[] else dN (ea (bZ (aI e+(6+12*bE (.mk tags subs blob))) tags) subs)++blob))))
def jI(order:Int)(sh:List aZ)(S:aZ)(e:Nat):cA->List UInt8
 | .nil=>[]
 | .cons tag d r=>jb order sh ((lk S tag).getD 0) 0 e d++jI order sh S (bt e d) r
end
def fE:List aJ->Bool
 |[]=>true
 |[_]=>true
 |a::b::l=>decide (a.tag<b.tag)&&fE (b::l)
def kO:cA->List Int
 | .nil=>[]
 | .cons tag _ r=>tag::kO r
def nu:List Int->Bool
 |[]=>true
 |[_]=>true
 |a::b::l=>decide (a<b)&&nu (b::l)
def fq(S:aZ)(tag:Int):Bool:=decide (S.at_≠0)&&(decide (tag=S.at_)||decide (tag=S.cx))
def fj(S:aZ)(tag:Int):Bool:=S.bJ.any λx=>x.tag==tag
def eB(S:aZ)(tag:Int):Bool:=fj S tag||fq S tag
def mH(tag:Int):Bool:=decide (0<=tag/\tag<65536)
def jU(S:aZ)(tags:List aJ):Bool:=fE tags&&tags.all λt=>mH t.tag&&(!eB S t.tag&&ec t.ty t.aA t.data)
mutual
def cD(sh:List aZ)(s:Nat):aT->Bool
 | .mk tags subs blob=>decide (1<=bE (.mk tags subs blob)/\bE (.mk tags subs blob)<=65535)&&(jU (aM sh s) tags&&
  ((decide (blob.length=0)||decide ((aM sh s).at_≠0))&&(nu (kO subs)&&iS sh (aM sh s) subs)))
def iS(sh:List aZ)(S:aZ):cA->Bool
 | .nil=>true
 | .cons tag d r=>fj S tag&&(cD sh ((lk S tag).getD 0) d&&iS sh S r)
end
theorem mU(e:Nat):e<=aI e:=by unfold aI;omega
theorem IY(e:Nat):aI e%2=0:=by unfold aI;omega
theorem pG(e:Nat):e+(dN e).length=aI e:=by unfold dN aI;split<;>simp<;>omega
theorem qf:∀(ts:List aJ)(e:Nat),e<=bZ e ts
 |[],e=>aL _
 |t::ts,e=>by
  unfold bZ;split
  ·exact qf ts e
  ·have:=qf ts (aI e+bK t.ty t.aA);have:=mU e;omega
mutual
theorem zh:∀(d:aT)(e:Nat),e<=bt e d
 | .mk tags subs blob,e=>by
  unfold bt;have h1:=mU e;have h2:=qf tags (aI e+(6+12*bE (.mk tags subs blob)));have h3:=sF subs (bZ (aI e+(6+12*bE (.mk tags subs blob))) tags);have h4:=mU (ea (bZ (aI e+(6+12*bE (.mk tags subs blob))) tags) subs)
  grind
theorem sF:∀(r:cA)(e:Nat),e<=ea e r
 | .nil,e=>by unfold ea;exact aL _
 | .cons _ d r,e=>by unfold ea;have h1:=zh d e;have h2:=sF r (bt e d);omega
end
theorem Rn(x:bk):∀l,(jP x l).length=l.length+1
 |[]=>rfl
 |y::l=>by unfold jP;split<;>simp[Rn x l]
theorem zJ:∀l,(gw l).length=l.length
 |[]=>rfl
 |x::l=>by rw[gw,Rn,zJ l];rfl
theorem sH(order:Int):∀(ts:List aJ)(e:Nat),(ee order e ts).length=ts.length
 |[],_=>rfl
 |t::ts,e=>by unfold ee;split<;>simp[sH order ts]
theorem zm:∀(r:cA)(e:Nat),(iw e r).length=bY r
 | .nil,_=>rfl
 | .cons _ d r,e=>by unfold iw bY;simp[zm r]
theorem CW(S:aZ)(e:Nat)(blob:List UInt8):(gR S e blob).length=if blob.length=0 then 0 else 2:=by unfold gR;split<;>rfl
theorem IN(order:Int)(x:bk):(iR order x).length=12:=by simp[iR,ef]
theorem wE(order:Int):∀l:List bk,(l.flatMap (iR order)).length=12*l.length
 |[]=>rfl
 |x::l=>by rw[dL,aP,IN,wE order l,cm];omega
theorem P3(order:Int)(l:List bk)(next:Nat):(kG order l next).length=6+12*l.length:=by unfold kG;rw[aP,aP,ef,wE,ef];omega
theorem xd{t:aJ}(h:ec t.ty t.aA t.data=true):bK t.ty t.aA=if t.data.length<=4 then 0 else t.data.length:=by
 obtain⟨h1,h2,h3,h4⟩:=uO h;have hl:iU t.ty t.aA=(t.data.length:Int):=by unfold iU;rw[ar (by omega),h4]
 unfold bK
 grind
theorem yD(order:Int)(t:aJ):(kQ order t).length=t.data.length:=vJ _ _ _
theorem Hg(order:Int):∀(ts:List aJ)(e:Nat),(∀t∈ts,ec t.ty t.aA t.data=true)->e+(gk order e ts).length=bZ e ts
 |[],e,_=>rfl
 |t::ts,e,h=>by
  have ih:=λe=>Hg order ts e λt ht=>h t (by grind);unfold gk bZ;split
  ·grind
  ·rename_i hn;have:=ih (aI e+bK t.ty t.aA);have hp:=pG e;rw[aP,aP,yD];have:bK t.ty t.aA=t.data.length:=by rw[(xd (h t (by simp)))] at hn⊢;split<;>simp_all
   omega
mutual
theorem su(order:Int)(sh:List aZ):∀(d:aT)(s next e:Nat),cD sh s d=true->e+(jb order sh s next e d).length=bt e d
 | .mk tags subs blob,s,next,e,h=>by
  simp[cD,jU,ij] at h;obtain⟨h1,⟨h2,h3⟩,h4,h5,h6⟩:=h;have hp:=pG e;have hv:=Hg order tags (aI e+(6+12*bE (.mk tags subs blob))) λt ht=>(h3 t ht).2.2;have hs:=Is order sh subs (aM sh s) (bZ (aI e+(6+12*bE (.mk tags subs blob))) tags) h6;have hb:=pG (ea (bZ (aI e+(6+12*bE (.mk tags subs blob))) tags) subs);have hn:(gw (ee order (aI e+(6+12*bE (.mk tags subs blob))) tags++(iw (bZ (aI e+(6+12*bE (.mk tags subs blob))) tags) subs++
   gR (aM sh s) (ea (bZ (aI e+(6+12*bE (.mk tags subs blob))) tags) subs) blob))).length=bE (.mk tags subs blob):=by
   rw[zJ,aP,aP,sH,zm,CW];show _=tags.length+bY subs+(if blob.length=0 then 0 else 2);omega
  unfold jb bt;rw[aP,aP,P3,hn];split<;>grind
theorem Is(order:Int)(sh:List aZ):∀(r:cA)(S:aZ)(e:Nat),iS sh S r=true->e+(jI order sh S e r).length=ea e r
 | .nil,S,e,_=>rfl
 | .cons tag d r,S,e,h=>by simp[iS] at h;have h1:=su order sh d ((lk S tag).getD 0) 0 e h.2.1;have h2:=Is order sh r S (bt e d) h.2.2;unfold jI ea;rw[aP];omega
end
theorem De(x y:bk)(l:List bk):jP x (y::l)=if x.tag<=y.tag then x::y::l else y::jP x l:=rfl
theorem JC{x y:bk}:∀{l:List bk},y∈jP x l↔y=x\/y∈l
 |[]=>by simp[jP]
 |z::l=>by
  unfold jP;split
  ·simp
  ·simp[JC]
   grind
theorem wP{y:bk}:∀{l:List bk},y∈gw l↔y∈l
 |[]=>by simp[gw]
 |x::l=>by rw[gw,JC,wP];simp
def Up:List bk->Prop
 |[]=>True
 |x::l=>(∀y∈l,x.tag<=y.tag)/\Up l
theorem Rr(x:bk):∀{l:List bk},Up l->Up (jP x l)
 |[],_=>⟨λy h=>(by grind),trivial⟩
 |z::l,h=>by
  unfold jP;split
  ·rename_i hz;refine⟨λy hy=>?_,h⟩;rcases cO.1 hy with rfl|hy
   ·grind
   ·have:=h.1 y hy;omega
  ·rename_i hz;refine⟨λy hy=>?_,Rr x h.2⟩;rcases JC.1 hy with rfl|hy
   ·omega
   ·exact h.1 y hy
theorem RB:∀l:List bk,Up (gw l)
 |[]=>trivial
 |x::l=>Rr x (RB l)
def eM:List bk->Bool
 |[]=>true
 |[_]=>true
 |a::b::l=>decide (a.tag<b.tag)&&eM (b::l)
theorem Rm{x:bk}:∀{l:List bk},(∀y∈l,x.tag<=y.tag)->jP x l=x::l
 |[],_=>rfl
 |z::l,h=>by unfold jP;rw[az (h z (by simp))]
theorem Lu:∀{l:List bk},eM l=true->Up l
 |[],_=>trivial
 |[x],_=>⟨λy h=>(by grind),trivial⟩
 |a::b::l,h=>by
  simp[eM] at h;have ih:=Lu h.2;refine⟨λy hy=>?_,ih⟩;rcases cO.1 hy with rfl|hy
  ·omega
  ·have:=ih.1 y hy;omega
theorem Dg:∀{l:List bk},eM l=true->gw l=l
 |[],_=>rfl
 |x::l,h=>by
  have hl:eM l=true:=by
   cases l with
   |nil=>rfl
   |cons b l=>simp[eM] at h;exact h.2
  rw[gw,Dg hl,Rm (Lu h).1]
theorem QC(p:bk->Bool)(x:bk):∀{l:List bk},Up l->(jP x l).filter p=if p x=true then jP x (l.filter p) else l.filter p
 |[],_=>by show[x].filter p=_;rw[jX];rfl
 |z::l,h=>by
  rw[De];by_cases hz:x.tag<=z.tag
  ·rw[az hz,jX];split
   ·rw[Rm];intro y hy;have hy':=(oh.1 hy).1;rcases cO.1 hy' with rfl|hy'
    ·exact hz
    ·have:=h.1 y hy';omega
   ·rfl
  ·rw[ar hz,jX,(QC p x h.2)];by_cases hx:p x=true
   ·rw[jX];split
    ·rw[De,ar hz]
    ·rfl
   ·rw[ar hx,ar hx,jX]
theorem C2(p:bk->Bool):∀l:List bk,(gw l).filter p=gw (l.filter p)
 |[]=>rfl
 |x::l=>by rw[gw,QC p x (RB l),C2 p l,jX];split<;>rfl
theorem Rq{x:bk}:∀{l:List bk},eM l=true->(∀y∈l,y.tag≠x.tag)->eM (jP x l)=true
 |[],_,_=>rfl
 |[z],_,hn=>by
  have:=hn z (by simp)
  unfold jP
  split
  ·simp[eM];omega
  ·simp[jP,eM,jW];omega
 |z::z'::l,h,hn=>by
  have h0:=hn z (by simp)
  simp[eM] at h
  have ih:=Rq (x:=x) h.2 λy hy=>hn y (by simp[hy])
  rw[De]
  split
  ·simp[eM];exact⟨by omega,h⟩
  ·rw[De] at ih⊢
   split
   ·rename_i hz hz'
    rw[az hz'] at ih
    simp[eM] at ih⊢
    exact⟨by omega,ih⟩
   ·rename_i hz hz'
    rw[ar hz'] at ih
    simp[eM]
    exact⟨h.1,ih⟩
def nD:List bk->Prop
 |[]=>True
 |x::l=>(∀y∈l,y.tag≠x.tag)/\nD l
theorem JH:∀{l:List bk},nD l->eM (gw l)=true
 |[],_=>rfl
 |x::l,h=>by exact Rq (JH h.2) λy hy=>h.1 y (wP.1 hy)
theorem yR:∀{l:List bk},eM l=true->nD l
 |[],_=>trivial
 |[x],_=>⟨λy h=>(by grind),trivial⟩
 |a::b::l,h=>by
  simp[eM] at h;refine⟨λy hy=>?_,yR h.2⟩;have:=(Lu h.2).1
  grind
theorem Ic:∀{l k:List bk},nD l->nD k->(∀x∈l,∀y∈k,y.tag≠x.tag)->nD (l++k)
 |[],k,_,hk,_=>hk
 |x::l,k,hl,hk,h=>by
  refine⟨λy hy=>?_,Ic hl.2 hk λx hx=>h x (by grind)⟩;rcases fF.1 hy with hy|hy
  ·exact hl.1 y hy
  grind
def ca(b:List UInt8)(p s:Nat)(order:Int):Nat:=((oH b p s order).getD 0).toNat
theorem nh{b pre post:List UInt8}{n s p:Nat}{order:Int}(e:b=pre++(aW n s order++post))(hp:p=pre.length)(hs:s=1\/s=2\/s=4)(ho:order=1\/order=2)(h:n<256^s):ca b p s order=n:=by unfold ca;rw[e,hp,get_at _ _ _ _ _ hs ho h];simp
def zl(b:List UInt8)(p:Nat)(order:Int):bk:=⟨ca b p 2 order,ca b (p+2) 2 order,ca b (p+4) 4 order,ca b (p+8) 4 order⟩
structure mm(x:bk):Prop where
 tag:0<=x.tag/\x.tag<65536
 ty:0<=x.ty/\x.ty<65536
 aA:0<=x.aA/\x.aA<4294967296
 slot:x.slot<4294967296
theorem aap{b pre post:List UInt8}{p:Nat}{order:Int}{x:bk}(e:b=pre++(iR order x++post))(hp:p=pre.length)(ho:order=1\/order=2)(h:mm x):zl b p order=x:=by
 have e0:b=pre++(aW x.tag.toNat 2 order++(aW x.ty.toNat 2 order++(aW x.aA.toNat 4 order++(aW x.slot 4 order++post)))):=by rw[e];simp[iR]
 have e1:b=(pre++aW x.tag.toNat 2 order)++(aW x.ty.toNat 2 order++(aW x.aA.toNat 4 order++(aW x.slot 4 order++post))):=by rw[e0];simp
 have e2:b=(pre++aW x.tag.toNat 2 order++aW x.ty.toNat 2 order)++(aW x.aA.toNat 4 order++(aW x.slot 4 order++post)):=by rw[e0];simp
 have e3:b=(pre++aW x.tag.toNat 2 order++aW x.ty.toNat 2 order++aW x.aA.toNat 4 order)++(aW x.slot 4 order++post):=by rw[e0];simp
 unfold zl;rw[(nh e0 hp (.inr (.inl rfl)) ho (by have:=h.tag;omega)),(nh (p:=p+2) e1 (by simp[ef,hp]) (.inr (.inl rfl)) ho (by have:=h.ty;omega)),(nh (p:=p+4) e2 (by simp[ef,hp]) (.inr (.inr rfl)) ho (by have:=h.aA;omega)),(nh (p:=p+8) e3 (by simp[ef,hp]) (.inr (.inr rfl)) ho h.slot)];rw[mj h.tag.1,mj h.ty.1,mj h.aA.1]
def jL(b:List UInt8)(order:Int):Nat->Nat->List bk
 |_,0=>[]
 |p,n+1=>zl b p order::jL b order (p+12) n
theorem Qo{b:List UInt8}{order:Int}(ho:order=1\/order=2):∀(l:List bk)(pre post:List UInt8)(p:Nat),b=pre++(l.flatMap (iR order)++post)->p=pre.length->(∀x∈l,mm x)->jL b order p l.length=l
 |[],_,_,_,_,_,_=>rfl
 |x::l,pre,post,p,e,hp,h=>by
  rw[dL,dO] at e;rw[cm,jL,aap e hp ho (h x (by simp))]
  congr 1
  refine Qo ho l (pre++iR order x) post (p+12) (by grind) (by simp[IN,hp]) λy hy=>h y (by grind)
def CI(S:List bn)(at_ cx:Nat):Bool:=S.any λs=>decide (max at_ s.at_<min (at_+cx) (s.at_+s.cx))
def kP(L:Nat)(S:List bn)(x:bn):Except Int (List bn):=
 if x.at_%2=0/\x.at_+x.cx<=L then(if CI S x.at_ x.cx=true then .error 5 else .ok (S++[x])) else .error 4
def lI(S:List bn)(e:Nat):Prop:=∀x∈S,x.at_+x.cx<=e
theorem OE{L:Nat}{S:List bn}{x:bn}{e:Nat}(hS:lI S e)(he:e<=x.at_)(h1:x.at_%2=0)(h2:x.at_+x.cx<=L):kP L S x=.ok (S++[x]):=by
 have hc:CI S x.at_ x.cx=false:=by
  unfold CI;rw[List.any_eq_false];intro s hs;have:=hS s hs
  grind
 unfold kP
 grind
theorem lI.add{S:List bn}{e:Nat}(h:lI S e){x:bn}{e':Nat}(h1:e<=e')(h2:x.at_+x.cx<=e'):lI (S++[x]) e':=by
 intro y hy;rcases fF.1 hy with hy|hy
 ·have:=h y hy;omega
 grind
theorem lI.mono{S:List bn}{e e':Nat}(h:lI S e)(h1:e<=e'):lI S e':=λx hx=>fG (h x hx) h1
def rG(b:List UInt8)(order:Int)(no:Nat)(S:List bn)(x:bk):Except Int (aJ×List bn):=
 if(kindOf x.ty).1 =0\/x.aA<1\/65536<x.aA then .error 6
 else if bK x.ty x.aA=0 then
  match oO x.ty x.aA (aW x.slot 4 order) order with
  |some d=>.ok (⟨x.tag,x.ty,x.aA,d⟩,S)
  |none=>.error 6
 else match kP b.length S ⟨3,no,x.tag,x.slot,bK x.ty x.aA⟩ with
  | .error e=>.error e
  | .ok S'=>match oO x.ty x.aA (b.drop x.slot) order with
   |some d=>.ok (⟨x.tag,x.ty,x.aA,d⟩,S')
   |none=>.error 6
def jQ(own:Int->Bool)(b:List UInt8)(order:Int)(no:Nat):List bk->List bn->Except Int (List aJ×List bn)
 |[],S=>.ok ([],S)
 |x::xs,S=>
  if own x.tag=true then(if x.ty=4/\x.aA=1 then jQ own b order no xs S else .error 6)
  else match rG b order no S x with
   | .error e=>.error e
   | .ok (t,S1)=>match jQ own b order no xs S1 with
    | .error e=>.error e
    | .ok (ts,S2)=>.ok (t::ts,S2)
def lZ(rd:Nat->Nat->Nat->List bn->Except Int (aT×Nat×Nat×List bn))(S:aZ):List bk->Nat->List bn->Except Int (cA×Nat×List bn)
 |[],no,Sp=>.ok (.nil,no,Sp)
 |x::xs,no,Sp=>match rd x.slot ((lk S x.tag).getD 0) no Sp with
  | .error e=>.error e
  | .ok (d,next,no1,S1)=>if next≠0 then .error 2 else match lZ rd S xs no1 S1 with
   | .error e=>.error e
   | .ok (r,no2,S2)=>.ok (.cons x.tag d r,no2,S2)
def kj(b:List UInt8)(order:Int)(sh:List aZ):Nat->Nat->Nat->Nat->List bn->Except Int (aT×Nat×Nat×List bn)
 |0,_,_,_,_=>.error 0
 |f+1,at_,s,no,Sp=>
  if at_%2=0/\at_+2<=b.length then
   if ca b at_ 2 order=0 then .error 2
   else match kP b.length Sp ⟨2,no,0,at_,6+12*ca b at_ 2 order⟩ with
    | .error e=>.error e
    | .ok S1=>
     if eM (jL b order (at_+2) (ca b at_ 2 order))=true then
      match jQ (eB (aM sh s)) b order no (jL b order (at_+2) (ca b at_ 2 order)) S1 with
      | .error e=>.error e
      | .ok (tags,S2)=>
       if((jL b order (at_+2) (ca b at_ 2 order)).filter λx=>fq (aM sh s) x.tag).length=1 then .error 6
       else match lZ (kj b order sh f) (aM sh s) ((jL b order (at_+2) (ca b at_ 2 order)).filter λx=>fj (aM sh s) x.tag) (no+1) S2 with
        | .error e=>.error e
        | .ok (subs,no',S3)=>
         match(jL b order (at_+2) (ca b at_ 2 order)).filter λx=>fq (aM sh s) x.tag with
         |[p,q]=>
          if q.slot=0 then .error 6
          else match kP b.length S3 ⟨4,no,0,p.slot,q.slot⟩ with
           | .error e=>.error e
           | .ok S4=>.ok (.mk tags subs ((b.drop p.slot).take q.slot),ca b (at_+2+12*ca b at_ 2 order) 4 order,no',S4)
         |_=>.ok (.mk tags subs [],ca b (at_+2+12*ca b at_ 2 order) 4 order,no',S3)
     else .error 2
  else .error 4
theorem U2{own:Int->Bool}{b:List UInt8}{order:Int}{no:Nat}:∀(l:List bk)(S:List bn),(∀x∈l,own x.tag=true->x.ty=4/\x.aA=1)->jQ own b order no l S=jQ (λ_=>false) b order no (l.filter λx=>!own x.tag) S
 |[],S,_=>rfl
 |x::xs,S,h=>by
  have ih:=λS=>U2 (b:=b) (order:=order) (no:=no) xs S λy hy=>h y (by grind)
  rw[jX]
  by_cases hx:own x.tag=true
  ·rw[ar (by grind),jQ,az hx,az (h x (by simp) hx),ih]
  ·rw[az (by grind),jQ,jQ]
   simp_all
theorem abi{t:aJ}{order:Int}(hm:ec t.ty t.aA t.data=true)(ho:bK t.ty t.aA=0):oO t.ty t.aA (aW (oJ order t) 4 order) order=some t.data:=by
 have hl:t.data.length<=4:=by
  have:=xd hm;rw[ho] at this;split at this
  ·assumption
  ·omega
 have hlen:(kQ order t++List.replicate (4 -t.data.length) (0:UInt8)).length=4:=by rw[aP,yD,tO];omega
 have e:aW (oJ order t) 4 order=kQ order t++List.replicate (4 -t.data.length) (0:UInt8):=by unfold oJ;have:=UF [] (kQ order t++List.replicate (4 -t.data.length) (0:UInt8)) [] 4 order hlen;simp only[gC,dQ,List.length_nil] at this;rw[this];exact agL _ 4 order hlen
 rw[e];unfold kQ;exact SJ hm _
theorem Ln{b:List UInt8}{order:Int}{no:Nat}:∀(ts:List aJ)(pre post:List UInt8)(e:Nat)(S:List bn),(∀t∈ts,ec t.ty t.aA t.data=true)->b=pre++(gk order e ts++post)->pre.length=e->lI S e->
 jQ (λ_=>false) b order no (ee order e ts) S=.ok (ts,S++cU no e ts)/\lI (S++cU no e ts) (bZ e ts)
 |[],pre,post,e,S,_,_,_,hS=>by
  refine⟨by simp[ee,jQ,cU],?_⟩
  unfold bZ cU
  simpa using hS
 |t::ts,pre,post,e,S,hm,hb,hp,hS=>by
  have hmt:=hm t (by simp)
  have hms:∀t∈ts,ec t.ty t.aA t.data=true:=λt ht=>hm t (by simp[ht])
  obtain⟨k1,k2,k3,k4⟩:=uO hmt
  by_cases ho:bK t.ty t.aA=0
  ·have hb':b=pre++(gk order e ts++post):=by rw[hb,gk,az ho]
   obtain⟨i1,i2⟩:=Ln ts pre post e S hms hb' hp hS
   have hv:rG b order no S ⟨t.tag,t.ty,t.aA,oJ order t⟩=.ok (t,S):=by
    unfold rG
    rw[ar (by simp only;omega),az ho]
    simp only[abi hmt ho]
   refine⟨?_,by rw[cU,az ho,bZ,az ho];exact i2⟩
   rw[ee,az ho,jQ,ar (by simp),cU,az ho]
   simp_all
  ·have hb':b=pre++(dN e++(kQ order t++(gk order (aI e+bK t.ty t.aA) ts++post))):=by rw[hb,gk,ar ho];simp
   have hpe:pre.length+(dN e).length=aI e:=by rw[hp];exact pG e
   have hol:bK t.ty t.aA=t.data.length:=by have:=xd hmt;rw[this] at ho⊢;split<;>simp_all
   have htk:kP b.length S ⟨3,no,t.tag,aI e,bK t.ty t.aA⟩=.ok (S++[⟨3,no,t.tag,aI e,bK t.ty t.aA⟩]):=OE hS (mU e) (IY e) (by rw[hb'];simp only[aP,yD];omega)
   have hd:b.drop (aI e)=kQ order t++(gk order (aI e+bK t.ty t.aA) ts++post):=by
    have:b=(pre++dN e)++(kQ order t++(gk order (aI e+bK t.ty t.aA) ts++post)):=by rw[hb'];simp
    rw[this,<-hpe,<-aP,List.drop_left]
   have hv:rG b order no S ⟨t.tag,t.ty,t.aA,aI e⟩=.ok (t,S++[⟨3,no,t.tag,aI e,bK t.ty t.aA⟩]):=by
    unfold rG
    rw[ar (by simp only;omega),ar ho]
    simp_all
    unfold kQ
    rw[SJ hmt]
   have hS1:lI (S++[⟨3,no,t.tag,aI e,bK t.ty t.aA⟩]) (aI e+bK t.ty t.aA):=hS.add (by have:=mU e;omega) (aL _)
   obtain⟨i1,i2⟩:=Ln (b:=b) (order:=order) (no:=no) ts (pre++(dN e++kQ order t)) post (aI e+bK t.ty t.aA) _ hms (by rw[hb'];simp) (by simp[yD];omega) hS1
   refine⟨?_,by rw[cU,ar ho,bZ,ar ho];simpa using i2⟩
   rw[ee,ar ho,jQ,hv,cU,ar ho]
   simp only[i1]
   simp
theorem JW{order:Int}{x:bk}:∀{ts:List aJ}{e:Nat},x∈ee order e ts->∃t∈ts,x.tag=t.tag/\x.ty=t.ty/\x.aA=t.aA
 |[],e,h=>by cases h
 |t::ts,e,h=>by
  unfold ee at h;split at h
  ·rcases cO.1 h with rfl|h
   ·simp
   ·obtain⟨u,hu,r⟩:=JW h
    grind
  ·rcases cO.1 h with rfl|h
   ·simp
   ·obtain⟨u,hu,r⟩:=JW h
    grind
theorem Su{x:bk}:∀{r:cA}{e:Nat},x∈iw e r->x.tag∈kO r/\x.ty=4/\x.aA=1
 | .nil,e,h=>by unfold iw at h;cases h
 | .cons tag d r,e,h=>by
  unfold kO;rcases cO.1 h with rfl|h
  ·simp
  ·obtain⟨h1,h2⟩:=Su h
   grind
theorem Qn{order:Int}:∀{ts:List aJ}{e:Nat},fE ts=true->eM (ee order e ts)=true
 |[],e,_=>rfl
 |[t],e,_=>by unfold ee;split<;>rfl
 |t::u::ts,e,h=>by
  simp[fE] at h;have key:∀(x:bk)(e':Nat),x.tag=t.tag->eM (x::ee order e' (u::ts))=true:=by
   intro x e' hx;have ih:=Qn (order:=order) (e:=e') h.2;rw[ee] at ih⊢;split at ih
   ·rename_i ho;rw[az ho];simp[eM];exact⟨by rw[hx];exact h.1,ih⟩
   ·rename_i ho;rw[ar ho];simp[eM];exact⟨by rw[hx];exact h.1,ih⟩
  rw[ee];split<;>grind
theorem Qm:∀{r:cA}{e:Nat},nu (kO r)=true->eM (iw e r)=true
 | .nil,e,_=>rfl
 | .cons tag d .nil,e,_=>rfl
 | .cons tag d (.cons tag' d' r),e,h=>by simp[kO,nu] at h;have ih:=Qm (r:=.cons tag' d' r) (e:=bt e d) (by simp only[kO];exact h.2);simp[iw,eM] at ih⊢;simp_all
structure tW(S:aZ):Prop where
 bJ:∀x∈S.bJ,0<=x.tag/\x.tag<65536/\fq S x.tag=false
 pair:S.at_≠0->1<=S.at_/\S.at_<S.cx/\S.cx<65536
theorem aaq{S:aZ}(hS:tW S){e:Nat}{blob:List UInt8}(h:blob.length=0\/S.at_≠0):eM (gR S e blob)=true:=by
 unfold gR;split
 ·rfl
 ·have:=hS.pair (h.resolve_left (by grind));simp[eM];omega
theorem acp{S:aZ}{e:Nat}{blob:List UInt8}{x:bk}(h:blob.length=0\/S.at_≠0)(hx:x∈gR S e blob):fq S x.tag=true/\x.ty=4/\x.aA=1:=by
 unfold gR at hx;split at hx
 ·grind
 ·have:=h.resolve_left (by grind);simp_all;rcases hx with rfl|rfl<;>simp[fq,this]
theorem JQ{S:aZ}{tag:Int}(h:fj S tag=true):∃x∈S.bJ,x.tag=tag:=by
 unfold fj at h
 grind
theorem C9{sh:List aZ}{S:aZ}:∀{r:cA},iS sh S r=true->∀tag∈kO r,fj S tag=true
 | .nil,_,tag,h=>by unfold kO at h;cases h
 | .cons t d r,h,tag,ht=>by
  simp[iS] at h;simp[kO] at ht;rcases ht with rfl|ht
  ·grind
  ·exact C9 h.2.2 tag ht
theorem PN{order:Int}{sh:List aZ}{S:aZ}(hS:tW S){tags:List aJ}{subs:cA}{blob:List UInt8}{e1 e2 e3:Nat}(ht:jU S tags=true)(hb:blob.length=0\/S.at_≠0)(hr:nu (kO subs)=true)(hs:iS sh S subs=true){E:List bk}
 (hE:E=gw (ee order e1 tags++(iw e2 subs++gR S e3 blob))):
 eM E=true/\(E.filter λx=>!eB S x.tag)=ee order e1 tags/\(E.filter λx=>fj S x.tag)=iw e2 subs/\(E.filter λx=>fq S x.tag)=gR S e3 blob/\(∀x∈E,eB S x.tag=true->x.ty=4/\x.aA=1):=by
 simp[jU] at ht;have lV:∀x∈ee order e1 tags,eB S x.tag=false:=λx hx=>by obtain⟨t,h1,h2,_⟩:=JW hx;rw[h2];exact(ht.2 t h1).2.1
 have lS:∀x∈iw e2 subs,fj S x.tag=true/\fq S x.tag=false/\x.ty=4/\x.aA=1:=λx hx=>by obtain⟨h1,h2⟩:=Su hx;have hl:=C9 hs _ h1;obtain⟨y,y1,y2⟩:=JQ hl;exact⟨hl,by rw[<-y2];exact(hS.bJ y y1).2.2,h2⟩
 have lB:∀x∈gR S e3 blob,fj S x.tag=false/\fq S x.tag=true/\x.ty=4/\x.aA=1:=λx hx=>by
  obtain⟨h1,h2⟩:=acp hb hx;refine⟨?_,h1,h2⟩;cases hl:fj S x.tag with
  |false=>rfl
  |true=>obtain⟨y,y1,y2⟩:=JQ hl;have:=(hS.bJ y y1).2.2;rw[y2,h1] at this;cases this
 have own_of:∀tag,eB S tag=(fj S tag||fq S tag):=λ_=>rfl;have vV:=Qn (order:=order) (e:=e1) ht.1;have vS:=Qm (e:=e2) hr;have vB:=aaq hS (e:=e3) hb;have fall:∀(l:List bk)(p:bk->Bool),(∀x∈l,p x=true)->l.filter p=l:=λl p h=>List.filter_eq_self.2 h;have fnone:∀(l:List bk)(p:bk->Bool),(∀x∈l,p x=false)->l.filter p=[]:=λl p h=>List.filter_eq_nil_iff.2 λx hx=>by simp_all
 have notlink:∀x∈ee order e1 tags,fj S x.tag=false/\fq S x.tag=false:=λx hx=>by have:=lV x hx;rw[own_of,Bool.or_eq_false_iff] at this;exact this
 subst hE;refine⟨?_,?_,?_,?_,?_⟩
 ·refine JH (Ic (yR vV) (Ic (yR vS) (yR vB) ?_) ?_)
  ·intro x hx y hy e;have:=(lS x hx).2.1;rw[<-e,(lB y hy).2.1] at this;cases this
  ·intro x hx y hy e;rcases fF.1 hy with hy|hy<;>grind
 ·rw[C2,List.filter_append,List.filter_append,fall _ _ (λx hx=>by simp[lV x hx]),fnone _ _ (λx hx=>by simp[own_of,(lS x hx).1]),fnone _ _ (λx hx=>by simp_all)];simp;exact Dg vV
 ·rw[C2,List.filter_append,List.filter_append,fnone _ _ (λx hx=>(notlink x hx).1),fall _ _ (λx hx=>(lS x hx).1),fnone _ _ (λx hx=>(lB x hx).1)];simp;exact Dg vS
 ·rw[C2,List.filter_append,List.filter_append,fnone _ _ (λx hx=>(notlink x hx).2),fnone _ _ (λx hx=>(lS x hx).2.1),fall _ _ (λx hx=>(lB x hx).2.1)];exact Dg vB
 ·intro x hx ho;rcases fF.1 (wP.1 hx) with hx|hx
  ·rw[lV x hx] at ho;cases ho
  ·rcases fF.1 hx with hx|hx
   ·exact(lS x hx).2.2
   ·exact(lB x hx).2.2
mutual
def fP:aT->Nat
 | .mk _ subs _=>jJ subs+1
def jJ:cA->Nat
 | .nil=>0
 | .cons _ d r=>max (fP d) (jJ r)
end
theorem RL{ty:Int}(h:(kindOf ty).1 ≠0):0<=ty/\ty<65536:=by
 by_cases o:ty<1\/12<ty
 ·rw[Di o] at h;exact absurd rfl h
 grind
theorem ag1(l:List UInt8)(order:Int):gU (gG l 0 4 order)<4294967296:=by
 have h:=J8 (gG l 0 4 order);have hl:(gG l 0 4 order).length<=4:=by unfold gG;split<;>simp<;>omega
 have:256^(gG l 0 4 order).length<=256^4:=Nat.pow_le_pow_right (by simp) hl;omega
theorem CX{S:aZ}{order:Int}:∀{ts:List aJ}{e:Nat},(∀t∈ts,mH t.tag=true/\ec t.ty t.aA t.data=true)->bZ e ts<4294967296->∀x∈ee order e ts,mm x
 |[],_,_,_,x,hx=>by cases hx
 |t::ts,e,h,he,x,hx=>by
  obtain⟨h1,h2⟩:=h t (by simp)
  obtain⟨k1,k2,k3,k4⟩:=uO h2
  have hs:∀t∈ts,mH t.tag=true/\ec t.ty t.aA t.data=true:=λt ht=>h t (by simp[ht])
  have ht:0<=t.tag/\t.tag<65536:=by simpa[mH] using h1
  unfold ee at hx
  unfold bZ at he
  split at hx
  ·rename_i ho
   rw[az ho] at he
   rcases cO.1 hx with rfl|hx
   ·exact⟨ht,RL k1,by simp only;omega,ag1 _ _⟩
   ·exact CX (S:=S) hs he x hx
  ·rename_i ho
   rw[ar ho] at he
   have:=qf ts (aI e+bK t.ty t.aA)
   rcases cO.1 hx with rfl|hx
   ·exact⟨ht,RL k1,by simp only;omega,by simp only;omega⟩
   ·exact CX (S:=S) hs he x hx
theorem IQ{S:aZ}(hS:tW S):∀{r:cA}{e:Nat},(∀tag∈kO r,fj S tag=true)->ea e r<4294967296->∀x∈iw e r,mm x
 | .nil,_,_,_,x,hx=>by unfold iw at hx;cases hx
 | .cons tag d r,e,h,he,x,hx=>by
  unfold ea at he;unfold kO at h;have h0:=sF r (bt e d);have h1:aI e<4294967296:=by
   have:aI e<=bt e d:=by
    cases d with
    |mk tags subs blob=>unfold bt;have h2:=qf tags (aI e+(6+12*bE (.mk tags subs blob)));have h3:=sF subs (bZ (aI e+(6+12*bE (.mk tags subs blob))) tags);have h4:=mU (ea (bZ (aI e+(6+12*bE (.mk tags subs blob))) tags) subs);split<;>omega
   omega
  rcases cO.1 hx with rfl|hx
  ·obtain⟨y,y1,y2⟩:=JQ (h tag (by simp));have:=hS.bJ y y1;exact⟨by simp only;omega,by simp only;omega,by simp only;omega,h1⟩
  ·exact IQ hS (λt ht=>h t (by simp[ht])) he x hx
theorem K1{d:aT}{e:Nat}:aI e+6<=bt e d:=by
 cases d with
 |mk tags subs blob=>
  unfold bt;have h2:=qf tags (aI e+(6+12*bE (.mk tags subs blob)));have h3:=sF subs (bZ (aI e+(6+12*bE (.mk tags subs blob))) tags);have h4:=mU (ea (bZ (aI e+(6+12*bE (.mk tags subs blob))) tags) subs)
  grind
mutual
theorem U4{order:Int}(ho:order=1\/order=2){sh:List aZ}(hsh:∀s,tW (aM sh s)):∀(d:aT)(s next e f no:Nat)(Sp:List bn)(pre post b:List UInt8),
 cD sh s d=true->b=pre++(jb order sh s next e d++post)->pre.length=e->bt e d<4294967296->next<4294967296->lI Sp e->fP d<=f->
 kj b order sh f (aI e) s no Sp=.ok (d,next,no+dw d,Sp++fR no e d)/\lI (Sp++fR no e d) (bt e d)
 | .mk tags subs blob,s,next,e,0,no,Sp,pre,post,b,h,hb,hp,hlt,hnx,hSp,hf=>by unfold fP at hf;omega
 | .mk tags subs blob,s,next,e,f+1,no,Sp,pre,post,b,h,hb,hp,hlt,hnx,hSp,hf=>by
  have hlen:=su order sh (.mk tags subs blob) s next e h
  simp only[cD,bq,qS,bX] at h;obtain⟨⟨n1,n2⟩,ht,hbl,hr,hs⟩:=h;have htg:∀t∈tags,mH t.tag=true/\ec t.ty t.aA t.data=true:=λt h=>by simp only[jU,bq,ij] at ht;exact⟨(ht.2 t h).1,(ht.2 t h).2.2⟩
  obtain⟨N,hN⟩:∃N,bE (.mk tags subs blob)=N:=⟨_,rfl⟩;obtain⟨e1,he1⟩:∃e1,aI e+(6+12*N)=e1:=⟨_,rfl⟩;obtain⟨e2,he2⟩:∃e2,bZ e1 tags=e2:=⟨_,rfl⟩;obtain⟨e3,he3⟩:∃e3,ea e2 subs=e3:=⟨_,rfl⟩;obtain⟨S,hS⟩:∃S,aM sh s=S:=⟨_,rfl⟩;have hSo:=hsh s;rw[hS] at hSo ht hbl hs;have g1:=mU e;have g2:=qf tags e1;have g3:=sF subs e2;have g4:=mU e3;rw[he2] at g2;rw[he3] at g3;have hend:bt e (.mk tags subs blob)=if blob.length=0 then e3 else aI e3+blob.length:=by rw[bt,hN,he1,he2,he3]
  rw[hend] at hlt hlen;have h3lt:e3<4294967296/\(blob.length=0\/aI e3+blob.length<4294967296):=by split at hlt<;>omega
  obtain⟨E,hE⟩:∃E,gw (ee order e1 tags++(iw e2 subs++gR S e3 blob))=E:=⟨_,rfl⟩;obtain⟨c1,c2,c3,c4,c5⟩:=PN hSo ht hbl hr hs hE.symm;have hEn:E.length=N:=by rw[<-hE,zJ,aP,aP,sH,zm,CW,<-hN];show _=tags.length+bY subs+(if blob.length=0 then 0 else 2);omega
  have hEo:∀x∈E,mm x:=by
   intro x hx;rw[<-hE] at hx;rcases fF.1 (wP.1 hx) with hx|hx
   ·exact CX (S:=S) htg (by rw[he2];omega) x hx
   ·rcases fF.1 hx with hx|hx
    ·exact IQ hSo (C9 hs) (by rw[he3];omega) x hx
    ·unfold gR at hx;split at hx
     ·cases hx
     ·have hat:=hSo.pair (hbl.resolve_left (by assumption));simp only[cO,mK,mN] at hx;rcases hx with rfl|rfl
      ·exact⟨by simp only;omega,by simp only;omega,by simp only;omega,by simp only;omega⟩
      ·exact⟨by simp only;omega,by simp only;omega,by simp only;omega,by simp only;omega⟩
  obtain⟨bl,hblob⟩:∃bl,(if blob.length=0 then[] else dN e3++blob)=bl:=⟨_,rfl⟩;have hbd:jb order sh s next e (.mk tags subs blob)=dN e++(kG order E next++(gk order e1 tags++(jI order sh S e2 subs++bl))):=by rw[jb,hN,he1,he2,he3,hS,hE,hblob]
  rw[hbd] at hlen hb;have je:=P3 order E next
  rw[hEn] at je;have hpl:=pG e;have hvl:=Hg order tags e1 λt h=>(htg t h).2;have hsl:=Is order sh subs S e2 hs;rw[he2] at hvl;rw[he3] at hsl;have hbL:b.length=e1+(gk order e1 tags).length+(jI order sh S e2 subs).length+bl.length+post.length:=by rw[hb];simp only[aP,je];omega
  have hbll:bl.length=if blob.length=0 then 0 else aI e3 -e3+blob.length:=by
   rw[<-hblob];have:=pG e3;split
   ·rfl
   ·rw[aP];omega
  have hat:aI e=(pre++dN e).length:=by rw[aP];omega
  have hnum:ca b (aI e) 2 order=N:=by refine nh (pre:=pre++dN e) (post:=(E.flatMap (iR order)++aW next 4 order)++(gk order e1 tags++(jI order sh S e2 subs++(bl++post)))) ?_ hat (.inr (.inl rfl)) ho (by omega);rw[hb,kG,hEn];simp
  have hents:jL b order (aI e+2) N=E:=by have:=Qo ho E (pre++(dN e++aW N 2 order)) (aW next 4 order++(gk order e1 tags++(jI order sh S e2 subs++(bl++post)))) (aI e+2) (b:=b) (by rw[hb,kG,hEn];simp) (by simp only[aP,ef];omega) hEo;rwa[hEn] at this
  have hnext:ca b (aI e+2+12*N) 4 order=next:=by refine nh (pre:=pre++(dN e++(aW N 2 order++E.flatMap (iR order)))) (post:=gk order e1 tags++(jI order sh S e2 subs++(bl++post))) (by rw[hb,kG,hEn];simp) ?_ (.inr (.inr rfl)) ho (by omega);simp only[aP,ef,wE,hEn];omega
  have hee:=IY e;have htk:kP b.length Sp ⟨2,no,0,aI e,6+12*N⟩=.ok (Sp++[⟨2,no,0,aI e,6+12*N⟩]):=OE hSp g1 hee (by simp only;omega);have hS1:lI (Sp++[⟨2,no,0,aI e,6+12*N⟩]) e1:=hSp.add (by omega) (by simp only;omega);obtain⟨v1,v2⟩:=Ln (b:=b) (order:=order) (no:=no) tags (pre++(dN e++kG order E next)) (jI order sh S e2 subs++(bl++post)) e1 _ (λt h=>(htg t h).2) (by rw[hb];simp) (by simp only[aP,je];omega) hS1;rw[he2] at v2;have hT:jQ (eB S) b order no E (Sp++[⟨2,no,0,aI e,6+12*N⟩])=.ok (tags,Sp++[⟨2,no,0,aI e,6+12*N⟩]++cU no e1 tags):=by rw[U2 E _ c5,c2];exact v1
  have jM:jJ subs<=f:=by unfold fP at hf;omega
  obtain⟨s1,s2⟩:=U5 ho hsh subs S e2 f (no+1) (Sp++[⟨2,no,0,aI e,6+12*N⟩]++cU no e1 tags) (pre++(dN e++(kG order E next++gk order e1 tags))) (bl++post) b hs (by rw[hb];simp) (by simp only[aP,je];omega) (by rw[he3];omega) v2 jM;rw[he3] at s2;have sN:no+dw (.mk tags subs blob)=no+1+gX subs:=by unfold dw;omega
  have hsp:fR no e (.mk tags subs blob)=⟨2,no,0,aI e,6+12*N⟩::(cU no e1 tags++(kv (no+1) e2 subs++(if blob.length=0 then[] else[⟨4,no,0,aI e3,blob.length⟩]))):=by rw[fR,hN,he1,he2,he3]
  rw[sN,hsp,hend];unfold kj;rw[az ⟨hee,by omega⟩,hnum,ar (by omega)];simp only[htk];rw[hents,az c1,hS];simp only[hT];rw[c4,c3];by_cases hz:blob.length=0
  ·have hB:gR S e3 blob=[]:=by unfold gR;rw[az hz]
   have hbl0:blob=[]:=kS hz;rw[hB,ar (by simp)];simp only[s1,hnext,az hz,dQ];subst hbl0;refine⟨by simp,by simpa using s2⟩
  ·have hB:gR S e3 blob=[⟨S.at_,4,1,aI e3⟩,⟨S.cx,4,1,blob.length⟩]:=by unfold gR;rw[ar hz]
   rw[ar hz] at hblob hbll;rw[hB,ar (by simp)];simp only[s1];rw[ar hz];have htb:kP b.length (Sp++[⟨2,no,0,aI e,6+12*N⟩]++cU no e1 tags++kv (no+1) e2 subs) ⟨4,no,0,aI e3,blob.length⟩=.ok (Sp++[⟨2,no,0,aI e,6+12*N⟩]++cU no e1 tags++kv (no+1) e2 subs++[⟨4,no,0,aI e3,blob.length⟩]):=
    OE s2 g4 (IY e3) (by simp only;omega)
   simp only[htb];have hdrop:(b.drop (aI e3)).take blob.length=blob:=by
    have hp3:=pG e3;have e':b=(pre++(dN e++(kG order E next++(gk order e1 tags++(jI order sh S e2 subs++dN e3)))))++(blob++post):=by rw[hb,<-hblob];simp
    have el:(pre++(dN e++(kG order E next++(gk order e1 tags++(jI order sh S e2 subs++dN e3))))).length=aI e3:=by simp only[aP,je];omega
    rw[e',<-el,List.drop_left,List.take_left]
   rw[hdrop,hnext,ar hz,ar hz];refine⟨by simp,?_⟩;have:=s2.add (x:=⟨4,no,0,aI e3,blob.length⟩) (e':=aI e3+blob.length) (by omega) (aL _);simpa using this
theorem U5{order:Int}(ho:order=1\/order=2){sh:List aZ}(hsh:∀s,tW (aM sh s)):∀(r:cA)(S:aZ)(e f no:Nat)(Sp:List bn)(pre post b:List UInt8),
 iS sh S r=true->b=pre++(jI order sh S e r++post)->pre.length=e->ea e r<4294967296->lI Sp e->jJ r<=f->
 lZ (kj b order sh f) S (iw e r) no Sp=.ok (r,no+gX r,Sp++kv no e r)/\lI (Sp++kv no e r) (ea e r)
 | .nil,S,e,f,no,Sp,pre,post,b,h,hb,hp,hlt,hSp,hf=>by unfold iw kv ea gX;refine⟨by simp[lZ],by simpa using hSp⟩
 | .cons tag d r,S,e,f,no,Sp,pre,post,b,h,hb,hp,hlt,hSp,hf=>by simp only[iS,bq] at h;unfold ea at hlt;unfold jJ at hf;have g:=sF r (bt e d);rw[jI,dO] at hb;have hl:=su order sh d ((lk S tag).getD 0) 0 e h.2.1;obtain⟨d1,d2⟩:=U4 ho hsh d ((lk S tag).getD 0) 0 e f no Sp pre (jI order sh S (bt e d) r++post) b h.2.1 hb hp (by omega) (by omega) hSp (by omega);obtain⟨r1,r2⟩:=U5 ho hsh r S (bt e d) f (no+dw d) _ (pre++jb order sh ((lk S tag).getD 0) 0 e d) post b h.2.2 (by rw[hb];simp) (by rw[aP];omega) hlt d2 (by omega);unfold iw kv ea gX;refine⟨?_,by simpa using r2⟩;rw[lZ];simp only[d1,r1];simp[p9]
end
structure iQ(sh:List aZ):Prop where
 ok:∀s,tW (aM sh s)
 bJ:∀s,s<sh.length->∀x∈(aM sh s).bJ,(s:Int)<x.shape/\x.shape<sh.length
 next:∀s,s<sh.length->(aM sh s).next<0\/((s:Int)<(aM sh s).next/\(aM sh s).next<sh.length)
theorem ab7{S:aZ}{tag:Int}(h:fj S tag=true):∃x∈S.bJ,(lk S tag).getD 0=x.shape.toNat:=by
 unfold fj at h;unfold lk;cases hf:S.bJ.find? (λx=>x.tag==tag) with
 |none=>grind
 |some x=>grind
mutual
theorem P0{sh:List aZ}(hsh:iQ sh):∀(d:aT)(s:Nat),cD sh s d=true->s<sh.length->fP d+s<=sh.length
 | .mk tags subs blob,s,h,hs=>by simp[cD] at h;have:=P1 hsh subs s h.2.2.2.2 hs;unfold fP;omega
theorem P1{sh:List aZ}(hsh:iQ sh):∀(r:cA)(s:Nat),iS sh (aM sh s) r=true->s<sh.length->jJ r+s+1<=sh.length
 | .nil,s,_,hs=>by unfold jJ;omega
 | .cons tag d r,s,h,hs=>by simp[iS] at h;obtain⟨x,hx,e⟩:=ab7 h.1;have hl:=hsh.bJ s hs x hx;have h1:=P0 hsh d ((lk (aM sh s) tag).getD 0) h.2.1 (by grind);have h2:=P1 hsh r s h.2.2 hs;unfold jJ;omega
end
def dZ(e:Nat):List aT->Nat
 |[]=>e
 |d::ds=>dZ (bt e d) ds
def gP:List aT->Nat
 |[]=>0
 |d::ds=>dw d+gP ds
def ji(no e:Nat):List aT->List bn
 |[]=>[]
 |d::ds=>fR no e d++ji (no+dw d) (bt e d) ds
def pE(e:Nat)(d:aT)(ds:List aT):Nat:=if ds.isEmpty then 0 else aI (bt e d)
def kZ(order:Int)(sh:List aZ)(s:Int)(e:Nat):List aT->List UInt8
 |[]=>[]
 |d::ds=>jb order sh s.toNat (pE e d ds) e d++kZ order sh (aM sh s.toNat).next (bt e d) ds
def fZ(sh:List aZ)(s:Int):List aT->Bool
 |[]=>true
 |d::ds=>decide (0<=s)&&(cD sh s.toNat d&&fZ sh (aM sh s.toNat).next ds)
def er(t:mn)(sh:List aZ):List UInt8:=
 (if t.order=1 then[73,73] else[77,77])++(aW 42 2 t.order++(aW 8 4 t.order++kZ t.order sh 0 8 t.dE))
def fb(t:mn):List bn:=⟨1,-1,0,0,8⟩::ji 0 8 t.dE
def gJ(t:mn):Nat:=dZ 8 t.dE
def nU(b:List UInt8)(order:Int)(sh:List aZ):Nat->Bool->Nat->Int->Nat->List bn->Except Int (List aT×List bn)
 |0,_,_,_,_,_=>.error 0
 |f+1,first,at_,s,no,Sp=>
  if at_=0/\first=false then .ok ([],Sp)
  else if s<0 then .error 2
  else match kj b order sh sh.length at_ s.toNat no Sp with
   | .error e=>.error e
   | .ok (d,next,no1,S1)=>match nU b order sh f false next (aM sh s.toNat).next no1 S1 with
    | .error e=>.error e
    | .ok (ds,S2)=>.ok (d::ds,S2)
def ll(b:List UInt8):Int:=if b.take 2=[73,73] then 1 else if b.take 2=[77,77] then 2 else 0
def tM(b:List UInt8)(sh:List aZ):Except Int (mn×List bn):=
 if b.length<8 then .error 3
 else if ll b=0\/ca b 2 2 (ll b)≠42 then .error 2
 else match nU b (ll b) sh (sh.length+2) true (ca b 4 4 (ll b)) 0 0 [⟨1,-1,0,0,8⟩] with
  | .error e=>.error e
  | .ok (ds,S)=>.ok (⟨ll b,ds⟩,S)
theorem PK{order:Int}{sh:List aZ}:∀(ds:List aT)(s:Int)(e:Nat),fZ sh s ds=true->e+(kZ order sh s e ds).length=dZ e ds
 |[],_,_,_=>rfl
 |d::ds,s,e,h=>by
  simp[fZ] at h
  have h1:=su order sh d s.toNat (pE e d ds) e h.2.1
  have h2:=PK (order:=order) ds (aM sh s.toNat).next (bt e d) h.2.2
  rw[kZ,dZ,aP]
  omega
theorem pA:∀(ds:List aT)(e:Nat),e<=dZ e ds
 |[],e=>aL _
 |d::ds,e=>by have:=zh d e;have:=pA ds (bt e d);rw[dZ];omega
theorem U3{order:Int}(ho:order=1\/order=2){sh:List aZ}(hsh:iQ sh):∀(ds:List aT)(s:Int)(e f no:Nat)(first:Bool)(Sp:List bn)(pre b:List UInt8),
 fZ sh s ds=true->(first=true->ds≠[])->s<sh.length->b=pre++kZ order sh s e ds->pre.length=e->0<e->dZ e ds<4294967296->lI Sp e->((sh.length:Int) -s).toNat+2<=f->
 nU b order sh f first (if ds.isEmpty then 0 else aI e) s no Sp=.ok (ds,Sp++ji no e ds)
 |[],s,e,f+1,no,first,Sp,pre,b,h,hfi,hs,hb,hp,he,hlt,hSp,hf=>by
  have:first=false:=by cases first with
   |false=>rfl
   |true=>exact absurd rfl (hfi rfl)
  subst this;rw[nU];simp[ji]
 |d::ds,s,e,f+1,no,first,Sp,pre,b,h,hfi,hs,hb,hp,he,hlt,hSp,hf=>by
  simp[fZ] at h;obtain⟨h0,h1,h2⟩:=h;have g1:=mU e;have g3:=pA ds (bt e d);rw[dZ] at hlt;rw[kZ] at hb;have hl:=su order sh d s.toNat (pE e d ds) e h1;have hnx:pE e d ds<4294967296:=by
   unfold pE;split
   ·decide
   ·cases ds with
    |nil=>rename_i hh;exact absurd rfl hh
    |cons d' ds=>have:=K1 (d:=d') (e:=bt e d);have:=pA ds (bt (bt e d) d');rw[dZ] at hlt g3;omega
  obtain⟨d1,d2⟩:=U4 ho hsh.ok d s.toNat (pE e d ds) e sh.length no Sp pre (kZ order sh (aM sh s.toNat).next (bt e d) ds) b h1 hb hp (by omega) hnx hSp (by have:=P0 hsh d s.toNat h1 (by omega);omega);have hnext:=hsh.next s.toNat (by omega);have hr:nU b order sh f false (pE e d ds) (aM sh s.toNat).next (no+dw d) (Sp++fR no e d)=.ok (ds,Sp++fR no e d++ji (no+dw d) (bt e d) ds):=by
   cases ds with
   |nil=>
    cases f with
    |zero=>omega
    |succ f=>rw[nU,az ⟨rfl,rfl⟩];simp[ji]
   |cons d' ds=>
    have hn:0<=(aM sh s.toNat).next:=by simp[fZ] at h2;exact h2.1
    have:=U3 ho hsh (d'::ds) (aM sh s.toNat).next (bt e d) f (no+dw d) false (Sp++fR no e d) (pre++jb order sh s.toNat (pE e d (d'::ds)) e d) b h2 (by intro h;cases h) (by omega) (by rw[hb];simp) (by rw[aP];omega) (by omega) hlt d2 (by omega);exact this
  rw[nU,ar (by simp;omega),ar (by omega)];simp_all;simp[ji]
 |_,s,e,0,no,first,Sp,pre,b,h,hfi,hs,hb,hp,he,hlt,hSp,hf=>by omega
theorem vH{t:mn}{sh:List aZ}(h:fZ sh 0 t.dE=true):(er t sh).length=gJ t:=by
 have:=PK (order:=t.order) t.dE 0 8 h;simp[er,gJ,ef]
 grind
theorem OQ{t:mn}{sh:List aZ}(ho:t.order=1\/t.order=2)(hsh:iQ sh)(hl:0<sh.length)(cu:t.dE≠[])(h:fZ sh 0 t.dE=true)(hlt:gJ t<4294967296):tM (er t sh) sh=.ok (t,fb t):=by
 have h8:=pA t.dE 8;have hord:ll (er t sh)=t.order:=by unfold ll er;rcases ho with e|e<;>rw[e]<;>simp
 obtain⟨sg,hsg⟩:∃sg,(if t.order=1 then[73,73] else[77,77]:List UInt8)=sg:=⟨_,rfl⟩;have hsl:sg.length=2:=by rw[<-hsg];split<;>rfl
 have hb:er t sh=sg++(aW 42 2 t.order++(aW 8 4 t.order++kZ t.order sh 0 8 t.dE)):=by unfold er;rw[hsg]
 have hat:ca (er t sh) 4 4 t.order=8:=nh (pre:=sg++aW 42 2 t.order) (post:=kZ t.order sh 0 8 t.dE) (by rw[hb];simp) (by simp[hsl,ef]) (.inr (.inr rfl)) ho (by decide);have hr:=U3 ho hsh t.dE 0 8 (sh.length+2) 0 true [⟨1,-1,0,0,8⟩] (sg++(aW 42 2 t.order++aW 8 4 t.order)) (er t sh) h (λ_=>cu) (by omega) (by rw[hb];simp) (by simp[hsl,ef]) (by decide) hlt (by intro x hx;rw[oY.1 hx];decide) (by omega);have hem:t.dE.isEmpty=false:=by
  cases hd:t.dE with
  |nil=>exact absurd hd cu
  |cons _ _=>rfl
 rw[hem] at hr;unfold tM;rw[ar (by rw[(vH h)];unfold gJ;omega),hord,(nh hb hsl.symm (.inr (.inl rfl)) ho (by decide)),ar (by rcases ho with e|e<;>rw[e]<;>simp)];rw[(show(if false=true then 0 else aI 8)=8 from rfl)] at hr;simp_all;rfl
def Q5(d:Int):List ((Int×Int)×List Int×Int):=
 ([0x0100,0x0101].map λt=>((d,t),[3,4],1))++([0x0103,0x0112,0x0128,0x0213].map λt=>((d,t),[3],1))++
 ([0x010e,0x010f,0x0110,0x0131,0x013b,0x8298].map λt=>((d,t),[2],0))++[((d,0x0132),[2],20),((d,0x011a),[5],1),((d,0x011b),[5],1)]
def agZ(d:Int):List ((Int×Int)×List Int×Int):=
 ([0x829a,0x829d,0x9202,0x920a].map λt=>((d,t),[5],1))++([0x8822,0x9207,0x9208,0x9209,0xa001,0xa402].map λt=>((d,t),[3],1))++
 ([0x9000,0x9101,0xa000].map λt=>((d,t),[7],4))++([0x9201,0x9204].map λt=>((d,t),[10],1))++([0x9003,0x9004].map λt=>((d,t),[2],20))++
 ([0xa002,0xa003].map λt=>((d,t),[3,4],1))++[((d,0x8827),[3],0),((d,0x9286),[7],0),((d,0x9290),[2],0),((d,0xa300),[7],1),((d,0xa420),[2],33),((d,0xa432),[5],4)]
def aa0(d:Int):List ((Int×Int)×List Int×Int):=
 [((d,0x00),[1],4),((d,0x05),[1],1),((d,0x06),[5],1)]++([0x01,0x03].map λt=>((d,t),[2],2))++([0x02,0x04,0x07].map λt=>((d,t),[5],3))++
 [((d,0x12),[2],0),((d,0x1d),[2],11)]
def ak6(d:Int):List ((Int×Int)×List Int×Int):=
 [((d,0xb000),[7],4)]++([0xb101,0xb201,0xb202].map λt=>((d,t),[4],1))++([0xb204,0xb206].map λt=>((d,t),[5],1))++([0xb205,0xb208].map λt=>((d,t),[10],1))
def Vq:List ((Int×Int)×List Int×Int):=
 Q5 0++Q5 1++agZ 2++aa0 3++[((4,1),[2],4),((4,2),[7],4)]++ak6 5
def LB(d t:Int):Option (List Int×Int):=Vq.lookup (d,t)
def oQ:List (Int×Int):=[(0,0x8769),(0,0x8825),(1,0x0201),(1,0x0202),(2,0x927c),(2,0xa005),(5,0xb001),(5,0xb002)]
def rq(d:Int)(x:aJ):Bool:=
 decide (0<=d/\d<6/\0<=x.tag/\x.tag<=65535)&&!oQ.contains (d,x.tag)&&ec x.ty x.aA x.data&&
  (match LB d x.tag with
   |none=>true
   |some (l,c)=>l.contains x.ty&&(c==0||c==x.aA))
def cR(d:Int)(l:List aJ):Bool:=fE l&&l.all (rq d)&&decide (0<=d/\d<6)
structure db where
 order:Int
 cj:List aJ
 bD:List aJ
 bG:List aJ
 bj:List aJ
 first:List aJ
 bC:List UInt8
 cC:List UInt8
 deriving DecidableEq
def iI(x:db):Int:=
 if¬(x.order=1\/x.order=2) then 1
 else if(cR 0 x.cj&&(cR 2 x.bD&&(cR 3 x.bG&&(cR 4 x.bj&&cR 1 x.first))))=false then 6
 else if 65536<x.bC.length\/(x.cj.length=0/\x.bD.length=0/\x.bG.length=0/\x.bj.length=0/\x.bC.length=0) then 6
 else 0
theorem sB{x:db}(h:iI x=0):(x.order=1\/x.order=2)/\cR 0 x.cj=true/\cR 2 x.bD=true/\cR 3 x.bG=true/\cR 4 x.bj=true/\cR 1 x.first=true/\x.bC.length<=65536/\
 ¬(x.cj.length=0/\x.bD.length=0/\x.bG.length=0/\x.bj.length=0/\x.bC.length=0):=by
 unfold iI at h
 grind
def iy(l:List aJ)(tag:Int):Option aJ:=l.find? λx=>x.tag==tag
def oD(l:List aJ)(tag:Int):List aJ:=l.filter λx=>x.tag !=tag
def jS(l:List aJ)(x:aJ):List aJ:=(l.filter λy=>decide (y.tag<x.tag))++x::l.filter λy=>decide (x.tag<y.tag)
theorem Ek:∀{a:aJ}{l:List aJ},fE (a::l)=true->fE l=true/\∀y∈l,a.tag<y.tag
 |a,[],_=>⟨rfl,λy h=>by cases h⟩
 |a,b::l,h=>by
  simp[fE] at h;obtain⟨h1,h2⟩:=Ek h.2
  grind
theorem Lr{a:aJ}:∀{l:List aJ},fE l=true->(∀y∈l,a.tag<y.tag)->fE (a::l)=true
 |[],_,_=>rfl
 |b::l,h,g=>by simp[fE];simp_all
theorem wF{α:Type}{p:α->Bool}:∀{l:List α},(∀y∈l,p y=true)->l.filter p=l
 |[],_=>rfl
 |a::l,h=>by simp_all
theorem filter_nil{α:Type}{p:α->Bool}:∀{l:List α},(∀y∈l,p y=false)->l.filter p=[]
 |[],_=>rfl
 |a::l,h=>by simp_all
theorem Yw(t:Int):∀{l:List aJ},fE l=true->(∀y∈l,y.tag≠t)->(l.filter λy=>decide (y.tag<t))++(l.filter λy=>decide (t<y.tag))=l
 |[],_,_=>rfl
 |a::l,h,hn=>by
  obtain⟨h1,h2⟩:=Ek h;have h0:=hn a (by simp);by_cases c:a.tag<t
  ·rw[jX,az (by grind),jX,ar (by simp;omega),eV,(Yw t h1 λy hy=>hn y (by simp[hy]))]
  ·rw[jX,ar (by grind),jX,az (by simp;omega)];rw[filter_nil (λy hy=>by have:=h2 y hy;simp;omega),wF (λy hy=>by have:=h2 y hy;simp;omega)];rfl
theorem Wv(x:aJ):∀{l:List aJ},fE l=true->fE (jS l x)=true
 |[],_=>rfl
 |a::l,h=>by
  obtain⟨h1,h2⟩:=Ek h;have ih:=Wv x h1;unfold jS at ih⊢;by_cases c:a.tag<x.tag
  ·rw[jX,az (by simpa using c),jX,ar (by simp;omega)];refine Lr ih λy hy=>?_;rcases fF.1 hy with hy|hy
   ·exact h2 y (oh.1 hy).1
   ·rcases cO.1 hy with rfl|hy
    ·exact c
    ·exact h2 y (oh.1 hy).1
  ·have e:((a::l).filter λy=>decide (y.tag<x.tag))=[]:=filter_nil λy hy=>by
    rcases cO.1 hy with rfl|hy<;>grind
   rw[e];refine Lr ?_ (λy hy=>by simpa using(oh.1 hy).2);rw[jX];split
   ·rename_i q;refine Lr ?_ λy hy=>h2 y (oh.1 hy).1;rw[wF λy hy=>by have:=h2 y hy;simp at q⊢;omega];exact h1
   ·rename_i q;rw[wF λy hy=>by have:=h2 y hy;simp at q⊢;omega];exact h1
theorem Wu{x y:aJ}{l:List aJ}(h:y∈jS l x):y=x\/y∈l:=by
 rcases fF.1 h with h|h
 ·grind
 grind
theorem Wt(l:List aJ)(x:aJ):(jS l x).length<=l.length+1:=by
 unfold jS;have h1:∀l:List aJ,(l.filter λy=>decide (y.tag<x.tag)).length+(l.filter λy=>decide (x.tag<y.tag)).length<=l.length:=by
  intro l;induction l with
  |nil=>simp
  |cons a l ih=>grind
 grind
theorem drop_set{x:aJ}{l:List aJ}(h:fE l=true)(hn:∀y∈l,y.tag≠x.tag):oD (jS l x) x.tag=l:=by unfold oD jS;rw[List.filter_append,jX,ar (by simp),wF λy hy=>by simpa using hn y (oh.1 hy).1,wF (p:=λy:aJ=>y.tag !=x.tag) λy hy=>by simpa using hn y (oh.1 hy).1];exact Yw x.tag h hn
theorem aaF(x:aJ)(l:List aJ):iy (jS l x) x.tag=some x:=by
 unfold iy jS
 grind
theorem aaE{l:List aJ}{t:Int}(hn:∀y∈l,y.tag≠t):iy l t=none:=by
 unfold iy
 grind
theorem aah{l:List aJ}{t:Int}(hn:∀y∈l,y.tag≠t):oD l t=l:=wF λy hy=>by simpa using hn y hy
def cV:List aZ:=[⟨[⟨34665,2⟩,⟨34853,3⟩],0,0,1⟩,⟨[],513,514,-1⟩,⟨[⟨40965,4⟩],0,0,-1⟩,⟨[],0,0,-1⟩,⟨[],0,0,-1⟩]
def jz(b:List UInt8):aJ:=⟨37500,7,b.length,b⟩
def jE(x:db):aT:=.mk (if x.bC.length=0 then x.bD else jS x.bD (jz x.bC)) (if x.bj.length=0 then .nil else .cons 40965 (.mk x.bj .nil []) .nil) []
def mX(x:db):cA:=if x.bG.length=0 then .nil else .cons 34853 (.mk x.bG .nil []) .nil
def jC(x:db):cA:=if x.bD.length=0/\x.bj.length=0/\x.bC.length=0 then mX x else .cons 34665 (jE x) (mX x)
def eP(x:db):mn:=⟨x.order,.mk x.cj (jC x) []::(if x.first.length=0/\x.cC.length=0 then[] else[.mk x.first .nil x.cC])⟩
theorem I5:iQ cV:=by
 have key:∀s,aM cV s=SE\/s<5:=by
  intro s;by_cases h:s<5
  ·exact .inr h
  ·left;unfold aM;rw[kT (by simp[cV];omega)];rfl
 refine⟨λs=>?_,λs hs x hx=>?_,λs hs=>?_⟩
 ·rcases key s with h|h
  ·rw[h];exact⟨λx hx=>(by cases hx),λh=>absurd rfl h⟩
  ·have:s=0\/s=1\/s=2\/s=3\/s=4:=by omega
   rcases this with rfl|rfl|rfl|rfl|rfl
   ·refine⟨λx hx=>?_,λh=>absurd rfl h⟩;have hx:x∈[(⟨34665,2⟩:im),⟨34853,3⟩]:=hx;simp_all;rcases hx with rfl|rfl<;>exact⟨by decide,by decide,rfl⟩
   ·refine⟨λx hx=>(by cases hx),λ_=>⟨by decide,by decide,by decide⟩⟩
   ·refine⟨λx hx=>?_,λh=>absurd rfl h⟩;have hx:x∈[(⟨40965,4⟩:im)]:=hx;simp at hx;rcases hx with rfl
    exact⟨by decide,by decide,rfl⟩
   ·exact⟨λx hx=>(by cases hx),λh=>absurd rfl h⟩
   ·exact⟨λx hx=>(by cases hx),λh=>absurd rfl h⟩
 ·have:s=0\/s=1\/s=2\/s=3\/s=4:=by simp[cV] at hs;omega
  rcases this with rfl|rfl|rfl|rfl|rfl
  ·have hx:x∈[(⟨34665,2⟩:im),⟨34853,3⟩]:=hx;simp_all;rcases hx with rfl|rfl<;>exact⟨by decide,by decide⟩
  ·cases hx
  ·have hx:x∈[(⟨40965,4⟩:im)]:=hx;simp at hx;rcases hx with rfl;exact⟨by decide,by decide⟩
  ·cases hx
  ·cases hx
 ·have:s=0\/s=1\/s=2\/s=3\/s=4:=by simp[cV] at hs;omega
  rcases this with rfl|rfl|rfl|rfl|rfl
  ·right;exact⟨by decide,by decide⟩
  all_goals left;decide
theorem Ds{d:Int}{x:aJ}(h:rq d x=true):0<=x.tag/\x.tag<=65535/\oQ.contains (d,x.tag)=false/\ec x.ty x.aA x.data=true:=by
 unfold rq at h
 grind
theorem xk{d:Int}{l:List aJ}(h:cR d l=true):fE l=true/\∀x∈l,rq d x=true:=by
 unfold cR at h
 grind
theorem yy{d:Int}{l:List aJ}{S:aZ}(h:cR d l=true)(ho:∀t,eB S t=true->oQ.contains (d,t)=true):jU S l=true:=by
 obtain⟨h1,h2⟩:=xk h;unfold jU;rw[bq,ij];refine⟨h1,λt ht=>?_⟩;obtain⟨a,b,c,e⟩:=Ds (h2 t ht);have:eB S t.tag=false:=by grind
 rw[this,e];simp[mH];omega
theorem Dw{S:aZ}(h:S.bJ=[])(ha:S.at_=0)(t:Int):eB S t=false:=by
 unfold eB fj fq
 grind
theorem D6(t:Int)(h:eB (aM cV 0) t=true):oQ.contains (0,t)=true:=by
 have:t=34665\/t=34853:=by
  have h:(([(⟨34665,2⟩:im),⟨34853,3⟩].any λx=>x.tag==t)||(decide ((0:Int)≠0)&&(decide (t=0)||decide (t=0))))=true:=h
  grind
 rcases this with rfl|rfl<;>rfl
theorem agO(t:Int)(h:eB (aM cV 1) t=true):oQ.contains (1,t)=true:=by
 have:t=513\/t=514:=by have h:(([]:List im).any (λx=>x.tag==t)||(decide ((513:Int)≠0)&&(decide (t=513)||decide (t=514))))=true:=h;simp_all
 rcases this with rfl|rfl<;>rfl
theorem Ux(t:Int)(h:eB (aM cV 2) t=true):t=40965:=by
 have h:(([(⟨40965,4⟩:im)].any λx=>x.tag==t)||(decide ((0:Int)≠0)&&(decide (t=0)||decide (t=0))))=true:=h
 grind
theorem agP(t:Int):eB (aM cV 3) t=false:=Dw rfl rfl t
theorem agQ(t:Int):eB (aM cV 4) t=false:=Dw rfl rfl t
theorem acA{b:List UInt8}(h1:b.length≠0)(h2:b.length<=65536):ec (jz b).ty (jz b).aA (jz b).data=true:=by
 unfold ec jz;have:(kindOf 7).1 =1:=rfl
 grind
def qz(x:db)(m:Nat):Prop:=x.cj.length<=m/\x.bD.length<=m/\x.bG.length<=m/\x.bj.length<=m/\x.first.length<=m
theorem KU{x:db}(h:cR 2 x.bD=true):∀y∈x.bD,y.tag≠37500:=by intro y hy e;have:=(Ds ((xk h).2 y hy)).2.2.1;rw[e] at this;cases this
theorem YK{x:db}(h:iI x=0)(hm:qz x 65000)(hp:¬(x.bD.length=0/\x.bj.length=0/\x.bC.length=0)):cD cV 2 (jE x)=true:=by
 obtain⟨-,-,h2,-,h4,-,hmk,-⟩:=sB h;obtain⟨-,m2,-,m4,-⟩:=hm;have hl:=Wt x.bD (jz x.bC);have ht:jU (aM cV 2) (if x.bC.length=0 then x.bD else jS x.bD (jz x.bC))=true:=by
  have h0:=yy h2 λt q=>by rw[Ux t q];rfl
  split
  ·exact h0
  ·rename_i hmk0;unfold jU at h0⊢;rw[bq,ij] at h0⊢;refine⟨Wv _ h0.1,λt ht=>?_⟩;rcases Wu ht with rfl|ht
   ·rw[acA hmk0 hmk];have:eB (aM cV 2) (jz x.bC).tag=false:=by
     cases q:eB (aM cV 2) (jz x.bC).tag with
     |false=>rfl
     |true=>exact absurd (Ux _ q) (show¬((37500:Int)=40965) by decide)
    rfl
   ·exact h0.2 t ht
 unfold jE cD;rw[ht];have hn:1<=bE (.mk (if x.bC.length=0 then x.bD else jS x.bD (jz x.bC)) (if x.bj.length=0 then .nil else .cons 40965 (.mk x.bj .nil []) .nil) [])/\
  bE (.mk (if x.bC.length=0 then x.bD else jS x.bD (jz x.bC)) (if x.bj.length=0 then .nil else .cons 40965 (.mk x.bj .nil []) .nil) [])<=65535:=by
  have hl0:1<=(jS x.bD (jz x.bC)).length:=by unfold jS;simp;omega
  by_cases a:x.bC.length=0
  ·by_cases b:x.bj.length=0
   ·rw[az a,az b];simp only[bE,bY,List.length_nil,dW];omega
   ·rw[az a,ar b];simp only[bE,bY,List.length_nil,dW];omega
  ·by_cases b:x.bj.length=0
   ·rw[ar a,az b];simp only[bE,bY,List.length_nil,dW];omega
   ·rw[ar a,ar b];simp only[bE,bY,List.length_nil,dW];omega
 rw[gp hn];by_cases b:x.bj.length=0
 ·rw[az b];rfl
 ·rw[ar b];have hi:cD cV 4 (.mk x.bj .nil [])=true:=by
   unfold cD;rw[yy h4 λt q=>by rw[agQ] at q;cases q];have:1<=bE (.mk x.bj .nil [])/\bE (.mk x.bj .nil [])<=65535:=by simp only[bE,bY,List.length_nil,dW];omega
   rw[gp this];rfl
  show((nu [40965]&&(true&&(cD cV 4 (.mk x.bj .nil [])&&true))))=true;rw[hi];rfl
theorem QR{x:db}(h:iI x=0)(hm:qz x 65000)(hp:x.bG.length≠0):cD cV 3 (.mk x.bG .nil [])=true:=by
 obtain⟨-,-,-,h3,-,-,-,-⟩:=sB h;obtain⟨-,-,m3,-,-⟩:=hm;unfold cD;rw[yy h3 λt q=>by rw[agP] at q;cases q];have:1<=bE (.mk x.bG .nil [])/\bE (.mk x.bG .nil [])<=65535:=by simp[bE,bY];omega
 rw[gp this];rfl
theorem YP{x:db}(h:iI x=0)(hm:qz x 65000):fZ cV 0 (eP x).dE=true:=by
 obtain⟨-,h0,-,-,-,h1,-,cu⟩:=sB h;have hm':=hm;obtain⟨m0,m2,m3,m4,m1⟩:=hm';have hsub:(nu (kO (jC x))&&iS cV (aM cV 0) (jC x))=true:=by
  unfold jC mX;by_cases a:x.bD.length=0/\x.bj.length=0/\x.bC.length=0
  ·rw[az a];by_cases b:x.bG.length=0
   ·rw[az b];rfl
   ·rw[ar b];show((nu [34853]&&(true&&(cD cV 3 (.mk x.bG .nil [])&&true))))=true;rw[QR h hm b];rfl
  ·rw[ar a];by_cases b:x.bG.length=0
   ·rw[az b];show((nu [34665]&&(true&&(cD cV 2 (jE x)&&true))))=true;rw[YK h hm a];rfl
   ·rw[ar b];show((nu [34665,34853]&&(true&&(cD cV 2 (jE x)&&(true&&(cD cV 3 (.mk x.bG .nil [])&&true))))))=true;rw[YK h hm a,QR h hm b];rfl
 have hs2:bY (jC x)<=2/\(x.cj.length=0->1<=bY (jC x)):=by
  unfold jC mX;by_cases a:x.bD.length=0/\x.bj.length=0/\x.bC.length=0
  ·rw[az a];by_cases b:x.bG.length=0
   ·rw[az b];simp only[bY];omega
   ·rw[ar b];simp only[bY];omega
  ·rw[ar a];by_cases b:x.bG.length=0
   ·rw[az b];simp only[bY];omega
   ·rw[ar b];simp only[bY];omega
 have hd0:cD cV 0 (.mk x.cj (jC x) [])=true:=by
  unfold cD;rw[yy h0 D6,hsub];have:1<=bE (.mk x.cj (jC x) [])/\bE (.mk x.cj (jC x) [])<=65535:=by simp[bE];omega
  rw[gp this];rfl
 unfold eP;have hx:∀ds,fZ cV 0 (.mk x.cj (jC x) []::ds)=(decide ((0:Int)<=0)&&(cD cV 0 (.mk x.cj (jC x) [])&&fZ cV 1 ds)):=λds=>rfl;simp only;rw[hx,hd0];by_cases a:x.first.length=0/\x.cC.length=0
 ·rw[az a];rfl
 ·rw[ar a];have hd1:cD cV 1 (.mk x.first .nil x.cC)=true:=by
   unfold cD;rw[yy h1 agO];have:1<=bE (.mk x.first .nil x.cC)/\bE (.mk x.first .nil x.cC)<=65535:=by simp only[bE,bY];split<;>omega
   rw[gp this];have:decide ((aM cV 1).at_≠0)=true:=rfl;rw[this];simp[iS,nu,kO]
  have hx:fZ cV 1 [.mk x.first .nil x.cC]=(decide ((0:Int)<=1)&&(cD cV 1 (.mk x.first .nil x.cC)&&true)):=rfl;rw[hx,hd1];rfl
def wR(l:List aJ):cA->List aJ
 | .nil=>l
 | .cons _ (.mk tags _ _) r=>wR tags r
def qv(r:db):aT->Option db
 | .mk tags subs _=>match iy tags 37500 with
  |some v=>if v.ty=7 then some {r with bD:=oD tags 37500,bC:=v.data,bj:=wR r.bj subs} else none
  |none=>some {r with bD:=oD tags 37500,bC:=[],bj:=wR r.bj subs}
def qL(r:db):cA->Option db
 | .nil=>some r
 | .cons tag d s=>if tag=34853 then qL {r with bG:=(match d with| .mk tags _ _=>tags)} s else(qv r d).bind λr=>qL r s
def uy(r:db):List aT->db
 |[]=>r
 | .mk tags _ blob::ds=>uy {r with first:=tags,cC:=blob} ds
def wW(t:mn):Option db:=match t.dE with
 |[]=>none
 | .mk tags subs _::ds=>(qL ⟨t.order,tags,[],[],[],[],[],[]⟩ subs).bind λr=>if iI (uy r ds)=0 then some (uy r ds) else none
theorem my{α:Type}{l:List α}(h:l.length=0):l=[]:=oX.1 h
theorem ag0{x:db}(h:cR 2 x.bD=true)(r:db)(hi:r.bj=[]):qv r (jE x)=some {r with bD:=x.bD,bC:=x.bC,bj:=x.bj}:=by
 have hl:wR r.bj (if x.bj.length=0 then .nil else .cons 40965 (.mk x.bj .nil []) .nil)=x.bj:=by
  split
  ·rename_i q;rw[my q];exact hi
  ·rfl
 unfold jE qv;simp only;rw[hl];by_cases a:x.bC.length=0
 ·rw[az a,aaE (KU h),aah (KU h),my a]
 ·rw[ar a];have e1:=aaF (jz x.bC) x.bD;have e2:=drop_set (x:=jz x.bC) (xk h).1 (KU h);rw[(show(jz x.bC).tag=37500 from rfl)] at e1 e2;rw[e1,e2];rfl
theorem SR{x:db}(h:iI x=0):wW (eP x)=some x:=by
 obtain⟨-,-,h2,-,-,-,-,-⟩:=sB h;have hs:qL ⟨x.order,x.cj,[],[],[],[],[],[]⟩ (jC x)=some {x with first:=[],cC:=[]}:=by
  have hg:∀r:db,r.bG=[]->qL r (mX x)=some {r with bG:=x.bG}:=by
   intro r hr;unfold mX;split
   ·rename_i q;rw[my q,<-hr];rfl
   ·rfl
  unfold jC;split
  ·rename_i q;rw[hg _ rfl,my q.1,my q.2.1,my q.2.2]
  ·show(if(34665:Int)=34853 then qL _ (mX x) else(qv _ (jE x)).bind λr=>qL r (mX x))=_;rw[ag0 h2 _ rfl];exact hg _ rfl
 have hf:uy {x with first:=[],cC:=[]} (if x.first.length=0/\x.cC.length=0 then[] else[.mk x.first .nil x.cC])=x:=by
  split
  ·rename_i q;show db.mk _ _ _ _ _ [] _ []=x;rw[<-my q.1,<-my q.2]
  ·rfl
 unfold wW eP;simp only;rw[hs];simp only[Option.bind];rw[hf,az h]
structure cL where
 attr:Int
 size:Int
 at_:Int
 eK:Int
 eL:Int
 deriving DecidableEq
def kh(p:cL):Bool:=decide ((0<=p.attr/\p.attr<4294967296)/\(0<=p.size/\p.size<4294967296)/\(0<=p.at_/\p.at_<4294967296)/\(0<=p.eK/\p.eK<65536)/\(0<=p.eL/\p.eL<65536))
def eC(o:Int)(p:cL):List UInt8:=aW p.attr.toNat 4 o++(aW p.size.toNat 4 o++(aW p.at_.toNat 4 o++(aW p.eK.toNat 2 o++aW p.eL.toNat 2 o)))
theorem Eb(o:Int)(p:cL):(eC o p).length=16:=by simp[eC,ef]
theorem qx(o:Int):∀l:List cL,(l.flatMap (eC o)).length=16*l.length
 |[]=>rfl
 |p::l=>by rw[dL,aP,Eb,qx o l,cm];omega
def np(b:List UInt8)(p:Nat)(o:Int):cL:=⟨ca b p 4 o,ca b (p+4) 4 o,ca b (p+8) 4 o,ca b (p+12) 2 o,ca b (p+14) 2 o⟩
def placesOf(b:List UInt8)(o:Int):Nat->Nat->List cL
 |_,0=>[]
 |p,n+1=>np b p o::placesOf b o (p+16) n
theorem ag3{b pre post:List UInt8}{k:Nat}{o:Int}{p:cL}(e:b=pre++(eC o p++post))(hk:k=pre.length)(ho:o=1\/o=2)(h:kh p=true):np b k o=p:=by
 unfold kh at h;simp at h;obtain⟨a1,a2,a3,a4,a5⟩:=h;have e0:b=pre++(aW p.attr.toNat 4 o++(aW p.size.toNat 4 o++(aW p.at_.toNat 4 o++(aW p.eK.toNat 2 o++(aW p.eL.toNat 2 o++post))))):=by rw[e];simp[eC]
 have e1:b=(pre++aW p.attr.toNat 4 o)++(aW p.size.toNat 4 o++(aW p.at_.toNat 4 o++(aW p.eK.toNat 2 o++(aW p.eL.toNat 2 o++post)))):=by rw[e0];simp
 have e2:b=(pre++aW p.attr.toNat 4 o++aW p.size.toNat 4 o)++(aW p.at_.toNat 4 o++(aW p.eK.toNat 2 o++(aW p.eL.toNat 2 o++post))):=by rw[e0];simp
 have h3:=nh (p:=k+8) e2 (by simp[ef,hk]) (.inr (.inr rfl)) ho (by omega);have e3:b=(pre++aW p.attr.toNat 4 o++aW p.size.toNat 4 o++aW p.at_.toNat 4 o)++(aW p.eK.toNat 2 o++(aW p.eL.toNat 2 o++post)):=by rw[e0];simp
 have h4:=nh (p:=k+12) e3 (by simp[ef,hk]) (.inr (.inl rfl)) ho (by omega);have e4:b=(pre++aW p.attr.toNat 4 o++aW p.size.toNat 4 o++aW p.at_.toNat 4 o++aW p.eK.toNat 2 o)++(aW p.eL.toNat 2 o++post):=by rw[e0];simp
 have h5:=nh (p:=k+14) e4 (by simp[ef,hk]) (.inr (.inl rfl)) ho (by omega);unfold np;rw[(nh e0 hk (.inr (.inr rfl)) ho (by omega)),(nh (p:=k+4) e1 (by simp[ef,hk]) (.inr (.inr rfl)) ho (by omega)),h3,h4,h5];rw[mj a1.1,mj a2.1,mj a3.1,mj a4.1,mj a5.1]
theorem KW{b:List UInt8}{o:Int}(ho:o=1\/o=2):∀(l:List cL)(pre post:List UInt8)(k:Nat),b=pre++(l.flatMap (eC o)++post)->k=pre.length->(∀p∈l,kh p=true)->placesOf b o k l.length=l
 |[],_,_,_,_,_,_=>rfl
 |p::l,pre,post,k,e,hk,h=>by
  rw[dL,dO] at e;rw[cm,placesOf,ag3 e hk ho (h p (by simp))]
  congr 1
  exact KW ho l (pre++eC o p) post (k+16) (by grind) (by simp[Eb,hk]) λy hy=>h y (by grind)
def fX:List aZ:=[⟨[],0,0,1⟩,⟨[],0,0,-1⟩]
def kB:List aZ:=[⟨[],0,0,-1⟩]
theorem UK{sh:List aZ}(h:∀s∈sh,s.bJ=[]/\s.at_=0)(hn:∀s,s<sh.length->(aM sh s).next<0\/((s:Int)<(aM sh s).next/\(aM sh s).next<sh.length)):iQ sh:=by
 have key:∀s,(aM sh s).bJ=[]/\(aM sh s).at_=0:=by
  intro s;unfold aM;cases q:sh[s]? with
  |none=>exact⟨rfl,rfl⟩
  |some x=>grind
 refine⟨λs=>⟨λx hx=>?_,λq=>absurd (key s).2 q⟩,λs _ x hx=>?_,hn⟩<;>grind
theorem Iy:iQ fX:=by
 refine UK (λs hs=>?_) λs hs=>?_
 ·simp[fX] at hs
  grind
 ·have:s=0\/s=1:=by simp[fX] at hs;omega
  rcases this with rfl|rfl<;>decide
theorem Ib:iQ kB:=by
 refine UK (λs hs=>?_) λs hs=>?_
 ·simp[kB] at hs
  grind
 ·have:s=0:=by simp[kB] at hs;omega
  rcases this with rfl
  decide
def eZ(o:Int)(l:List cL):aT:=.mk [⟨45056,7,4,[48,49,48,48]⟩,⟨45057,4,1,eI l.length 4⟩,⟨45058,7,((16*l.length:Nat):Int),l.flatMap (eC o)⟩] .nil []
def dA(o:Int)(l:List cL)(view:List aJ):mn:=⟨o,eZ o l::(if view.length=0 then[] else[.mk view .nil []])⟩
def fV(o:Int)(view:List aJ):mn:=⟨o,[.mk view .nil []]⟩
def gh:List UInt8:=[77,80,70,0]
def iK(o:Int)(l:List cL)(view:List aJ):Except Int (List UInt8):=
 if¬(o=1\/o=2)\/l.length<2 then .error 1
 else if l.all kh=false then .error 1
 else if cR 5 view=false then .error 6
 else if 65536<16*l.length then .error 7
 else if 65533<4+gJ (dA o l view) then .error 7
 else .ok (gh++er (dA o l view) fX)
def qQ(o:Int)(view:List aJ):Except Int (List UInt8):=
 if¬(o=1\/o=2)\/view.length=0 then .error 1
 else if cR 5 view=false then .error 6
 else if 65533<4+gJ (fV o view) then .error 7
 else .ok (gh++er (fV o view) kB)
theorem Zr{n:Nat}:ec 4 1 (eI n 4)=true:=by unfold ec;have:(kindOf 4).1 =4:=rfl;simp[this,oC]
theorem Y8{view:List aJ}{S:aZ}{sh:List aZ}{s:Nat}(hS:aM sh s=S)(hl:S.bJ=[])(ha:S.at_=0)(h:cR 5 view=true)(h0:view.length≠0)(hm:view.length<=65000):cD sh s (.mk view .nil [])=true:=by
 unfold cD;rw[hS,yy h λt q=>by rw[Dw hl ha] at q;cases q];have:1<=bE (.mk view .nil [])/\bE (.mk view .nil [])<=65535:=by simp[bE,bY];omega
 rw[gp this];rfl
theorem Ri{o:Int}{l:List cL}{view:List aJ}(hl:2<=l.length/\16*l.length<=65536)(hv:cR 5 view=true)(hm:view.length<=65000):fZ fX 0 (dA o l view).dE=true:=by
 have hd:cD fX 0 (eZ o l)=true:=by
  unfold eZ cD;have ht:jU (aM fX 0) [⟨45056,7,4,[48,49,48,48]⟩,⟨45057,4,1,eI l.length 4⟩,⟨45058,7,((16*l.length:Nat):Int),l.flatMap (eC o)⟩]=true:=by
   unfold jU;have m3:ec 7 ((16*l.length:Nat):Int) (l.flatMap (eC o))=true:=by unfold ec;have:(kindOf 7).1 =1:=rfl;rw[qx];simp_all;omega
   rw[bq,ij];refine⟨by simp[fE],λt ht=>?_⟩;simp at ht;rw[(λt=>Dw rfl rfl t)];rcases ht with rfl|rfl|rfl
   ·rfl
   ·rfl
   ·simp_all;rfl
  rw[ht];rfl
 unfold dA;have hx:∀ds,fZ fX 0 (eZ o l::ds)=(decide ((0:Int)<=0)&&(cD fX 0 (eZ o l)&&fZ fX 1 ds)):=λds=>rfl;rw[hx,hd];by_cases a:view.length=0
 ·rw[az a];rfl
 ·rw[ar a];have hx:fZ fX 1 [.mk view .nil []]=(decide ((0:Int)<=1)&&(cD fX 1 (.mk view .nil [])&&true)):=rfl;rw[hx,Y8 rfl rfl rfl hv a hm];rfl
theorem OP{o:Int}{view:List aJ}(hv:cR 5 view=true)(h0:view.length≠0)(hm:view.length<=65000):fZ kB 0 (fV o view).dE=true:=by have hx:fZ kB 0 [.mk view .nil []]=(decide ((0:Int)<=0)&&(cD kB 0 (.mk view .nil [])&&true)):=rfl;show fZ kB 0 [.mk view .nil []]=true;rw[hx,Y8 rfl rfl rfl hv h0 hm];rfl
def indexOf(t:mn):Option (Int×List cL×List aJ):=match t.dE with
 | .mk [a,b,c] _ _::ds=>
  if a.tag=45056/\a.ty=7/\a.data=[48,49,48,48]/\b.tag=45057/\b.ty=4/\b.data.length=4/\c.tag=45058/\c.ty=7/\2<=gU b.data/\c.data.length=16*gU b.data then
   match ds with
   |[]=>some (t.order,placesOf c.data t.order 0 (gU b.data),[])
   | .mk view _ _::_=>if cR 5 view=true then some (t.order,placesOf c.data t.order 0 (gU b.data),view) else none
  else none
 |_=>none
theorem abd{o:Int}(ho:o=1\/o=2){l:List cL}{view:List aJ}(hl:2<=l.length/\16*l.length<=65536)(hp:l.all kh=true)(hv:cR 5 view=true):indexOf (dA o l view)=some (o,l,view):=by
 have hb:gU (eI l.length 4)=l.length:=J7 4 _ (by omega);unfold dA eZ indexOf;simp only;rw[az ⟨trivial,trivial,trivial,trivial,trivial,oC _ _,trivial,trivial,by rw[hb];exact hl.1,by rw[qx,hb]⟩,hb,(KW ho l [] [] 0 (by simp) rfl λp hp'=>ij.1 hp p hp')]
 grind
theorem Yq{t:mn}(h:¬65533<4+gJ t):gJ t<4294967296:=by omega
theorem Rf{o:Int}{l:List cL}{view:List aJ}{b:List UInt8}(h:iK o l view=.ok b)(hm:view.length<=65000):
 ∃r,b=gh++r/\r=er (dA o l view) fX/\tM r fX=.ok (dA o l view,fb (dA o l view))/\indexOf (dA o l view)=some (o,l,view)/\b.length<=65533:=by
 unfold iK at h;split at h
 ·cases h
 ·rename_i h1;split at h
  ·cases h
  ·rename_i h2;split at h
   ·cases h
   ·rename_i h3;split at h
    ·cases h
    ·rename_i h4;split at h
     ·cases h
     ·rename_i h5;cases h;have ho:o=1\/o=2:=by omega
      have hv:cR 5 view=true:=by simpa using h3
      have hh:=Ri (o:=o) (l:=l) ⟨by omega,by omega⟩ hv hm;refine⟨_,rfl,rfl,OQ ho Iy (by decide) (by simp[dA]) hh (Yq h5),abd ho ⟨by omega,by omega⟩ (by simpa using h2) hv,?_⟩;rw[aP,(vH hh)];have:gh.length=4:=rfl;omega
theorem YU(a b:UInt8):UInt8.ofNat ((a.toNat*256+b.toNat)/256)=a/\UInt8.ofNat ((a.toNat*256+b.toNat)%256)=b:=by have hb:=b.toNat_lt;rw[(show(a.toNat*256+b.toNat)/256=a.toNat from by omega)];simp
theorem ak2(m:UInt8):UInt8.ofNat ((m.toNat:Int)).toNat=m:=by simp
theorem AP{b:UInt8}{t:List UInt8}(h:b≠255):ej (b::t)=ej t+1:=by
 conv=>lhs;unfold ej
 grind
theorem ahZ:ej [255]=0:=rfl
theorem Mt(c:UInt8)(r:List UInt8):ej (255::c::r)=if c≠0/\nt c.toNat=false then 0 else ej (c::r)+1:=by rw[ej,az rfl]
theorem VN:∀l:List UInt8,ej (l.take (ej l))=ej l
 |[]=>rfl
 |b::t=>by
  have ih:=VN t;by_cases hb:b=255
  ·subst hb;cases t with
   |nil=>rfl
   |cons c r=>
    rw[Mt];by_cases hc:c≠0/\nt c.toNat=false
    ·rw[az hc];rfl
    ·rw[ar hc,oi];have h5:c≠255:=by
      intro h5;apply hc;rw[h5];exact⟨by decide,rfl⟩
     rw[AP h5] at ih⊢;rw[oi] at ih⊢;rw[Mt,ar hc,ih]
  ·rw[AP hb,oi,AP hb,ih]
theorem Wn{l:List UInt8}{s:bB}{t:List UInt8}(h:jR true l=.more s t):kC s 216=true/\l=cP s++t:=by
 cases l with
 |nil=>cases h
 |cons x l=>
  cases l with
  |nil=>dsimp only[jR] at h;split at h<;>grind
  |cons m l=>
   dsimp only[jR] at h;split at h
   ·cases h
   ·rename_i h1;split at h
    ·cases h
    ·rename_i h2;split at h
     ·cases h
     ·rename_i h3;split at h
      ·rename_i h4;injection h with h5 h6;subst h5 h6 h4;refine⟨rfl,?_⟩;have:x=255:=pU.1 h1;subst this;rfl
      ·rename_i h4;exfalso;apply h2;rw[fH h4];rfl
theorem Wm{f:Bool}{l:List UInt8}{s:bB}{t:List UInt8}(h:jR f l=.last s t):kC s 217=true/\l=cP s++t:=by
 cases l with
 |nil=>cases h
 |cons x l=>
  cases l with
  |nil=>dsimp only[jR] at h;split at h<;>grind
  |cons m l=>
   dsimp only[jR] at h;split at h
   ·cases h
   ·rename_i h1;split at h
    ·cases h
    ·rename_i h2;split at h
     ·rename_i h3;injection h with h5 h6;subst h5 h6 h3;refine⟨rfl,?_⟩;have:x=255:=pU.1 h1;subst this;rfl
     ·split at h
      ·cases h
      ·split at h
       ·split at h
        ·cases h
        ·split at h
         ·cases h
         ·cases h
       ·cases h
theorem Wo{l:List UInt8}{s:bB}{t:List UInt8}(h:jR false l=.more s t):lu s=true/\l=cP s++t:=by
 cases l with
 |nil=>cases h
 |cons x l=>
  cases l with
  |nil=>
   dsimp only[jR] at h;split at h
   ·cases h
   ·cases h
  |cons m l=>
   dsimp only[jR] at h;split at h
   ·cases h
   ·rename_i h1;split at h
    ·cases h
    ·rename_i h2;split at h
     ·cases h
     ·rename_i h3;split at h
      ·rename_i h4;exfalso;apply h2;rw[gp h4];rfl
      ·rename_i h4;have hx:x=255:=pU.1 h1;have hm:jy (m.toNat:Int)=true:=by
        cases q:jy (m.toNat:Int) with
        |true=>rfl
        |false=>
         exfalso;apply h2;rw[q,fH h4];have:iG (m.toNat:Int)=false:=by
          unfold iG;rw[fH]
          rintro (e|e)
          ·exact h4 (nC.1 (by have:(216:UInt8).toNat=216:=rfl;omega))
          ·exact h3 (nC.1 (by have:(217:UInt8).toNat=217:=rfl;omega))
         rw[this];rfl
       cases l with
       |nil=>cases h
       |cons a l=>
        cases l with
        |nil=>cases h
        |cons b l=>
         dsimp only at h;split at h
         ·cases h
         ·rename_i h5;split at h
          ·cases h
          ·rename_i h6;injection h with h7 h8;have hb:=b.toNat_lt;have ha:=a.toNat_lt;have hs:=AR ((a::b::l).drop (a.toNat*256+b.toNat));have e0:(a::b::l).drop (a.toNat*256+b.toNat)=l.drop (a.toNat*256+b.toNat -2):=by
            obtain⟨k,hk⟩:∃k,a.toNat*256+b.toNat=k+2:=⟨a.toNat*256+b.toNat -2,by omega⟩;rw[hk];rfl
           have hlen:l.length+2>=a.toNat*256+b.toNat:=by simpa using h6
           rw[e0] at hs h7 h8;have hd:((a::b::l).drop 2)=l:=rfl;rw[hd] at h7;have je:(l.take (a.toNat*256+b.toNat -2)).length+2=a.toNat*256+b.toNat:=by rw[dJ];omega
           have hal:iG (m.toNat:Int)=false:=by simp only[jy,bq,tN] at hm;exact hm.2
           subst h7 h8;constructor
           ·unfold lu;simp only[hm,eD,bq,bX,qS,List.isEmpty_iff];refine⟨by omega,?_⟩;by_cases hq:m=218
            ·right;rw[az hq];refine⟨by rw[hq];rfl,?_⟩;rw[VN,dJ];omega
            ·left;rw[ar hq];rfl
           ·unfold cP;rw[ar (by simp[hal])];simp only[je,ak2,(YU a b).1,(YU a b).2,hx,eV,gC,dO];rw[lE,lE]
theorem SP(L:Nat):∀(f:Nat)(r:List UInt8)(l:List bB)(e:Nat),r.length<=L->kg L f false r=.ok l e->iz l=true/\∃x,r=cJ l++x/\e=L -x.length
 |0,_,_,_,_,h=>by cases h
 |f+1,r,l,e,hr,h=>by
  unfold kg at h;split at h
  ·cases h
  ·cases h
  ·rename_i s t hs;cases h;obtain⟨h1,h2⟩:=Wm hs;exact⟨h1,t,by rw[h2];simp[cJ],rfl⟩
  ·rename_i s t hs;obtain⟨h1,h2⟩:=Wo hs;split at h
   ·rename_i l' e' h3;cases h;obtain⟨a,x,b,c⟩:=SP L f t l' _ (by rw[h2] at hr;simp at hr;omega) h3;refine⟨?_,x,by rw[kR,dO,<-b,h2],c⟩;cases l' with
    |nil=>cases a
    |cons s' l'=>simp[iz,h1,a]
   ·rename_i q;rw[h] at q;exact absurd rfl (q _ _)
theorem SQ{b:List UInt8}{l:List bB}{e:Nat}(h:ofM b=.ok l e):kK l=true/\e<=b.length/\cJ l=b.take e/\∃r,l=⟨216,[],[]⟩::r/\iz r=true:=by
 unfold ofM at h;unfold kg at h;split at h
 ·cases h
 ·cases h
 ·rename_i s t hs;obtain⟨h1,h2⟩:=Wm hs;rw[h2] at hs;have:s=⟨217,[],[]⟩:=by
   obtain⟨m,d,c⟩:=s;simp[kC] at h1;obtain⟨⟨rfl,rfl⟩,rfl⟩:=h1;rfl
  rw[this] at hs;cases hs
 ·rename_i s t hs;obtain⟨h1,h2⟩:=Wn hs;have hs0:s=⟨216,[],[]⟩:=by
   obtain⟨m,d,c⟩:=s;simp[kC] at h1;obtain⟨⟨rfl,rfl⟩,rfl⟩:=h1;rfl
  split at h
  ·rename_i l' e' h3;cases h;obtain⟨a,x,k,c⟩:=SP b.length b.length t l' _ (by rw[h2];simp) h3;have hb:b=(cP s++cJ l')++x:=by rw[dO,<-k,<-h2]
   have hl:b.length=(cP s++cJ l').length+x.length:=by rw[hb,aP]
   refine⟨by simp[kK,h1,a],by omega,?_,l',by rw[hs0],a⟩;rw[kR,(show e=(cP s++cJ l').length from by omega)];rw[hb,List.take_left]
  ·rename_i q;rw[h] at q;exact absurd rfl (q _ _)
def o8(m:Int):Bool:=decide (224<=m/\m<=239)
def mT(b:List UInt8):Bool:=match ofM b with
 | .ok l e=>decide (e=b.length)&&(l.any (λs=>s.bR==218)&&l.all λs=>!o8 s.bR)
 |_=>false
def mV:List UInt8:=[69,120,105,102,0,0]
def fJ:List UInt8:=[73,67,67,95,80,82,79,70,73,76,69,0]
def iH(x:db):Except Int (List UInt8):=
 if iI x≠0 then .error (iI x) else if 65533<6+gJ (eP x) then .error 7 else .ok (mV++er (eP x) cV)
def Po(b:List UInt8):Option db:=
 if 65533<b.length then none else if mV.isPrefixOf b=true then(match tM (b.drop 6) cV with| .ok (t,_)=>wW t| .error _=>none) else none
theorem yU{x:db}{b:List UInt8}(h:iH x=.ok b)(hm:qz x 65000):Po b=some x/\mV.isPrefixOf b=true/\b.length<=65533/\b=mV++er (eP x) cV/\tM (er (eP x) cV) cV=.ok (eP x,fb (eP x)):=by
 unfold iH at h;split at h
 ·cases h
 ·rename_i h1;have h1:=pU.1 h1;split at h
  ·cases h
  ·rename_i h2;injection h with h;have hh:=YP h1 hm;have hw:=OQ (sB h1).1 I5 (by decide) (by simp[eP]) hh (by omega);have hl:b.length<=65533:=by rw[<-h,aP,(vH hh)];have:mV.length=6:=rfl;omega
   refine⟨?_,(by rw[<-h];rw[pX];exact rY _ _),hl,h.symm,hw⟩;unfold Po;rw[ar (by omega),<-h];have:(mV++er (eP x) cV).drop 6=er (eP x) cV:=rfl;rw[this,hw];exact SR h1
def fY(b:List UInt8):List (List UInt8):=if b.length=0 then[] else[fJ++1::1::b]
structure ou where
 aG:db
 cd:List UInt8
 core:List UInt8
 cF:List UInt8
 at_:Nat
 cx:Nat
def CL(b:List UInt8):List bB:=match ofM b with
 | .ok l _=>l
 |_=>[]
def jO(x:ou)(aS:List UInt8):List bB:=
 ⟨216,[],[]⟩::⟨225,aS,[]⟩::((if x.cF.length=0 then[] else[⟨226,x.cF,[]⟩])++((fY x.cd).map (λc=>⟨226,c,[]⟩)++(CL x.core).tail))
theorem CM{b:List UInt8}(h:mT b=true):∃r,ofM b=.ok (⟨216,[],[]⟩::r) b.length/\CL b=⟨216,[],[]⟩::r/\iz r=true/\cJ (⟨216,[],[]⟩::r)=b/\(∃s∈r,s.bR=218)/\∀s∈r,o8 s.bR=false:=by
 unfold mT at h;split at h
 ·rename_i l e q;simp at h;obtain⟨h1,⟨s,hs,hm⟩,h3⟩:=h;obtain⟨a,b1,c,r,hr,hmid⟩:=SQ q;subst hr;refine⟨r,by rw[q,h1],by unfold CL;rw[q],hmid,by rw[c,h1,oZ],?_,λs hs=>h3 s (by grind)⟩
  grind
 grind
theorem JY{s:bB}{l:List bB}(h:lu s=true)(hl:iz l=true):iz (s::l)=true:=by
 cases l with
 |nil=>cases hl
 |cons s' l=>simp[iz,h,hl]
theorem Lq{m:Int}{d:List UInt8}(hm:m=225\/m=226)(h:d.length<=65533):lu ⟨m,d,[]⟩=true:=by
 unfold lu;rcases hm with rfl|rfl
 ·simp;exact⟨rfl,h⟩
 ·simp;exact⟨rfl,h⟩
theorem PV{b c:List UInt8}(hb:b.length<=65519)(h:c∈fY b):c.length<=65533:=by
 unfold fY at h;split at h
 ·grind
 ·rw[oY.1 h];have:fJ.length=12:=rfl
  grind
theorem Jy{x:ou}{aS:List UInt8}(hc:mT x.core=true)(hcam:aS.length<=65533)(hi:x.cd.length<=65519)(hm:x.cF.length<=65533):kK (jO x aS)=true:=by
 obtain⟨r,-,h1,h2,-⟩:=CM hc;unfold jO;rw[h1];refine JY (Lq (.inl rfl) hcam) ?_;have k:iz ((fY x.cd).map (λc=>⟨226,c,[]⟩)++r)=true:=by
  have hl:=λc=>PV (c:=c) hi;generalize fY x.cd=cs at hl⊢;induction cs with
  |nil=>grind
  |cons c cs ih=>exact JY (Lq (.inr rfl) (hl c (by simp))) (ih λc hc=>hl c (by grind))
 split
 ·grind
 ·exact JY (Lq (.inr rfl) hm) k
def eY(x:ou)(aS:List UInt8):List UInt8:=cJ (jO x aS)
structure yJ(x:ou)(aS:List UInt8):Prop where
 app:iH x.aG=.ok aS
 rows:qz x.aG 65000
 cd:x.cd.length<=65519
 core:mT x.core=true
 cF:x.cF.length=0\/(gh.isPrefixOf x.cF=true/\x.cF.length<=65533)
theorem akY(l:List UInt8)(o:Int):iM l 1 o=l:=by
 unfold iM;split
 ·refine qU λi=>?_;by_cases h:i<l.length
  ·rw[B4 _ _ _ _ h,az h];simp[Nat.mod_one,h]
  ·rw[kT (by rw[oU];omega),kT (by omega)]
 ·rfl
theorem D5{n:Nat}(h:2<=n/\16*n<=65536):bK 7 ((16*n:Nat):Int)=16*n:=by
 have e:iU 7 ((16*n:Nat):Int)=((16*n:Nat):Int):=by unfold iU;rw[ar (by omega),show(kindOf 7).1 =1 from rfl];omega
 unfold bK;rw[e,az (by omega)];omega
theorem abg(o:Int){n:Nat}(h:2<=n/\16*n<=65536)(e:Nat):∃E,∀l:List cL,l.length=n->ee o e [⟨45056,7,4,[48,49,48,48]⟩,⟨45057,4,1,eI l.length 4⟩,⟨45058,7,((16*l.length:Nat):Int),l.flatMap (eC o)⟩]=E:=
 ⟨_,λl hl=>by simp only[hl,ee,show bK 7 4=0 from rfl,show bK 4 1=0 from rfl,dW,D5 h];rw[ar (by omega)]⟩
theorem abh(o:Int){n:Nat}(h:2<=n/\16*n<=65536)(e:Nat)(l:List cL)(hl:l.length=n):gk o e [⟨45056,7,4,[48,49,48,48]⟩,⟨45057,4,1,eI l.length 4⟩,⟨45058,7,((16*l.length:Nat):Int),l.flatMap (eC o)⟩]=dN e++l.flatMap (eC o):=by
 simp only[hl,gk,show bK 7 4=0 from rfl,show bK 4 1=0 from rfl,dW,D5 h];rw[ar (by omega),dQ]
 congr 1
 exact akY _ o
theorem abe(o:Int){n:Nat}(h:2<=n/\16*n<=65536)(view:List aJ):∃A B,∀l:List cL,l.length=n->er (dA o l view) fX=A++(l.flatMap (eC o)++B):=by
 obtain⟨E,hE⟩:=abg o h (aI 8+(6+12*3));have hend:∀(l:List cL),l.length=n->bt 8 (eZ o l)=aI (aI 8+(6+12*3))+16*n:=by intro l hl;unfold eZ bt ea;simp only[bE,cm,List.length_nil,bY,dW,bZ,hl,show bK 7 4=0 from rfl,show bK 4 1=0 from rfl,D5 h];rw[ar (by omega)]
 suffices H:∃X Y,∀l:List cL,l.length=n->er (dA o l view) fX=X++(dN (aI 8+(6+12*3))++(l.flatMap (eC o)++Y)) by obtain⟨X,Y,H⟩:=H;exact⟨X++dN (aI 8+(6+12*3)),Y,λl hl=>by rw[H l hl,dO]⟩
 refine⟨(if o=1 then[73,73] else[77,77])++(aW 42 2 o++(aW 8 4 o++(dN 8++kG o (gw E) (pE 8 (eZ o (List.replicate n ⟨0,0,0,0,0⟩)) (if view.length=0 then[] else[.mk view .nil []]))))),kZ o fX 1 (aI (aI 8+(6+12*3))+16*n) (if view.length=0 then[] else[.mk view .nil []]),λl hl=>?_⟩;unfold er dA;have hd:=hend l hl;have hd':=hend (List.replicate n ⟨0,0,0,0,0⟩) (by simp);simp only[kZ,pE,hd,hd'];unfold eZ;simp only[jb,jI,iw,gR,ea,bE,cm,List.length_nil,bY,dW,dQ,dO];rw[hE l hl,abh o h _ l hl];simp only[dO];rfl
theorem aba(o:Int){n:Nat}(h:2<=n/\16*n<=65536)(view:List aJ):∃N,∀l:List cL,l.length=n->gJ (dA o l view)=N:=by
 refine⟨dZ (aI (aI 8+(6+12*3))+16*n) (if view.length=0 then[] else[.mk view .nil []]),λl hl=>?_⟩;unfold gJ dA;rw[dZ]
 congr 1
 unfold eZ bt ea;simp only[bE,cm,List.length_nil,bY,dW,bZ,hl,show bK 7 4=0 from rfl,show bK 4 1=0 from rfl,D5 h];rw[ar (by omega)]
theorem Rg{o:Int}{l:List cL}{view:List aJ}{b:List UInt8}(h:iK o l view=.ok b):b=gh++er (dA o l view) fX/\2<=l.length/\16*l.length<=65536/\l.all kh=true:=by
 unfold iK at h
 repeat(split at h;· cases h)
 injection h with h;exact⟨h.symm,by omega,by omega,by simp_all⟩
namespace Lt
section
open Tryz
def ints(t:Nat):Bool:=[3,36].any (Nat.beq t)
theorem abt:∀t,ints t=true->Ce Tryz.prog t:=by
 intro t h;have h:t∈([3,36]:List Nat):=by unfold ints at h;rw[List.any_eq_true] at h;obtain⟨x,hx,e⟩:=h;rw[bT e];exact hx
 simp only[cO,mK,mN] at h;rcases h with rfl|rfl
 ·exact⟨⟨_,Tryz.underlying3⟩,Tryz.t3,zH Tryz.type3,by kernel_rfl⟩
 ·exact⟨⟨_,Tryz.underlying36⟩,Tryz.t36,zH Tryz.type36,by kernel_rfl⟩
structure TE where
 t:Nat
 i:iZ
 h:O7 Tryz.prog t i
noncomputable def tx{t:Nat}{n:TypeInfo}{d:TypeDesc}(h:Tryz.prog.types[t]? =some n)(u:Tryz.prog.underlying t=some d):TE:=
 ⟨t,⟨d,n.size,n.bytes,n.zero,false,[]⟩,u,⟨n,zH h,rfl,rfl,λ_ h=>h⟩,λh=>by cases h⟩
noncomputable def tn{t:Nat}{n:TypeInfo}{d:TypeDesc}(h:Tryz.prog.types[t]? =some n)(u:Tryz.prog.underlying t=some d):TE:=
 ⟨t,⟨d,n.size,n.bytes,none,false,[]⟩,u,⟨n,zH h,rfl,rfl,λ_ h=>by cases h⟩,λh=>by cases h⟩
noncomputable def tf{t:Nat}{n:TypeInfo}{d:TypeDesc}(h:Tryz.prog.types[t]? =some n)(u:Tryz.prog.underlying t=some d)(e:Tryz.prog.eqGuardType Tryz.prog.depth t=false)(s:Tryz.prog.stoodInHeld t=false:=by kernel_rfl)
 (f:Jb ints n.size d=true:=by kernel_rfl):TE:=
 ⟨t,⟨d,n.size,n.bytes,n.zero,true,[]⟩,u,⟨n,zH h,rfl,rfl,λ_ h=>h⟩,λ_=>⟨e,s,aaH abt f⟩⟩
structure FE where
 n:Nat
 f:Func
 h:Tryz.prog.funcs[n]? =some f/\(f.name== "runtime.NumGoroutine")=false/\f.body.isSome=true
noncomputable def fx{n:Nat}{f:Func}(h:Tryz.prog.funcs[n]? =some f)(k:(f.name== "runtime.NumGoroutine")=false:=by kernel_rfl)(b:f.body.isSome=true:=by kernel_rfl):FE:=⟨n,f,h,k,b⟩
noncomputable def tl:List TE:=[tx type0 underlying0,tx type1 underlying1,tx type3 underlying3,tx type4 underlying4,tx type5 underlying5,tx type9 underlying9,tx type20 underlying20,tx type22 underlying22,tx type24 underlying24,tx type25 underlying25,tx type26 underlying26,tx type28 underlying28,tx type30 underlying30,tx type35 underlying35,tx type36 underlying36,tx type37 underlying37,tx type41 underlying41,tx type43 underlying43,tx type44 underlying44,tx type47 underlying47,tx type50 underlying50,tx type53 underlying53,tx type56 underlying56,tx type57 underlying57,tx type70 underlying70,tx type72 underlying72,tf type97 underlying97 eqGuardType97,tx type98 underlying98,tx type99 underlying99,tx type103 underlying103,tx type105 underlying105,tx type107 underlying107,tx type109 underlying109,tx type115 underlying115,tx type117 underlying117,tx type119 underlying119,tx type121 underlying121,tx type123 underlying123,tx type125 underlying125,tx type128 underlying128,tx type129 underlying129,tx type132 underlying132,tx type134 underlying134,tx type136 underlying136,tx type138 underlying138,tx type142 underlying142,tx type159 underlying159,tx type160 underlying160,tx type163 underlying163,tx type173 underlying173,tx type174 underlying174,tx type176 underlying176,tx type179 underlying179,tx type181 underlying181,tx type182 underlying182,tx type185 underlying185,tx type186 underlying186,tx type189 underlying189,tx type192 underlying192,tx type194 underlying194,tx type198 underlying198,tx type199 underlying199,tx type205 underlying205,tx type207 underlying207,tx type209 underlying209,tx type210 underlying210,tx type212 underlying212,tx type215 underlying215,tx type217 underlying217,tx type218 underlying218,tx type219 underlying219,tx type221 underlying221,tx type223 underlying223,tx type229 underlying229,tx type230 underlying230,tx type232 underlying232,tx type233 underlying233,tx type259 underlying259,tx type261 underlying261,tx type266 underlying266,tx type269 underlying269,tf type271 underlying271 eqGuardType271,tx type272 underlying272,tx type273 underlying273,tx type275 underlying275,tx type278 underlying278,tx type280 underlying280,tx type283 underlying283,tx type286 underlying286,tx type288 underlying288,tx type289 underlying289,tx type291 underlying291,tx type293 underlying293,tx type295 underlying295,tx type300 underlying300,tx type301 underlying301,tx type303 underlying303,tf type304 underlying304 eqGuardType304,tf type307 underlying307 eqGuardType307,tx type311 underlying311,tf type314 underlying314 eqGuardType314,tx type325 underlying325,tx type327 underlying327,tf type331 underlying331 eqGuardType331,tx type334 underlying334,tx type340 underlying340,tx type346 underlying346,tx type348 underlying348,tx type349 underlying349,tx type352 underlying352,tx type354 underlying354,tx type356 underlying356,tx type361 underlying361,tx type365 underlying365,tx type366 underlying366,tx type368 underlying368,tx type377 underlying377,tf type385 underlying385 eqGuardType385,tx type386 underlying386,tx type388 underlying388,tx type394 underlying394,tx type395 underlying395,tx type397 underlying397,tx type399 underlying399,tx type400 underlying400,tf type402 underlying402 eqGuardType402,tx type404 underlying404,tf type406 underlying406 eqGuardType406,tx type413 underlying413,tf type415 underlying415 eqGuardType415,tx type417 underlying417,tx type418 underlying418,tx type422 underlying422,tx type424 underlying424,tx type425 underlying425,tx type426 underlying426,tx type429 underlying429,tx type433 underlying433,tx type435 underlying435,tx type437 underlying437,tx type438 underlying438,tf type440 underlying440 eqGuardType440,tx type441 underlying441,tx type443 underlying443,tx type446 underlying446,tx type456 underlying456,tx type458 underlying458,tx type460 underlying460,tf type463 underlying463 eqGuardType463,tf type464 underlying464 eqGuardType464,tf type465 underlying465 eqGuardType465,tx type467 underlying467,tx type472 underlying472,tx type473 underlying473,tx type479 underlying479,tx type481 underlying481,tx type482 underlying482,tx type483 underlying483,tx type486 underlying486,tx type493 underlying493,tx type498 underlying498,tx type502 underlying502,tx type506 underlying506,tx type517 underlying517,tx type522 underlying522,tx type524 underlying524,tx type545 underlying545]
noncomputable def fl:List FE:=[fx func5,fx func18,fx func19,fx func20,fx func22,fx func24,fx func26,fx func27,fx func28,fx func29,fx func30,fx func31,fx func54,fx func57,fx func58,fx func59,fx func60,fx func61,fx func62,fx func64,fx func65,fx func66,fx func67,fx func69,fx func70,fx func71,fx func72,fx func73,fx func74,fx func75,fx func76,fx func77,fx func78,fx func79,fx func80,fx func81,fx func94,fx func104,fx func105,fx func106,fx func107,fx func108,fx func109,fx func110,fx func111,fx func112,fx func113,fx func114,fx func115,fx func116,fx func117,fx func118,fx func119,fx func120,fx func122,fx func123,fx func124,fx func125,fx func126,fx func127,fx func128,fx func129,fx func130,fx func131,fx func132,fx func133,fx func134,fx func136,fx func137,fx func138,fx func139,fx func140,fx func141,fx func142,fx func143,fx func144,fx func145,fx func148,fx func154,fx func155,fx func156,fx func157,fx func158,fx func159,fx func160,fx func161,fx func162,fx func163,fx func164,fx func165,fx func166,fx func167,fx func168,fx func169,fx func170,fx func171,fx func172,fx func173,fx func174,fx func175,fx func176,fx func177,fx func178,fx func179,fx func180,fx func181,fx func182,fx func183,fx func184,fx func185,fx func186,fx func187,fx func188,fx func189,fx func190,fx func191,fx func192,fx func193,fx func194,fx func195,fx func196,fx func197,fx func198,fx func199,fx func200,fx func201,fx func202,fx func203,fx func204,fx func205,fx func206,fx func207,fx func208,fx func209,fx func210,fx func216,fx func217,fx func218,fx func219,fx func220,fx func221,fx func222,fx func223,fx func224,fx func225,fx func226,fx func227,fx func228,fx func229,fx func230,fx func231,fx func232,fx func233,fx func234,fx func235,fx func236,fx func237,fx func238,fx func239,fx func240,fx func241,fx func242,fx func243,fx func244,fx func245,fx func246,fx func247,fx func248,fx func249,fx func250,fx func251,fx func252,fx func253,fx func254,fx func255,fx func256,fx func257,fx func258,fx func259,fx func260,fx func261,fx func262,fx func263,fx func264,fx func265,fx func266,fx func267,fx func268,fx func269,fx func270,fx func271,fx func272,fx func273,fx func274,fx func275,fx func276,fx func277,fx func278,fx func279,fx func280,fx func281,fx func282,fx func286,fx func293,fx func294,fx func295,fx func299,fx func300,fx func301,fx func302,fx func303,fx func304,fx func305,fx func306,fx func307,fx func308,fx func309,fx func310,fx func311,fx func312,fx func313,fx func314,fx func315,fx func316,fx func317,fx func318,fx func319,fx func320,fx func321,fx func322,fx func323,fx func324,fx func325,fx func326,fx func327,fx func328,fx func329,fx func330,fx func331,fx func332,fx func333,fx func334,fx func335,fx func336,fx func337,fx func338,fx func339,fx func340,fx func341,fx func342,fx func343,fx func344,fx func345,fx func346,fx func347,fx func348,fx func349,fx func350,fx func351,fx func352,fx func353,fx func354,fx func355,fx func361,fx func362,fx func363,fx func364,fx func365,fx func366,fx func367,fx func368,fx func369,fx func370,fx func371,fx func372,fx func373,fx func374,fx func375,fx func376,fx func377,fx func378,fx func379,fx func380,fx func381,fx func382,fx func383,fx func384,fx func385,fx func386,fx func387,fx func388,fx func389,fx func390,fx func391,fx func392,fx func393,fx func394,fx func395,fx func396,fx func397,fx func398,fx func399,fx func400,fx func401,fx func402,fx func403,fx func404,fx func405,fx func406,fx func407,fx func408,fx func409,fx func410,fx func411,fx func412,fx func413,fx func414,fx func415,fx func416,fx func417,fx func418,fx func419,fx func428,fx func429,fx func430,fx func431,fx func434,fx func435,fx func436,fx func437,fx func438,fx func439,fx func440,fx func441,fx func442,fx func443,fx func444,fx func445,fx func446,fx func447,fx func448,fx func449,fx func450,fx func451,fx func452,fx func453,fx func454,fx func455,fx func456,fx func457,fx func458,fx func459,fx func460,fx func461,fx func462,fx func463,fx func464,fx func465,fx func466,fx func467,fx func468,fx func469,fx func470,fx func471,fx func472,fx func473,fx func474,fx func478,fx func479,fx func480,fx func481,fx func482,fx func483,fx func484,fx func485,fx func486,fx func487,fx func488,fx func489,fx func490,fx func491,fx func492,fx func494,fx func495,fx func496,fx func497,fx func498,fx func499]
noncomputable def akO:TT:=sV (tl.map λe=>(e.t,e.i))
noncomputable def akN:FT:=sV (fl.map λe=>(e.n,e.f))
noncomputable def pS:ed:=⟨akO,akN⟩
theorem qN:iF Tryz.prog pS:=akP rfl rfl
 (λp hp=>by obtain⟨e,_,rfl⟩:=List.mem_map.1 hp;exact e.h) (λp hp=>by obtain⟨e,_,rfl⟩:=List.mem_map.1 hp;exact e.h)
def qfs:List Nat:=[397,317,193,181,254,255,249,239,94,267,144,130,262,398,367,81,369,318,317,142,246,269,443,258,458,231,429,444,200,178,241,312,313,240,388,330,307,389,245,162,226,300,224,167,31,148,492,210,147,474,89,414,415,470,417,71,82,102,91]
noncomputable instance:QF:=⟨λn=>List.any qfs (Nat.beq n)⟩
theorem mixed:Tryz.prog.follows .mixedOrders=true:=Tryz.checked.mixed
end
abbrev bL(m:Nat->Nat->Option Value):=PW (aK m)
abbrev OZ(P:Program)(g:FuncId)(us:List Value)(pv:Value):Prop:=vY P g us λm v=>aK m pv v
theorem dF.mk{P:Program}{g:FuncId}{avt:List VT}{rvt:VT}{Sh:Fn (VT.fa avt) (Option (bI rvt.ks))}
 (H:∀ls r,iu (VT.fa avt) Sh ls=some r->ff ls->∀us,fI avt ls=some (us,[])->ff (gB rvt.ks r)/\∃pv,jK rvt (gB rvt.ks r)=some (pv,[])/\OZ P g us pv):dF P g avt rvt Sh:=λls r e lo us hu m args' w K A=>by
 obtain⟨h1,pv,h2,h3⟩:=H ls r e lo us hu;exact(h3 m args' w K A).mono λx w' ⟨v,a,b,c⟩=>⟨v,a,b,pv,h2,h1,c⟩
def JG:Value->Bool
 | .func (.via _ _ 7 _) _ _=>true
 |_=>false
theorem Dk{w:World}{b i:Nat}{v:Value}(ht:JG v=false)(h:fD w b i=some v):w.cell? ⟨b,i,none⟩=some v:=by
 unfold fD at h;split at h
 ·cases h;cases ht
 grind
abbrev gF(v:Value):Prop:=bd [v]=true
theorem bL.length{m:Nat->Nat->Option Value}{xs ys:List Value}(h:bL m xs ys):xs.length=ys.length:=h.1
theorem bL.get{m:Nat->Nat->Option Value}{xs ys:List Value}(h:bL m xs ys){i:Nat}{x:Value}(e:xs[i]? =some x):∃y,ys[i]? =some y/\aK m x y:=PW.get h e
theorem aK.SG{m:Nat->Nat->Option Value}{v v':Value}(h:aK m v v'):JG v'=false:=by cases h<;>rfl
theorem aK.fn0{m:Nat->Nat->Option Value}{f:FuncId}:aK m (.func (.func f) #[] #[]) (.func (.func f) #[] #[]):=.fn rfl (λi x y h=>by simp at h) rfl λi x y h=>by simp at h
theorem aK.row{m:Nat->Nat->Option Value}{n c:Nat}{cs ys:List Value}{a:Addr}(r:bL m cs ys)(hm:∀(i:Nat) y,ys[i]? =some y->m a.block (a.off+i)=some y)(hs:a.spot=none)(hn:n<=c)(ho:bd cs=true):aK m (ae n cs) (.slice (some a) n c):=.lC r.1 r.2 hm hs hn ho
theorem aK.Ka{m:Nat->Nat->Option Value}{xs ys:List Value}(h:bL m xs ys):aK m (.agg ⟨xs⟩) (.agg ⟨ys⟩):=.agg h.1 h.2
def qP:List Value->Option (List Int)
 |[]=>some []
 | .int .u8 b::l=>ob (qP l) λxs=>some (b::xs)
 |_=>none
theorem YZ:∀{l:List Value}{xs:List Int},qP l=some xs->xs.length=l.length/\∀i,i<xs.length->l[i]? =some (.int .u8 (xs.getD i 0))
 |[],_,e=>by cases e;exact⟨rfl,λi h=>by simp at h⟩
 |v::l,xs,e=>by
  unfold qP at e;split at e
  ·rename_i q;cases q
  ·rename_i b l' q;cases q;replace e:=ay e;obtain⟨ys,h1,e⟩:=e;cases e;obtain⟨k1,k2⟩:=YZ h1;refine⟨by simp[k1],λi h=>?_⟩;cases i with
   |zero=>simp
   |succ i=>simp at h;simpa using k2 i h
  ·cases e
def kE{β:Type}(x:Value)(K:List Int->Option β):Option β:=match x with
 | .func (.via n _ 0 true) cs _=>cond (Nat.ble n cs.toList.length) (ob (qP (cs.toList.take n)) K) none
 |_=>none
theorem zb{β:Type}{m:Nat->Nat->Option Value}{w:World}(hm:Kn m w){x v:Value}{K:List Int->Option β}{b:β}(e:kE x K=some b)(h:aK m x v):
 ∃(xs:List Int),K xs=some b/\((∃a c,v=.slice (some a) xs.length c/\xs.length<=c/\∀i,i<xs.length->w.cell? (a.add i)=some (.int .u8 (xs.getD i 0)))\/(xs=[]/\∃c,v=.slice none 0 c)):=by
 unfold kE at e;split at e
 case h_2=>cases e
 rename_i n p cs ys;obtain⟨e1,e2⟩:=bc e;clear e;have e1:=dY e1;replace e2:=ay e2;obtain⟨xs,h1,h2⟩:=e2;obtain⟨k1,k2⟩:=YZ h1;have hl:xs.length=n:=by rw[k1,dJ];omega
 refine⟨xs,h2,?_⟩;cases h with
 |lC r1 r2 q hs hn ho=>
  have r:bL m cs.toList _:=⟨r1,r2⟩;rename_i c a zs;subst hl;refine .inl ⟨a,c,rfl,hn,λi hi=>?_⟩;have h3:=k2 i hi;have h4:cs.toList[i]? =some (.int .u8 (xs.getD i 0)):=by rw[<-h3,List.getElem?_take_of_lt hi]
  obtain⟨y,y1,y2⟩:=r.get h4;cases y2;have h5:=Dk rfl (hm _ _ _ (q i _ y1));rw[<-h5];obtain⟨blk,off,sp⟩:=a;have hs:sp=none:=hs;subst hs;unfold Addr.add;split
  ·rename_i h0;subst h0;rfl
  ·rfl
 |@gH c a=>
  have:xs=[]:=kS hl;subst this;rcases a with _|a
  ·exact .inr ⟨rfl,c,rfl⟩
  ·exact .inl ⟨a,c,rfl,il _,λi hi=>by simp at hi⟩
end Lt
end Go.Proofs.YtcfjfbeadhnknaaGreatDoor

import Derived.Recover
import Derived.Still
import Derived.Laws.BitsLemmas
import Derived.Test.YtcfjfbeadhnknaaGreatDoorChecked
import Derived.KernelRfl
import Derived.Eval
import Derived.RangeFuncNested
import Derived.RangeFuncBound
import Derived.RangeFuncCalls
import Derived.RangeFuncLeaves
import Derived.Shelf.Abstract
import Derived.Shelf.RegionOpen
import Derived.WalkKit
import Derived.OwnWalkIn
import Derived.TacticsInMore
import Derived.LoopNIn
import Derived.LoopIn
import Derived.Test.YtcfjfbeadhnknaaGreatDoorUB
namespace Go.Proofs.YtcfjfbeadhnknaaGreatDoor
set_option linter.unusedVariables false
set_option linter.unusedSimpArgs false
set_option linter.unusedSectionVars false
set_option linter.constructorNameAsVariable false
set_option maxRecDepth 100000
namespace Lt
section
def wM(P:Program)(g:FuncId)(us:List Value)(R:(Nat->Nat->Option Value)->Value->Prop):Prop:=∀(m:Nat->Nat->Option Value)(args':Array Value)(w:World),Kn m w->PW (aL m) us args'.toList->
 Calls P g args' w λe w'=>∃v',e=.returned v'/\RowKit.Below w.heap.size w w'/\R (cG m w w') v'
def cL(P:Program)(g:FuncId)(avt:List VT)(rvt:VT)(Sh:Fn (VT.eZ avt) (Option (bL rvt.ks))):Prop:=
 ∀ls r,iz (VT.eZ avt) Sh ls=some r->fj ls->∀us,fJ avt ls=some (us,[])->wM P g us λm v=>∃pv,jV rvt (gL rvt.ks r)=some (pv,[])/\fj (gL rvt.ks r)/\aL m pv v
theorem eM.below{w w':World}(h:eM (λ_=>False) w w'):RowKit.Below w.heap.size w w':=⟨h.os,h.tape,h.output,h.size,λb hb=>h.block b hb id⟩
theorem eM.K3{w w':World}(h:RowKit.Below w.heap.size w w'):eM (λ_=>False) w w':=⟨h.os,h.tape,h.output,h.size,λb hb _=>h.block b hb⟩
theorem Mem.start{m:Nat->Nat->Option Value}{w:World}(K:Kn m w){n:Nat}{dH:List Deferred}{F:Nat->Prop}:Mem ⟨w,λ_=>False,m,0,λ_=>none,n,dH⟩ ⟨λ_=>none,m⟩ (hG .nil) F w:=
 ⟨λid so h=>(pw h).elim,λi j so so' o o' n n' h=>(pw h).elim,λ_ _=>rfl,K,λb i v _ ⟨id,so,o,n,h,_⟩=>pw h,eM.refl _ _,λb ⟨id,so,o,n,h,_⟩=>(pw h).elim,λb i v h=>.inl h,λk hk=>(Nat.not_lt_zero k hk).elim,λ_ _ _ h=>h⟩
theorem Mem.Xf{m:Nat->Nat->Option Value}{w w':World}(K:Kn m w){an n:Nat}{nm:Nat->Option (Option (Nat×Nat)×Nat)}{dH:List Deferred}{F:Nat->Prop}{σ:Ren}{h:Tr SO}(M:Mem ⟨w,λ_=>False,m,an,nm,n,dH⟩ σ (hG h) F w'):Seen σ (cG m w w') h w':=by
 refine⟨λb i v q=>?_,M.obj,λid so ho o n hn i v hv=>?_⟩
 ·unfold cG;rcases M.mf b i v q with k|k|k
  ·rw[ay (mI (K b i v k))];exact k
  ·exact k.elim
  ·rw[aq (Nat.not_lt.2 k)];exact M.lit b i v q
 ·rcases M.owned o.1 ⟨id,so,o,_,ho,hn,rfl⟩ with k|k
  ·exact k.elim
  ·unfold cG;rw[aq (Nat.not_lt.2 k)];exact hv
theorem Yw:∀{svs:List SV}{n:Nat}{T:Tr SV}{t:Nat}{sv:SV},(oJ svs n T).get t=some sv->(∃i,t=n+i/\svs[i]? =some sv)\/T.get t=some sv
 |[],n,T,t,sv,h=>.inr h
 |x::svs,n,T,t,sv,h=>by
  rcases Yw (svs:=svs) h with⟨i,h1,h2⟩|h
  ·exact .inl ⟨i+1,by omega,h2⟩
  ·rw[Tr.fE] at h;split at h
   ·rename_i q;cases h;exact .inl ⟨0,q,rfl⟩
   ·exact .inr h
theorem Cx{σ:Ren}{svs:List SV}{args:Array Value}(d:eV σ svs args.toList){dH:List Deferred}:Ev σ (oJ svs 0 .nil) {tmps:=args,defers:=dH}:=λt sv h=>by
 rcases Yw h with⟨i,rfl,hi⟩|h
 ·obtain⟨y,h1,h2⟩:=d.get hi;rw[my] at h1;simp only[Act.eval,gj,qz,h1,pS];exact h2
 ·rw[Tr.get_nil] at h;cases h
theorem tr{σ:Ren}{tm:Tr SV}{args:Array Value}{k:Nat}{dH dfs':List Deferred}(R:Ev σ tm {tmps:=args,defers:=dH}):Ev σ tm {tmps:=args++Array.replicate k undef,defers:=dfs'}:=λt sv h=>by
 have e:(args++Array.replicate k undef).getD t undef=args.getD t undef:=by
  simp only[qz,Array.getElem?_append,Array.getElem?_replicate];split
  ·rfl
  ·rename_i q;rw[Array.getElem?_eq_none (Nat.not_lt.1 q)];split<;>rfl
 have:=R t sv h;simp only[Act.eval] at this⊢;rwa[e]
section
noncomputable def ZI{β:Type}[QF](C:Ctx β)(N:Nat)(avt:List VT)(body:Code)(ls:List bq):Option β:=
 ob (wh avt ls) λq=>dn C N [] [.code body] ⟨oJ q.1 0 .nil,.nil,0⟩
noncomputable def Jc[QF](w:Nat)(X:ew)(pt:(β:Type)->FuncId->Option (cA β))(fn:Func)(avt:List VT)(rvt:VT)(lv jv:Nat->Option cJ)(un:Nat->Bool):Fn (VT.eZ avt) (Option (bL rvt.ks)):=
 lX (VT.eZ avt) (ZI {X:=X,pt:=pt _,n:=avt.length+(fn.ntmps -avt.length),rs:=fn.results.toList,lv:=lv,jv:=jv,un:=un,df:=false,fuel:=w,an:=0,ij:=λsv st=>Ak st rvt sv (dec rvt.ks),ma:=λ_ _=>bI 52} 100000 avt (fn.body.getD .skip))
def jl(P:Program)(pt:(β:Type)->FuncId->Option (cA β)):Prop:=∀β,nh P (pt β)
theorem tN{P:Program}:jl P (λ_ _=>none):=λ_ g e h=>by cases h
theorem z8{β:Type}{P:Program}{C:Ctx β}{fn:Func}{g:FuncId}{B:Bs}{b:β}{args:Array Value}{w:World}{R:Ending->World->Prop}(hf:P.funcs[g]? =some fn)(hb:fn.body=some (fn.body.getD .skip))(hd:C.df=false)(hB:B.dH=[])
 (G:nc P [.code (fn.body.getD .skip)] (uA P C fn B b) {tmps:=args++Array.replicate (fn.ntmps -args.size) undef,defers:=[]} w)
 (k:∀{σ:Ren}{st:St}{sv:SV}{a:Act}{w':World}{v:Value},dA B σ st a w'->DV σ sv v->(C.ij sv st=some b->R (.returned v) w')/\(C.ma sv st=some b->R (.panicked [pe v]) w')):Calls P g args w R:=by
 refine calls_of_wp hf hb (wp_mono (λb k cs=>G b k cs) λx a w' q=>?_);cases x with
 |panic ch=>obtain⟨σ,st,sv,v,r,kp,rfl,d⟩:=q;exact⟨r.dH.trans hB,(k r d).2 kp⟩
 |normal=>obtain⟨σ,st,sv,r,kr,q⟩:=q;rw[hd] at q;obtain⟨v,q1,q2⟩:=q;exact⟨r.dH.trans hB,v,q1,(k r q2).1 kr⟩
 |ret=>obtain⟨σ,st,sv,r,kr,q⟩:=q;rw[hd] at q;obtain⟨v,q1,q2⟩:=q;exact⟨r.dH.trans hB,v,q1,(k r q2).1 kr⟩
 |_=>exact q.elim
theorem Rz[QF]{P:Program}{X:ew}(OK:iJ P X)(mx:P.follows .mixedOrders=true){pt:(β:Type)->FuncId->Option (cA β)}(PT:jl P pt){g:FuncId}{fn:Func}{avt:List VT}{rvt:VT}{lv jv:Nat->Option cJ}{un:Nat->Bool}{w:Nat}{Sh:Fn (VT.eZ avt) (Option (bL rvt.ks))}
 (hF:X.F.get g=some fn) (hb:fn.body=some (fn.body.getD .skip)) (hS:Sh=Jc w X pt fn avt rvt lv jv un):cL P g avt rvt Sh:=by
 intro ls r e lo us hu m args' w0 K A;subst hS;have e1:=np _ _ _ _ e;obtain⟨⟨svs,rest⟩,h1,e2⟩:=ax e1;obtain⟨_,q1,_⟩:=xd avt ls _ _ _ _ lo hu h1;have hl:args'.size=avt.length:=by rw[<-Jy _ _ _ _ hu,<-Array.length_toList];exact A.1.symm
 refine z8 (B:=⟨w0,λ_=>False,m,0,λ_=>none,avt.length+(fn.ntmps -avt.length),[]⟩) (OK.F _ _ hF).1 hb rfl rfl (ta OK mx (PT _) rfl rfl rfl _ _ _ _ _ e2 (λr hr=>by cases hr) (σ:=⟨λ_=>none,m⟩) ⟨by simp[hl],rfl,tr (Cx (q1 A) (dH:=[])),Mem.start K⟩) λR d=>⟨λkr=>?_,λkp=>by cases kp⟩;obtain⟨ls',f1,f3⟩:=Kb _ _ _ _ kr;obtain⟨pv,g1,g3⟩:=f3 [];rw[dW,<-qa _ _ _ f1] at g1;obtain⟨z1,z2⟩:=g3 (Mem.Xf K R.mem) d;rw[<-qa _ _ _ f1] at z2;exact⟨_,rfl,R.mem.base.below,pv,g1,z2,z1⟩
end
theorem Mem.kn{B:Bs}{σ:Ren}{G A:Nat->SO->Prop}{F:Nat->Prop}{w:World}(M:Mem B σ G F w):Kn (kv σ A w) w:=λb i v h=>by
 unfold kv at h;split at h
 ·exact h
 ·exact M.lit b i v h
section
variable{β:Type}
def JF(avt:List VT)(rvt:VT)(Sh:Fn (VT.eZ avt) (Option (bL rvt.ks))):cA β:=λst args K=>
 cond (qv rvt)
  (rO st avt args λls=>ob (iz (VT.eZ avt) Sh ls) λr=>ob (Ig rvt (gL rvt.ks r)) λq=>K false q.1 st)
  (rO {st with h:=(jg 1000 (SV.jY args) .nil st.h).1 } avt args λls=>ob (iz (VT.eZ avt) Sh ls) λr=>ob (Ig rvt (gL rvt.ks r)) λq=>K false q.1 {st with h:=(jg 1000 (SV.jY args) .nil st.h).2 })
theorem aaK{P:Program}{g:FuncId}{avt:List VT}{rvt:VT}{Sh:Fn (VT.eZ avt) (Option (bL rvt.ks))}(F:cL P g avt rvt Sh):mB P g (JF (β:=β) avt rvt Sh):=by
 intro st args K b e;unfold JF at e;cases hs:qv rvt with
 |true=>rw[hs] at e;obtain⟨ls,h1,h3⟩:=u5 _ _ _ _ e;obtain⟨r,k1,h1⟩:=ax h1;obtain⟨⟨sv,rest⟩,k2,h1⟩:=ax h1;obtain⟨us,p1,p3⟩:=h3 [];rw[dW] at p1;refine⟨false,sv,st,h1,rfl,aM _,λ{B σ Fr w} _ M args' d=>?_⟩;obtain⟨A,lo⟩:=p3 (M.seen λ_ _ h=>h) d;refine Calls.mono (F ls r k1 lo us p1 _ args' w M.kn A) λx w' ⟨v',e1,Bl,pv,g1,g2,g3⟩=>?_;obtain⟨_,q,_⟩:=JA _ _ _ _ _ _ g2 g1 k2;exact⟨σ,v',e1,Ext.refl _,q (WS _ _ _ _ hs g1 _ _ _ g3),(M.same (.K3 Bl)).less (λ_ _ h=>h) λ_ h=>h.1⟩
 |false=>
  rw[hs] at e;obtain⟨m1,m2⟩:=xB 1000 (SV.jY args) .nil st.h (λid so q=>by rw[Tr.get_nil] at q;cases q) (λid so q=>⟨q,Tr.get_nil _⟩);generalize hA:(jg 1000 (SV.jY args) .nil st.h).1 =A at e m1 m2;generalize hB:(jg 1000 (SV.jY args) .nil st.h).2 =Bh at e m1 m2;obtain⟨ls,h1,h3⟩:=u5 _ _ _ _ e;obtain⟨r,k1,h1⟩:=ax h1;obtain⟨⟨sv,rest⟩,k2,h1⟩:=ax h1;obtain⟨us,p1,p3⟩:=h3 [];rw[dW] at p1;refine⟨false,sv,{st with h:=Bh},h1,rfl,aM _,λ{B σ Fr w} _ M args' d=>?_⟩
  obtain⟨E,M1⟩:=M.An (A:=hG A) (G':=hG Bh) (λi s h=>(m1 i s h).1) (λi s h=>⟨s,(m2 i s h).1,λs' q=>by have:=(m2 i s h).2;rw[show A.get i=some s' from q] at this;cases this⟩) λE i s h=>(M.obj i s (m2 i s h).1).mono E λ_ _ _=>rfl;obtain⟨A',lo⟩:=p3 (M.seen λi s h=>(m1 i s h).1) d;have K:Kn (kv σ (hG A) w) w:=M.kn;refine Calls.mono (F ls r k1 lo us p1 _ args' w K A') λx w' ⟨v',e1,Bl,pv,g1,g2,g3⟩=>?_;obtain⟨_,q,_⟩:=JA _ _ _ _ _ _ g2 g1 k2;have M2:=M1.lits (.K3 Bl) (m:=cG (kv σ (hG A) w) w w') K.mono (K.new Bl) λb i v h=>by
   unfold cG at h;split at h
   ·exact .inl h
   ·rename_i z;exact .inr (Nat.not_lt.1 z)
  exact⟨⟨σ.nm,cG (kv σ (hG A) w) w w'⟩,v',e1,E.trans ⟨λ_ _ h=>h,K.mono⟩,q g3,M2.less (λ_ _ h=>h) λ_ h=>h.1⟩
end
mutual
def fits(st:St):VT->SV->Bool
 | .i k,.i k' _=>decide (k=k')
 | .b,.b _=>true
 | .s,.s _=>true
 | .v,.v _=>true
 | .v,.nl=>true
 | .v,.ni=>true
 | .v,.gr _ _=>true
 | .v,.sl _ _ _ _=>true
 | .agg ts,.agg l=>uZ st ts l
 | .aH ts,.aH l=>uZ st ts l
 | .fn f ts,.fn f' l=>Nat.beq f f'&&uZ st ts l
 | .em b,.em b'=>b==b'
 | .nf,.v .nilFunc=>true
 | .lp _,.lp _=>true
 | .lp ts,.ptr id off=>match st.h.get id with
  |some (.cells c _)=>uZ st ts (c.drop off)
  |_=>false
 |_,_=>false
def uZ(st:St):List VT->List SV->Bool
 |[],[]=>true
 |t::ts,x::xs=>fits st t x&&uZ st ts xs
 |_,_=>false
end
def LZ(pt:(β:Type)->FuncId->Option (cA β))(g:FuncId)(avt:List VT)(rvt:VT)(Sh:Fn (VT.eZ avt) (Option (bL rvt.ks))):(β:Type)->FuncId->Option (cA β):=
 λβ f=>cond (Nat.beq f g) (some λst args K=>cond (uZ st avt args) (JF avt rvt Sh st args K) (ob (pt β f) λe=>e st args K)) (pt β f)
theorem iF{P:Program}{pt:(β:Type)->FuncId->Option (cA β)}(PT:jl P pt){g:FuncId}{avt:List VT}{rvt:VT}{Sh:Fn (VT.eZ avt) (Option (bL rvt.ks))}(F:cL P g avt rvt Sh):jl P (LZ pt g avt rvt Sh):=by
 intro β f e h;unfold LZ at h;cases hb:Nat.beq f g with
 |true=>
  rw[hb] at h;have hg:=bV hb;subst hg;cases h;intro st args K b k;cases hf:uZ st avt args with
  |true=>simp[hf] at k;exact aaK F st args K b k
  |false=>simp[hf] at k;obtain⟨e0,h0,k⟩:=ax k;exact PT β f e0 h0 st args K b k
 |false=>rw[hb] at h;exact PT β f e h
theorem DW{P:Program}{g:FuncId}{Sh0:Fn (VT.eZ [.v]) (Option (bL (VT.ks .v)))}(F:cL P g [.v] .v Sh0)(Fz:cL P g [.em false] .v (some (ae 0 [])))(Fn:cL P g [.em true] .v (some (ae 0 []))):
 cL P g [.v] .v (λx=>au x λn=>cond (Nat.beq n 0) (some (ae 0 [])) (Sh0 x)):=by
 intro ls r e lo us hu;have hls:∃x,ls=[.v x]:=by
  cases ls with
  |nil=>cases e
  |cons l ls=>
   cases l with
   |v x=>
    cases ls with
    |nil=>simp
    |cons _ _=>cases hu
   |_=>cases e
 obtain⟨x,rfl⟩:=hls;have e:(au x λn=>cond (Nat.beq n 0) (some (ae 0 [])) (Sh0 x))=some r:=e;unfold au at e;split at e
 ·rename_i n p f cs ys hxx;replace e:cond (Nat.beq n 0) (some (ae 0 [])) (iz (VT.eZ [.v]) Sh0 [.v (.func (.via n p f true) cs ys)])=some r:=e;cases hn:Nat.beq n 0 with
  |false=>rw[hn] at e;exact F _ r e lo us hu
  |true=>
   have hn:=bV hn;subst hn;cases e;cases hu;intro m args' w K A;obtain⟨y,l,h1,h2,h3⟩:=A.inv;have h3:=h3.dO;subst h3;have key:∃a c,y=.slice a 0 c:=by cases h2<;>exact⟨_,_,rfl⟩
   obtain⟨a,c,rfl⟩:=key;cases a with
   |none=>exact Fn [] (ae 0 []) rfl fj.nil [DG true] rfl m args' w K (by rw[h1];exact .cons .AJ .nil)
   |some a=>exact Fz [] (ae 0 []) rfl fj.nil [DG false] rfl m args' w K (by rw[h1];exact .cons .zk .nil)
 ·cases e
end
section
variable{β:Type}
structure HT where
 n:Nat
 ti:cJ
 an:Nat
 to:cJ
theorem AI{t:cJ}{ls:List bq}{st:St}(e:il t ls=some st):st.sx=t.sx:=by
 obtain⟨p,h1,e⟩:=ax e;obtain⟨q,h2,e⟩:=ax e
 grind
def ug(t:cJ):VT:=match t.HZ with
 |(_,v)::_=>v
 |[]=>.b
def E9:Nat->VT->Bool
 |0,_=>false
 |f+1,t=>match t with
  | .agg l=>l.all (E9 f)
  | .aH l=>l.all (E9 f)
  | .i _=>true
  | .b=>true
  | .s=>true
  | .v=>true
  |_=>false
def xn:Nat->SV->List Nat
 |0,_=>[]
 |f+1,x=>match x with
  | .agg l=>l.flatMap (xn f)
  | .aH l=>l.flatMap (xn f)
  | .gr id _=>[id]
  |_=>[]
def ui(h:Tr SO):List Nat->Tr SO
 |[]=>.nil
 |i::l=>match h.get i with
  |some s=>(ui h l).set i s
  |none=>ui h l
def uS(h:Tr SO):List Nat->Tr SO
 |[]=>h
 |i::l=>(uS h l).del i
theorem CF{h:Tr SO}{i:Nat}{s:SO}:∀{l:List Nat},(ui h l).get i=some s->h.get i=some s/\i∈l
 |[],q=>by have q:(Tr.nil:Tr SO).get i=some s:=q;rw[Tr.get_nil] at q;cases q
 |j::l,q=>by
  unfold ui at q;split at q
  ·rename_i s' hs;rw[Tr.fE] at q;by_cases z:i=j
   ·grind
   ·rw[aq z] at q;have:=CF q;simp_all
  ·have:=CF q
   grind
theorem DB{h:Tr SO}{i:Nat}{s:SO}:∀{l:List Nat},(uS h l).get i=some s->h.get i=some s/\i∉l
 |[],q=>⟨q,by simp⟩
 |j::l,q=>by
  have q:((uS h l).del j).get i=some s:=q;rw[Tr.rP] at q;by_cases z:i=j
  ·grind
  ·rw[aq z] at q;have:=DB q
   grind
def vD(h:Tr SO):Nat->SV->Option SV
 |0,_=>none
 |f+1,x=>match x with
  | .agg l=>ob (tw (vD h f) l) λp=>some (.agg p)
  | .aH l=>ob (tw (vD h f) l) λp=>some (.aH p)
  | .i k n=>some (.i k n)
  | .b q=>some (.b q)
  | .s q=>some (.s q)
  |x=>ob (gv h 1 x) λu=>some (.v u)
def rz(t:VT)(sv:SV)(st:St)(K:SV->St->Option β):Option β:=match t,sv with
 | .aH ts,.aH l=>cond (E9 5 (.aH ts)&&!(xn 5 (.aH l)).isEmpty) (ob (vD (ui st.h (xn 5 (.aH l))) 5 (.aH l)) λp=>K p {st with h:=uS st.h (xn 5 (.aH l))}) (K (.aH l) st)
 | .v,.gr id E=>ob (vD (ui st.h [id]) 1 (.gr id E)) λp=>K p {st with h:=uS st.h [id]}
 |_,sv=>K sv st
theorem MQ{σ:Ren}{m:Nat->Nat->Option Value}{h:Tr SO}{w:World}(S:Seen σ m h w):∀(f:Nat)(x x':SV)(v:Value),vD h f x=some x'->DV σ x v->DV ⟨σ.nm,m⟩ x' v
 |0,x,p,v,e,_=>by cases e
 |f+1,x,p,v,e,d=>by
  unfold vD at e;split at e
  ·obtain⟨q,h1,e⟩:=ax e;cases e;cases d with
   |agg hl ds=>have q:=u7 (λx u v=>MQ S f x u v) h1 ⟨hl,ds⟩;exact .agg q.1 q.2
  ·obtain⟨q,h1,e⟩:=ax e;cases e;cases d with
   |aH hl ds=>have q:=u7 (λx u v=>MQ S f x u v) h1 ⟨hl,ds⟩;exact .aH q.1 q.2
  ·cases e;cases d;exact .i _ _
  ·cases e;cases d;exact .b _
  ·cases e;cases d;exact .s _
  ·obtain⟨u,h1,e⟩:=ax e;cases e;obtain⟨a,b⟩:=ox S 1 _ _ _ h1 d;exact .v a b
theorem FF{t:VT}{sv:SV}{st:St}{K:SV->St->Option β}{b:β}(e:rz t sv st K=some b):
 ∃sv2 st2,K sv2 st2=some b/\∀{B:Bs}{σ:Ren}{w:World}{v:Value},DV σ sv v->iY B σ st.h st.sx w->∃σ',DV σ' sv2 v/\iY B σ' st2.h st2.sx w:=by
 have key:∀{ids:List Nat}{f:Nat}{p:SV},vD (ui st.h ids) f sv=some p->∀{B:Bs}{σ:Ren}{w:World}{v:Value},DV σ sv v->iY B σ st.h st.sx w->∃σ',DV σ' p v/\iY B σ' (uS st.h ids) st.sx w:=λ{ids f p} h B σ w v d M=>
  ⟨_,MQ (M.seen λi s h=>(CF h).1) _ _ _ _ h d,(M.An (A:=hG (ui st.h ids)) (G':=hG (uS st.h ids)) (λi s h=>(CF h).1) (λi s h=>⟨s,(DB h).1,λs' q=>(DB h).2 (CF q).2⟩) λE i s h=>(M.obj i s (DB h).1).mono E λ_ _ _=>rfl).2⟩
 unfold rz at e;split at e
 ·rename_i ts l;generalize xn 5 (.aH l)=ids at e;cases hc:E9 5 (.aH ts)&&!ids.isEmpty with
  |false=>rw[hc] at e;exact⟨_,_,e,λd M=>⟨_,d,M⟩⟩
  |true=>rw[hc] at e;obtain⟨p,h1,f⟩:=ax e;exact⟨_,_,f,key h1⟩
 ·obtain⟨p,h1,f⟩:=ax e;exact⟨_,_,f,key h1⟩
 ·exact⟨_,_,e,λd M=>⟨_,d,M⟩⟩
def CV(P:Program)(g:FuncId)(n an:Nat)(st so:St)(p:Bool):Prop:=∀{B:Bs}{σ:Ren}{w:World}(args':Array Value),args'.size=n->B.an=an->Ev σ st.tm ⟨args',[]⟩->iY B σ st.h st.sx w->
 Calls P g args' w λx w'=>∃σ' v,x=End p v/\(∀sv,so.tm.get 0=some sv->DV σ' sv v)/\iY B σ' so.h so.sx w'
def na(P:Program)(g:FuncId)(T:HT)(Sh:Fn T.ti.ks (Option (bL T.to.ks))):Prop:=
 ∀ls r st so,iz T.ti.ks Sh ls=some r->il T.ti ls=some st->il T.to (gL T.to.ks r)=some so->CV P g T.n T.an st so false
theorem Mem.nd{B:Bs}{σ:Ren}{G:Nat->SO->Prop}{F:Nat->Prop}{w:World}{n:Nat}{dH:List Deferred}(M:Mem B σ G F w):Mem {B with n:=n,dH:=dH} σ G F w:=⟨M.obj,M.inj,M.fresh,M.lit,M.free,M.base,M.owned,M.mf,M.ko,M.nF⟩
theorem xV{B:Bs}{to:cJ}{sv:SV}{st so:St}{K:List bq->Option β}{b:β}{L:List bq}(e:kV B.an to ⟨Tr.nil.set 0 sv,st.h,st.sx⟩ K=some b)(hL:∀ls,K ls=some b->L=ls)(hso:il to L=some so){σ:Ren}{w:World}{v:Value}(d:DV σ sv v)(M:iY B σ st.h st.sx w):
 ∃σ',(∀sv,so.tm.get 0=some sv->DV σ' sv v)/\iY B σ' so.h so.sx w:=by
 obtain⟨ls,q1,st',q2,_,q4⟩:=uV e;rw[hL _ q1,q2] at hso;cases hso;obtain⟨σ',z1,z2⟩:=q4 (σ:=σ) (a:=⟨#[v],[]⟩) (w:=w) (λt x h=>by
  rw[Tr.fE] at h;split at h
  ·rename_i q;subst q;cases h;exact d
  ·rw[Tr.get_nil] at h;cases h) M
 exact⟨σ',λx h=>z1 0 x h,z2⟩
noncomputable def Jb[QF](w:Nat)(X:ew)(pt:(β:Type)->FuncId->Option (cA β))(fn:Func)(T:HT)(lv jv:Nat->Option cJ)(un:Nat->Bool):Fn T.ti.ks (Option (bL T.to.ks)):=
 lX T.ti.ks λls=>ob (il T.ti ls) λst=>dn {X:=X,pt:=pt _,n:=T.n+(fn.ntmps -T.n),rs:=fn.results.toList,lv:=lv,jv:=jv,un:=un,df:=false,fuel:=w,an:=T.an,ij:=λsv st=>rz (ug T.to) sv st λsv st=>kV T.an T.to ⟨Tr.nil.set 0 sv,st.h,st.sx⟩ (dec T.to.ks),ma:=λ_ _=>bI 52} 100000 [] [.code (fn.body.getD .skip)] st
theorem DU[QF]{P:Program}{X:ew}(OK:iJ P X)(mx:P.follows .mixedOrders=true){pt:(β:Type)->FuncId->Option (cA β)}(PT:jl P pt){g:FuncId}{fn:Func}{T:HT}{lv jv:Nat->Option cJ}{un:Nat->Bool}{w:Nat}{Sh:Fn T.ti.ks (Option (bL T.to.ks))}
 (hF:X.F.get g=some fn) (hb:fn.body=some (fn.body.getD .skip)) (hS:Sh=Jb w X pt fn T lv jv un):na P g T Sh:=by
 intro ls r st so e hst hso B σ w0 args' hn ha ev M;subst hS;have e1:=np _ _ _ _ e;obtain⟨st1,g1,e2⟩:=ax e1;rw[hst] at g1;cases g1;refine z8 (B:={B with n:=T.n+(fn.ntmps -T.n),dH:=[]}) (OK.F _ _ hF).1 hb rfl rfl (ta OK mx (PT _) rfl rfl ha _ _ _ _ _ e2 (λr hr=>by cases hr) ⟨by simp[hn],rfl,tr ev,M.nd⟩) λR d=>⟨λkr=>?_,λkp=>by cases kp⟩
 obtain⟨sv2,st2,k1,k2⟩:=FF (t:=ug T.to) (K:=λsv st=>kV T.an T.to ⟨Tr.nil.set 0 sv,st.h,st.sx⟩ (dec T.to.ks)) kr;obtain⟨σ2,d2,M2⟩:=k2 d R.mem.nd;obtain⟨σ3,z1,z2⟩:=xV (B:=B) (by rw[ha];exact k1) (λls q=>qa _ _ _ q) hso d2 M2;exact⟨σ3,_,rfl,z1,z2⟩
mutual
def pC(f:Nat->Nat):SV->SV
 | .ptr id off=>.ptr (f id) off
 | .sl id off n c=>.sl (f id) off n c
 | .gr id E=>.gr (f id) E
 | .agg l=>.agg (tQ f l)
 | .aH l=>.aH (tQ f l)
 | .fn g l=>.fn g (tQ f l)
 | .fF t x=>.fF t (pC f x)
 | .em b=>.em b
 | .ni=>.ni
 | .mp id=>.mp (f id)
 | .i k n=>.i k n
 | .b x=>.b x
 | .s x=>.s x
 | .v x=>.v x
 | .nl=>.nl
 | .lp c=>.lp c
def tQ(f:Nat->Nat):List SV->List SV
 |[]=>[]
 |x::xs=>pC f x::tQ f xs
end
def Fm(f:Nat->Nat):SO->SO
 | .cells c t=>.cells (tQ f c) t
 | .arr c t=>.arr c t
 | .grow E c t=>.grow E c t
 | .mp es=>.mp (es.map λe=>(e.1,pC f e.2))
theorem Wp{f:Nat->Nat}:∀l:List SV,tQ f l=l.map (pC f)
 |[]=>rfl
 |x::l=>by unfold tQ;rw[Wp l];rfl
theorem Fo{σ':Ren}{f:Nat->Nat}{l:List SV}{ys:List Value}(hl:l.length=ys.length)(ih:∀(i:Nat) x y,l[i]? =some x->ys[i]? =some y->DV σ' (pC f x) y):eV σ' (tQ f l) ys:=by rw[Wp];refine⟨by simp[hl],λi x y a b=>?_⟩;rw[List.getElem?_map] at a;obtain⟨x',a1,rfl⟩:=Option.map_eq_some_iff.1 a;exact ih i x' y a1 b
theorem MD{σ σ':Ren}{f:Nat->Nat}(hl:σ'.lit=σ.lit)(e:∀k x,σ.nm k=some x->σ'.nm (f k)=some x){x:SV}{v:Value}(d:DV σ x v):DV σ' (pC f x) v:=by
 induction d with
 |i=>exact .i _ _
 |b=>exact .b _
 |s=>exact .s _
 |v h h1=>exact .v (hl▸h) h1
 |nl=>exact .nl
 |agg kl _ ih=>have q:=Fo kl ih;exact .agg q.1 q.2
 |aH kl _ ih=>have q:=Fo kl ih;exact .aH q.1 q.2
 |ptr h=>exact .ptr (e _ _ h)
 |lp h=>exact .lp (hl▸h)
 |sl h hn=>exact .sl (e _ _ h) hn
 |jI h=>exact .jI (e _ _ h)
 |gr h hc hn=>exact .gr (e _ _ h) hc hn
 |fn kl _ ih=>have q:=Fo kl ih;exact .fn q.1 q.2
 |fF _ ih=>exact .fF ih
 |em h=>exact .em (hl▸h)
 |ni=>exact .ni
 |mp h=>exact .mp (e _ _ h)
theorem ahS{σ σ':Ren}{f:Nat->Nat}(hl:σ'.lit=σ.lit)(e:∀k x,σ.nm k=some x->σ'.nm (f k)=some x){w:World}{k:Nat}{so:SO}(d:DO σ w k so):DO σ' w (f k) (Fm f so):=by
 cases so with
 |cells c t=>obtain⟨o,n,vs,a,b,c⟩:=d;exact⟨o,n,vs,e _ _ a,b,Fo c.1 λi x y h1 h2=>MD hl e (c.2 i x y h1 h2)⟩
 |arr c t=>obtain⟨o,n,vs,a,b,c⟩:=d;exact⟨o,n,vs,e _ _ a,b,hl▸c⟩
 |grow E c t=>
  obtain⟨a,p,g⟩:=d;refine⟨a,p,?_⟩;rcases g with⟨g,h⟩|⟨o,n,cs,g,h⟩
  ·exact .inl ⟨e _ _ g,h⟩
  ·exact .inr ⟨o,n,cs,e _ _ g,hl▸h⟩
 |mp es=>obtain⟨o,n,es',ck,a,b,c⟩:=d;refine⟨o,n,es',ck,e _ _ a,b,by simp[c.1],λi x y h1 h2=>?_⟩;rw[List.getElem?_map] at h1;obtain⟨x',h3,rfl⟩:=Option.map_eq_some_iff.1 h1;have q:=c.2 i x' y h3 h2;exact⟨q.1,MD hl e q.2⟩
def mM(an sx:Nat)(m:Mp)(k:Nat):Nat:=cond (Nat.blt k an) (match ea k m with
 |some (some a)=>a
 |_=>0) (sx+k)
def rT(h:Tr SO):Mp->Bool
 |[]=>true
 |(_,some a)::m=>(match h.get a with|some _=>rT h m|none=>false)
 |(_,none)::m=>rT h m
def sW(m:Mp):Nat->Bool
 |0=>true
 |n+1=>(match ea n m with|some (some _)=>sW m n|_=>false)
def rL:Mp->Tr SO->Tr SO
 |[],h=>h
 |(_,some a)::m,h=>rL m (h.del a)
 |(_,none)::m,h=>rL m h
def qW(f:Nat->Nat)(s:Tr SO):List (Nat×OT)->Tr SO->Tr SO
 |[],h=>h
 |(k,_)::l,h=>match s.get k with
  |some so=>(qW f s l h).set (f k) (Fm f so)
  |none=>qW f s l h
def Q1(T:HT)(Sh:Fn T.ti.ks (Option (bL T.to.ks))):cA β:=λst args K=>
 cond (Nat.beq args.length T.n) (uU [] T.ti ⟨oJ args 0 .nil,st.h,st.sx⟩ λls m=>
  cond (rT st.h m&&sW m T.an) (ob (iz T.ti.ks Sh ls) λr=>ob (il T.to (gL T.to.ks r)) λso=>ob (so.tm.get 0) λsv=>
   K false (pC (mM T.an st.sx m) sv) ⟨st.tm,qW (mM T.an st.sx m) so.h T.to.qg (rL m st.h),st.sx+T.to.sx⟩) none) none
theorem vl{h:Tr SO}:∀{m:Mp},rT h m=true->∀k a,ea k m=some (some a)->∃so,h.get a=some so
 |[],_,k,a,e=>by cases e
 |(j,x)::m,hl,k,a,e=>by
  rw[qQ] at e;cases x with
  |none=>
   by_cases q:j=k
   ·grind
   ·rw[aq q] at e;exact vl (m:=m) hl k a e
  |some y=>
   unfold rT at hl;split at hl
   ·rename_i so hso;by_cases q:j=k
    ·grind
    ·rw[aq q] at e;exact vl hl k a e
   grind
theorem wS{m:Mp}:∀{n:Nat},sW m n=true->∀k,k<n->∃a,ea k m=some (some a)
 |0,_,k,h=>by omega
 |n+1,e,k,h=>by
  unfold sW at e;split at e
  ·rename_i a ha;by_cases q:k=n
   ·grind
   ·exact wS e k (by omega)
  grind
def D7(a:Nat):Mp->Prop
 |[]=>False
 |(_,x)::m=>x=some a\/D7 a m
theorem Jt:∀{m:Mp}{h:Tr SO}{id:Nat}{so:SO},(rL m h).get id=some so->h.get id=some so/\¬D7 id m
 |[],h,id,so,e=>⟨e,λh=>h⟩
 |(j,none)::m,h,id,so,e=>by
  obtain⟨a,b⟩:=Jt (m:=m) e;exact⟨a,λq=>by
   rcases q with q|q
   ·grind
   ·exact b q⟩
 |(j,some x)::m,h,id,so,e=>by
  obtain⟨a,b⟩:=Jt (m:=m) e;rw[Tr.rP] at a;by_cases q:id=x
  ·grind
  ·rw[aq q] at a;exact⟨a,λw=>by
    rcases w with w|w
    ·grind
    ·exact b w⟩
theorem Se:∀{m:Mp}{k a:Nat},ea k m=some (some a)->D7 a m
 |[],k,a,e=>by cases e
 |(j,x)::m,k,a,e=>by
  rw[qQ] at e;by_cases q:j=k
  ·rw[ay q] at e;cases e;exact .inl rfl
  ·rw[aq q] at e;exact .inr (Se e)
theorem Mi{f:Nat->Nat}{s:Tr SO}:∀{l:List (Nat×OT)}{h:Tr SO}{id:Nat}{so:SO},(qW f s l h).get id=some so->h.get id=some so\/∃k x,id=f k/\s.get k=some x/\so=Fm f x
 |[],h,id,so,e=>.inl e
 |(k,t)::l,h,id,so,e=>by
  unfold qW at e;split at e
  ·rename_i x hx;rw[Tr.fE] at e;by_cases q:id=f k
   ·grind
   ·rw[aq q] at e;exact Mi e
  ·exact Mi e
theorem Ac{P:Program}{g:FuncId}{an n:Nat}{qg:List (Nat×OT)}{st:St}{args:List SV}{m:Mp}{stT so:St}{sv:SV}{pb:Bool}(hlen:args.length=n)(hinj:lD m)(hsx:∀id x,ea id m=some x->id<stT.sx)
 (h4:∀{σ:Ren}{a:Act}{w:World},Ev σ (oJ args 0 .nil) a->(∀id so,st.h.get id=some so->DO σ w id so)->Ev (σm σ m) stT.tm a/\∀id so,stT.h.get id=some so->DO (σm σ m) w id so/\(ea id m=some none\/∃a so',ea id m=some (some a)/\st.h.get a=some so'))
 (L:∀k a,ea k m=some (some a)->∃so,st.h.get a=some so) (A:∀k,k<an->∃a,ea k m=some (some a)) (k3:so.tm.get 0=some sv) (Fg:CV P g n an stT so pb)
 {B:Bs} {σ:Ren} {F:Nat->Prop} {w:World} (hF:∀id,st.sx<=id->id<st.sx+so.sx->F id) (M:Mem B σ (hG st.h) F w) (args':Array Value) (d:eV σ args args'.toList):
 Calls P g args' w λx w'=>∃σ' v,x=End pb v/\Ext σ σ'/\DV σ' (pC (mM an st.sx m) sv) v/\Mem B σ' (hG (qW (mM an st.sx m) so.h qg (rL m st.h))) (lY F st.sx (st.sx+so.sx)) w':=by
 let G':Nat->SO->Prop:=λid x=>st.h.get id=some x/\D7 id m
 have sG:∀id x,G' id x->hG st.h id x:=λ_ _ h=>h.1;obtain⟨ev,ob⟩:=h4 (σ:=σ) (a:=⟨args',[]⟩) (w:=w) (Cx d) M.obj;have MT:iY ⟨w,Own σ G',σ.lit,an,(σm σ m).nm,0,[]⟩ (σm σ m) stT.h stT.sx w:=(M.DX sG).map hinj hsx (λid x h=>⟨(ob id x h).1,(ob id x h).2.imp_right λ⟨a,s,h1,h2⟩=>⟨a,s,h1,h2,Se h1⟩⟩) (eM.refl _ _) (λb q=>.inl q) (λ_ _ _ q=>.inl q) (λ_ _ _ q=>q) λ_ _ _ q=>q;refine Calls.mono (Fg args' (by rw[<-hlen,d.1,Array.length_toList]) rfl ev MT) λx w' ⟨σ2,v,e1,dv,M2⟩=>?_;generalize hf:mM an st.sx m=f
 let σn:Ren:=⟨λid=>if st.sx<=id/\id<st.sx+so.sx then σ2.nm (id -st.sx) else σ.nm id,σ2.lit⟩
 have E:Ext σ σn:=⟨λid x e=>by show(if _ then _ else _)=_;rw[aq λq=>by rw[M.fresh id (hF id q.1 q.2)] at e;cases e];exact e,M2.nF⟩;have n1:∀k x,σ2.nm k=some x->σn.nm (f k)=some x:=λk x e=>by
  rcases gW k an with hk|hk
  ·obtain⟨a,ha⟩:=A k hk;obtain⟨s0,hs0⟩:=L k a ha;have fk:f k=a:=by
    rw[<-hf];unfold mM;rw[show Nat.blt k an=true from CT hk,aD,ha]
   have hy:∃y,σ.nm a=some y:=(M.obj a s0 hs0).nm.elim (λq=>⟨_,q⟩) λ⟨_,_,q,_⟩=>⟨_,q⟩;obtain⟨y,hy⟩:=hy;have:=M2.ko k hk y ((σm_some ha).trans hy);rw[e] at this;cases this;rw[fk];exact E.nm _ _ hy
  ·have lt:k<so.sx:=Nat.not_le.1 λq=>by rw[M2.fresh k q] at e;cases e
   have fk:f k=st.sx+k:=by rw[<-hf];unfold mM;rw[show Nat.blt k an=false from Bool.eq_false_iff.2 λq=>by have:=eQ q;omega];rfl
   rw[fk];show(if _ then _ else _)=_;rw[ay ⟨by omega,by omega⟩,show st.sx+k -st.sx=k by omega];exact e
 have back:∀{k y o n},so.h.get k=some y->σn.nm (f k)=some (some o,n)->σ2.nm k=some (some o,n):=λ{k y o n} h1 h2=>by rcases(M2.obj k y h1).nm with q|⟨_,_,q,_⟩<;>rw[n1 _ _ q] at h2<;>cases h2;exact q
 have M3:Mem (Bg w (Own σ G') σ.lit) σn (λid x=>∃k y,id=f k/\so.h.get k=some y/\x=Fm f y) (lY F st.sx (st.sx+so.sx)) w':=by
  refine⟨λid x ⟨k,y,h1,h2,h3⟩=>?_,λi j s s' o o' n n' ⟨k,y,h1,h2,_⟩ ⟨k',y',h1',h2',_⟩ p p' q=>?_,λid h=>?_,M2.lit,λb i v q ⟨id,x,o,n,⟨k,y,h1,h2,_⟩,p,r⟩=>?_,M2.base,λb ⟨id,x,o,n,⟨k,y,h1,h2,_⟩,p,r⟩=>?_,M2.mf,λk hk=>(Nat.not_lt_zero k hk).elim,M2.nF⟩
  ·rw[h1,h3];exact ahS (σ:=σ2) (σ':=σn) rfl n1 (M2.obj k y h2)
  ·rw[h1] at p⊢;rw[h1'] at p'⊢;rw[M2.inj _ _ _ _ _ _ _ _ h2 h2' (back h2 p) (back h2' p') q]
  ·show(if _ then _ else _)=_;rw[aq h.2];exact M.fresh id h.1
  ·rw[h1] at p;exact M2.free b i v q ⟨k,y,o,n,h2,back h2 p,r⟩
  ·rw[h1] at p;exact M2.owned b ⟨k,y,o,n,h2,back h2 p,r⟩
 refine⟨σn,v,e1,E,MD (σ:=σ2) (σ':=σn) rfl n1 (dv sv k3),(M.frame sG E M3).less (λid x h=>?_) λ_ h=>h⟩;rcases Mi h with q|q
 ·have⟨q1,q2⟩:=Jt q;exact .inr ⟨q1,λs' z=>q2 z.2⟩
 ·exact .inl q
theorem aaJ{P:Program}{g:FuncId}{T:HT}{Sh:Fn T.ti.ks (Option (bL T.to.ks))}(F:na P g T Sh):mB P g (Q1 (β:=β) T Sh):=by intro st args K b e;obtain⟨hlen,e⟩:=aX e;obtain⟨ls,m,h1,_,hinj,hsx,stT,h2,h3,h4⟩:=DM (λi j a q=>by cases q) e;obtain⟨hl,h1⟩:=aX h1;rw[bu] at hl;obtain⟨r,k1,h1⟩:=ax h1;obtain⟨so,k2,h1⟩:=ax h1;obtain⟨sv,k3,h1⟩:=ax h1;have sx:=AI k2;rw[<-sx] at h1;exact⟨false,_,_,h1,rfl,Nat.le_add_right _ _,λhF M args' d=>Ac (bV hlen) hinj (by rw[h3];exact hsx) h4 (vl hl.1) (wS hl.2) k3 (F ls r stT so k1 h2 k2) hF M args' d⟩
def Rt(T:HT)(st:St)(args:List SV):Bool:=cond (Nat.beq args.length T.n) ((uU (β:=Unit) [] T.ti ⟨oJ args 0 .nil,st.h,st.sx⟩ λ_ m=>cond (rT st.h m&&sW m T.an) (some ()) none).isSome) false
def Ma(pt:(β:Type)->FuncId->Option (cA β))(g:FuncId)(T:HT)(Sh:Fn T.ti.ks (Option (bL T.to.ks))):(β:Type)->FuncId->Option (cA β):=
 λβ f=>cond (Nat.beq f g) (some λst args K=>cond (Rt T st args) (Q1 T Sh st args K) (ob (pt β f) λe=>e st args K)) (pt β f)
theorem oD{P:Program}{pt:(β:Type)->FuncId->Option (cA β)}(PT:jl P pt){g:FuncId}{T:HT}{Sh:Fn T.ti.ks (Option (bL T.to.ks))}(F:na P g T Sh):jl P (Ma pt g T Sh):=by
 intro β f e h;unfold Ma at h;cases hb:Nat.beq f g with
 |true=>
  rw[hb] at h;have hg:=bV hb;subst hg;cases h;intro st args K b k;cases hf:Rt T st args with
  |true=>simp[hf] at k;exact aaJ F st args K b k
  |false=>simp[hf] at k;obtain⟨e0,h0,k⟩:=ax k;exact PT β f e0 h0 st args K b k
 |false=>rw[hb] at h;exact PT β f e h
def lZ{α:Type}(z:α)(F:α->α)(n:Nat):α:=Nat.rec z (λ_ r=>F r) n
theorem aa8{P:Program}{g:FuncId}{T:HT}:na P g T (iU T.ti.ks):=λ_ _ _ _ e=>(zH _ _ _ e).elim
theorem aa9{P:Program}{g:FuncId}{avt:List VT}{rvt:VT}:cL P g avt rvt (iU (VT.eZ avt)):=λ_ _ e=>(zH _ _ _ e).elim
theorem J8{P:Program}{g:FuncId}{T:HT}{F:Fn T.ti.ks (Option (bL T.to.ks))->Fn T.ti.ks (Option (bL T.to.ks))}(h:∀r,na P g T r->na P g T (F r))(n:Nat):na P g T (lZ (iU T.ti.ks) F n):=by
 induction n with
 |zero=>exact aa8
 |succ n ih=>exact h _ ih
theorem Aj{P:Program}{g:FuncId}{avt:List VT}{rvt:VT}{F:Fn (VT.eZ avt) (Option (bL rvt.ks))->Fn (VT.eZ avt) (Option (bL rvt.ks))}(h:∀r,cL P g avt rvt r->cL P g avt rvt (F r))(n:Nat):cL P g avt rvt (lZ (iU (VT.eZ avt)) F n):=by
 induction n with
 |zero=>exact aa9
 |succ n ih=>exact h _ ih
end
section
variable{β:Type}
structure PT where
 n:Nat
 ti:cJ
 an:Nat
 to:cJ
 tp:cJ
def PT.out(T:PT)(p:Bool):cJ:=cond p T.tp T.to
def sO(P:Program)(g:FuncId)(T:PT)(Sh:Fn T.ti.ks (Option (bL T.to.ks⊕bL T.tp.ks))):Prop:=
 ∀ls r st,iz T.ti.ks Sh ls=some r->il T.ti ls=some st->∀(p:Bool)(l:List bq) so,(match r with| .inl a=>p=false/\l=gL T.to.ks a| .inr a=>p=true/\l=gL T.tp.ks a)->il (T.out p) l=some so->CV P g T.n T.an st so p
noncomputable def Qo[QF](w:Nat)(X:ew)(pt:(β:Type)->FuncId->Option (cA β))(fn:Func)(T:PT)(lv jv:Nat->Option cJ)(un:Nat->Bool):Fn T.ti.ks (Option (bL T.to.ks⊕bL T.tp.ks)):=
 lX T.ti.ks λls=>ob (il T.ti ls) λst=>dn {X:=X,pt:=pt _,n:=T.n+(fn.ntmps -T.n),rs:=fn.results.toList,lv:=lv,jv:=jv,un:=un,df:=false,fuel:=w,an:=T.an,ij:=λsv st=>rz (ug T.to) sv st λsv st=>kV T.an T.to ⟨Tr.nil.set 0 sv,st.h,st.sx⟩ λls=>ob (dec T.to.ks ls) λa=>some (.inl a),ma:=λsv st=>kV T.an T.tp ⟨Tr.nil.set 0 sv,st.h,st.sx⟩ λls=>ob (dec T.tp.ks ls) λa=>some (.inr a)} 100000 [] [.code (fn.body.getD .skip)] st
theorem Ry[QF]{P:Program}{X:ew}(OK:iJ P X)(mx:P.follows .mixedOrders=true){pt:(β:Type)->FuncId->Option (cA β)}(PTO:jl P pt){g:FuncId}{fn:Func}{T:PT}{lv jv:Nat->Option cJ}{un:Nat->Bool}{w:Nat}{Sh:Fn T.ti.ks (Option (bL T.to.ks⊕bL T.tp.ks))}
 (hF:X.F.get g=some fn) (hb:fn.body=some (fn.body.getD .skip)) (hS:Sh=Qo w X pt fn T lv jv un):sO P g T Sh:=by
 intro ls r st e hst p l so hr hso B σ w0 args' hn ha ev M;subst hS;have e1:=np _ _ _ _ e;obtain⟨st1,g1,e2⟩:=ax e1;rw[hst] at g1;cases g1;refine z8 (B:={B with n:=T.n+(fn.ntmps -T.n),dH:=[]}) (OK.F _ _ hF).1 hb rfl rfl (ta OK mx (PTO _) rfl rfl ha _ _ _ _ _ e2 (λr hr=>by cases hr) ⟨by simp[hn],rfl,tr ev,M.nd⟩) λR d=>⟨λkr=>?_,λkp=>?_⟩
 ·obtain⟨sv2,st2,k1,k2⟩:=FF (β:=bL T.to.ks⊕bL T.tp.ks) (t:=ug T.to) (K:=λsv st=>kV T.an T.to ⟨Tr.nil.set 0 sv,st.h,st.sx⟩ λls=>ob (dec T.to.ks ls) λa=>some (.inl a)) kr;obtain⟨σ2,d2,M2⟩:=k2 d R.mem.nd;replace k1:kV T.an T.to ⟨Tr.nil.set 0 sv2,st2.h,st2.sx⟩ (λls=>ob (dec T.to.ks ls) λa=>some (Sum.inl a))=some r:=k1;cases r with
  |inl a=>obtain⟨rfl,rfl⟩:=hr;obtain⟨σ3,z1,z2⟩:=xV (B:=B) (by rw[ha];exact k1) (λls q=>by obtain⟨a',q1,q2⟩:=ax q;cases q2;exact qa _ _ _ q1) hso d2 M2;exact⟨σ3,_,rfl,z1,z2⟩
  |inr a=>obtain⟨ls',q1,_⟩:=uV (B:=B) (by rw[ha];exact k1);obtain⟨a',_,q2⟩:=ax q1;cases q2
 ·replace kp:kV T.an T.tp ⟨Tr.nil.set 0 _,_,_⟩ (λls=>ob (dec T.tp.ks ls) λa=>some (Sum.inr a))=some r:=kp;cases r with
  |inl a=>obtain⟨ls',q1,_⟩:=uV (B:=B) (by rw[ha];exact kp);obtain⟨a',_,q2⟩:=ax q1;cases q2
  |inr a=>obtain⟨rfl,rfl⟩:=hr;obtain⟨σ3,z1,z2⟩:=xV (B:=B) (by rw[ha];exact kp) (λls q=>by obtain⟨a',q1,q2⟩:=ax q;cases q2;exact qa _ _ _ q1) hso d R.mem.nd;exact⟨σ3,_,rfl,z1,z2⟩
def dt{α γ δ:Type}(r:α⊕γ)(f:α->δ)(g:γ->δ):δ:=match r with
 | .inl a=>f a
 | .inr a=>g a
def Q2(T:PT)(Sh:Fn T.ti.ks (Option (bL T.to.ks⊕bL T.tp.ks))):cA β:=λst args K=>
 cond (Nat.beq args.length T.n) (uU [] T.ti ⟨oJ args 0 .nil,st.h,st.sx⟩ λls m=>
  cond (rT st.h m&&sW m T.an) (ob (iz T.ti.ks Sh ls) λr=>dt r
   (λa=>ob (il T.to (gL T.to.ks a)) λso=>ob (so.tm.get 0) λsv=>K false (pC (mM T.an st.sx m) sv) ⟨st.tm,qW (mM T.an st.sx m) so.h T.to.qg (rL m st.h),st.sx+T.to.sx⟩)
   (λa=>ob (il T.tp (gL T.tp.ks a)) λso=>ob (so.tm.get 0) λsv=>K true (pC (mM T.an st.sx m) sv) ⟨st.tm,qW (mM T.an st.sx m) so.h T.tp.qg (rL m st.h),st.sx+T.tp.sx⟩)) none) none
theorem aaL{P:Program}{g:FuncId}{T:PT}{Sh:Fn T.ti.ks (Option (bL T.to.ks⊕bL T.tp.ks))}(F:sO P g T Sh):mB P g (Q2 (β:=β) T Sh):=by
 intro st args K b e;obtain⟨hlen,e⟩:=aX e;obtain⟨ls,m,h1,_,hinj,hsx,stT,h2,h3,h4⟩:=DM (λi j a q=>by cases q) e;obtain⟨hl,h1⟩:=aX h1;rw[bu] at hl;obtain⟨r,k1,h1⟩:=ax h1;cases r with
 |inl a=>obtain⟨so,k2,h1⟩:=ax h1;obtain⟨sv,k3,h1⟩:=ax h1;have sx:=AI k2;rw[<-sx] at h1;exact⟨false,_,_,h1,rfl,Nat.le_add_right _ _,λhF M args' d=>Ac (bV hlen) hinj (by rw[h3];exact hsx) h4 (vl hl.1) (wS hl.2) k3 (F ls _ stT k1 h2 false _ so ⟨rfl,rfl⟩ k2) hF M args' d⟩
 |inr a=>obtain⟨so,k2,h1⟩:=ax h1;obtain⟨sv,k3,h1⟩:=ax h1;have sx:=AI k2;rw[<-sx] at h1;exact⟨true,_,_,h1,rfl,Nat.le_add_right _ _,λhF M args' d=>Ac (bV hlen) hinj (by rw[h3];exact hsx) h4 (vl hl.1) (wS hl.2) k3 (F ls _ stT k1 h2 true _ so ⟨rfl,rfl⟩ k2) hF M args' d⟩
def DS(T:PT)(st:St)(args:List SV):Bool:=cond (Nat.beq args.length T.n) ((uU (β:=Unit) [] T.ti ⟨oJ args 0 .nil,st.h,st.sx⟩ λ_ m=>cond (rT st.h m&&sW m T.an) (some ()) none).isSome) false
def Mb(pt:(β:Type)->FuncId->Option (cA β))(g:FuncId)(T:PT)(Sh:Fn T.ti.ks (Option (bL T.to.ks⊕bL T.tp.ks))):(β:Type)->FuncId->Option (cA β):=
 λβ f=>cond (Nat.beq f g) (some λst args K=>cond (DS T st args) (Q2 T Sh st args K) (ob (pt β f) λe=>e st args K)) (pt β f)
theorem qm{P:Program}{pt:(β:Type)->FuncId->Option (cA β)}(PTO:jl P pt){g:FuncId}{T:PT}{Sh:Fn T.ti.ks (Option (bL T.to.ks⊕bL T.tp.ks))}(F:sO P g T Sh):jl P (Mb pt g T Sh):=by
 intro β f e h;unfold Mb at h;cases hb:Nat.beq f g with
 |true=>
  rw[hb] at h;have hg:=bV hb;subst hg;cases h;intro st args K b k;cases hf:DS T st args with
  |true=>simp[hf] at k;exact aaL F st args K b k
  |false=>simp[hf] at k;obtain⟨e0,h0,k⟩:=ax k;exact PTO β f e0 h0 st args K b k
 |false=>rw[hb] at h;exact PTO β f e h
theorem abb{P:Program}{g:FuncId}{T:PT}:sO P g T (iU T.ti.ks):=λ_ _ _ e=>(zH _ _ _ e).elim
theorem aba{P:Program}{g:FuncId}{T:PT}{F:Fn T.ti.ks (Option (bL T.to.ks⊕bL T.tp.ks))->Fn T.ti.ks (Option (bL T.to.ks⊕bL T.tp.ks))}(h:∀r,sO P g T r->sO P g T (F r))(n:Nat):sO P g T (lZ (iU T.ti.ks) F n):=by
 induction n with
 |zero=>exact abb
 |succ n ih=>exact h _ ih
end
section
variable{β:Type}
def SB:List Operand->Bool
 |[]=>true
 |_=>false
def Mv(o:Oper)(n:Nat)(K:Nat->Option β):Option β:=match o.op with
 | .call c=>match c.callee with
  | .builtin .recover=>match o.guard with
   |none=>cond (SB c.args.toList) (match o.dst with|some d=>cond (Nat.blt d n) (K d) none|none=>none) none
   |some _=>none
  |_=>none
 |_=>none
theorem ahB{o:Oper}{n:Nat}{K:Nat->Option β}{b:β}(e:Mv o n K=some b):∃d,K d=some b/\o.dst=some d/\Nat.blt d n=true/\o.guard=none/\∃c,o.op=.call c/\c.callee=.builtin .recover/\c.args.toList=[]:=by
 unfold Mv at e;split at e
 ·rename_i c hop;split at e
  ·rename_i hc;split at e
   ·rename_i hg;obtain⟨e1,e⟩:=aX e;split at e
    ·rename_i d hd;obtain⟨e2,e⟩:=aX e;refine⟨d,e,hd,e2,hg,c,hop,hc,?_⟩;generalize c.args.toList=l at e1;cases l with
     |nil=>rfl
     |cons _ _=>cases e1
    grind
   grind
  grind
 grind
def Ju(o:Oper)(K:Nat->Option β):Option β:=match o.op with
 | .defer c=>match c.callee with
  | .value (.tmp t)=>match o.guard,o.dst with
   |none,none=>cond (SB c.args.toList) (K t) none
   |_,_=>none
  |_=>none
 |_=>none
theorem aat{o:Oper}{K:Nat->Option β}{b:β}(e:Ju o K=some b):∃t,K t=some b/\o.dst=none/\o.guard=none/\∃c,o.op=.defer c/\c.callee=.value (.tmp t)/\c.args.toList=[]:=by
 unfold Ju at e;split at e
 ·rename_i c hop;split at e
  ·rename_i t hc;split at e
   ·rename_i hg hd;obtain⟨e1,e⟩:=aX e;refine⟨t,e,hd,hg,c,hop,hc,?_⟩;generalize c.args.toList=l at e1;cases l with
    |nil=>rfl
    |cons _ _=>cases e1
   grind
  grind
 grind
def Es(q:Option SV)(r:Option β):Option β:=match q with
 |none=>r
 |some _=>bI 60
theorem KY{q:Option SV}{r:Option β}{b:β}(e:Es q r=some b):q=none/\r=some b:=by
 cases q with
 |none=>exact⟨rfl,e⟩
 |some _=>cases e
section
variable[QF]
noncomputable def uP(C:Ctx β)(gn:Func)(lvg jvg:Nat->Option cJ)(ung:Nat->Bool)(caps:List SV)(rv:SV)(st:St)(K:St->Option β):Option β:=match gn.body with
 |some (.seq (.region _ ops false) rest)=>match ops.toList with
  |o::os=>cond (Nat.ble C.an st.sx) (Mv o (caps.length+(gn.ntmps -caps.length)) λd=>
   yg C.X C.pt (caps.length+(gn.ntmps -caps.length)) ops os ⟨(oJ caps 0 .nil).set d rv,st.h,st.sx⟩ λq st1=>Es q
    (dn {C with n:=caps.length+(gn.ntmps -caps.length),rs:=[],lv:=lvg,jv:=jvg,un:=ung,df:=true,an:=st.sx,ij:=λ_ st2=>K ⟨st.tm,st2.h,st2.sx⟩,ma:=λ_ _=>bI 62} 100000 [] [.code rest] st1)) (bI 61)
  |[]=>bI 63
 |_=>bI 64
noncomputable def xi(C:Ctx β)(st:St):Option β:=uX C.X.T st C.rs (Ag C.ij st)
noncomputable def DE(C:Ctx β)(g:FuncId)(gn:Func)(lvg jvg:Nat->Option cJ)(ung:Nat->Bool)(body:Code)(st:St):Option β:=match body with
 | .seq (.region _ ops0 false) (.seq (.region _ ops1 false) rest)=>yg C.X C.pt C.n ops0 ops0.toList st λq st1=>Es q (match ops1.toList with
  |[o1,o2]=>match o1.guard with
   |none=>DF C.n o1 (AU C.X C.pt st1 o1 λq st2=>Es q (Ju o2 λt=>ob (st2.tm.get t) λfv=>match fv with
    | .fn g' caps=>cond (Nat.beq g' g&&(Nat.blt g' 65536&&Nat.ble C.an st2.sx)) (dn {C with df:=true,an:=st2.sx,ij:=λ_ st3=>uP C gn lvg jvg ung caps .ni st3 (xi C),ma:=λrv st3=>uP C gn lvg jvg ung caps rv st3 (xi C)} 100000 [] [.code rest] st2) (bI 65)
    |_=>bI 66))
   |some _=>bI 68
  |_=>bI 69)
 |_=>bI 67
end
theorem Mem.Qf{B:Bs}{σ:Ren}{h:Tr SO}{sx:Nat}{w:World}(M:iY B σ h sx w){n:Nat}{dH:List Deferred}:iY ⟨B.w,B.own,σ.lit,sx,σ.nm,n,dH⟩ σ h sx w:=
 ⟨M.obj,M.inj,M.fresh,M.lit,M.free,M.base,M.owned,λ_ _ _ q=>.inl q,λ_ _ _ q=>q,λ_ _ _ q=>q⟩
theorem Mem.Ze{B:Bs}{σ σ':Ren}{h:Tr SO}{sx:Nat}{w w':World}{G:Nat->SO->Prop}{F:Nat->Prop}(M:iY B σ h sx w)(ha:B.an<=sx){n:Nat}{dH:List Deferred}(M':Mem ⟨B.w,B.own,σ.lit,sx,σ.nm,n,dH⟩ σ' G F w'):Ext σ σ'/\Mem B σ' G F w':=by
 have E:Ext σ σ':=⟨λid x e=>M'.ko id (Nat.not_le.1 λq=>by rw[M.fresh id q] at e;cases e) x e,M'.nF⟩;refine⟨E,M'.obj,M'.inj,M'.fresh,M'.lit,M'.free,M'.base,M'.owned,λb i v q=>?_,λk hk x hx=>E.nm _ _ (M.ko k hk x hx),λb i v q=>E.lit b i v (M.nF b i v q)⟩;rcases M'.mf b i v q with k|k
 ·exact M.mf b i v k
 ·exact .inr k
theorem EV{P:Program}{ops:Array Oper}{Q:Exit->Act->List Frame->World->Prop}{cs:List Frame}(hQ:∀a w,¬Q .outgrown a cs w):∀(l:List Nat){a:Act}{w:World},wpOps P ops (λe a w=>Q e a cs w) l a w->wpOpsS P ops Q l a cs w
 |[],a,w,h=>h
 |i::l,a,w,h=>by
  unfold wpOps at h;unfold wpOpsS;split at h
  ·rename_i ho;simp only[ho];exact EV hQ l h
  ·rename_i o ho;simp only[ho];split at h
   ·rename_i hw;simp only[hw,dM];rcases h with h|⟨_,a',w',q⟩
    ·have h:=Oper.wp_mono (K':=λa w=>wpOpsS P ops Q l a cs w) (λa w h=>EV hQ l h) h;unfold Oper.wp at h;split
     ·rename_i w' hr;rw[hr] at h;exact h.elim
     ·exact h
    ·exact(hQ _ _ q).elim
   ·rename_i hw;simp only[hw];exact EV hQ l h
section
variable[QF]
theorem Z4{P:Program}{C:Ctx β}(OK:iJ P C.X)(mx:P.follows .mixedOrders=true)(PT:nh P C.pt){g:FuncId}{gn:Func}(hG:C.X.F.get g=some gn)(hres:gn.results.toList=[]){lvg jvg:Nat->Option cJ}{ung:Nat->Bool}{caps:List SV}{cv:Array Value}{rv:SV}{st:St}{K:St->Option β}{b:β}
 (e:uP C gn lvg jvg ung caps rv st K=some b) {B:Bs} (ha:B.an=C.an) {σ:Ren} {a:Act} {w:World} {u:FrameMode} (hm:(u=.returning/\rv=.ni)\/∃v,u=.panicking [pe v]/\DV σ rv v) (R:dA B σ st a w) (d:eV σ caps cv.toList):
 CallsD P g cv u w λe u' w'=>∃v,e=.returned v/\settle u'=.returning/\∃st',K st'=some b/\∃σ',dA B σ' st' a w':=by
 unfold uP at e;split at e
 case h_2=>cases e
 rename_i id ops rest hb;split at e
 case h_2=>cases e
 rename_i o os hops;obtain⟨han,e⟩:=aX e;have han:=dX han;obtain⟨dR,e,hdst,hlt,hgd,c,hop,hcal,harg⟩:=ahB e;have hlen:cv.size=caps.length:=by rw[<-Array.length_toList];exact d.1.symm
 have ho:ops[0]? =some o:=by rw[<-my,hops];rfl
 have hrg:List.range ops.size=0::List.range' 1 os.length:=by rw[List.range_eq_range',show ops.size=os.length+1 by rw[<-Array.length_toList,hops];rfl,List.range'_succ]
 refine callsD_of_wpS (OK.F _ _ hG).1 hb λc₀ cs hu=>wpS_seq (wpS_region ?_);rw[hrg]
 let a0:Act:={tmps:=cv++Array.replicate (gn.ntmps -cv.size) undef,defers:=[]}
 have hsz:a0.tmps.size=caps.length+(gn.ntmps -caps.length):=by simp[a0,hlen]
 obtain⟨q,st1,e1,G⟩:=BC OK PT os 1 (λi o' hi=>by rw[<-my,hops,Nat.add_comm];exact hi) _ _ _ e;obtain⟨rfl,e2⟩:=KY e1;have run:(execOp a0.eval o).run P w=.ok .recover w:=by
  have:c.args=#[]:=by simpa using harg
  unfold execOp resolve;simp only[hop,hcal,this];rfl
 have key:∀(y:Value)(u':FrameMode),settle u'=.returning->DV σ rv y->wpOpsS P ops (Exit.thenS (rest.wpS P (bodyPostS P gn c₀ cs λe u' w'=>∃v,e=.returned v/\settle u'=.returning/\∃st',K st'=some b/\∃σ',dA B σ' st' a w')) (bodyPostS P gn c₀ cs λe u' w'=>∃v,e=.returned v/\settle u'=.returning/\∃st',K st'=some b/\∃σ',dA B σ' st' a w')) (List.range' 1 os.length) (a0.put o.dst y) ({c₀ with mode:=u'}::cs) w:=by
  intro y u' hu' dy
  let B2:Bs:=⟨B.w,B.own,σ.lit,st.sx,σ.nm,caps.length+(gn.ntmps -caps.length),[]⟩
  refine EV (λa w q=>by obtain⟨_,_,h,_⟩:=q;cases h) _ (G (B:=B2) (σ:=σ) rfl ⟨by rw[hdst];simp[Act.put,hsz,B2],by rw[hdst];rfl,?_,R.mem.Qf⟩ _ ?_)
  ·rw[hdst];exact(tr (Cx d (dH:=[]))).put (Ext.refl _) (d:=some dR) (λk hk=>by cases hk;show dR<a0.tmps.size;rw[hsz];exact eQ hlt) dy
  ·intro σ1 a1 w1 R1;refine wpS_of_wp (wp_mono (λb k cs=>(ta (fn:=gn) (B:=B2) (C:={C with n:=caps.length+(gn.ntmps -caps.length),rs:=[],lv:=lvg,jv:=jvg,un:=ung,df:=true,an:=st.sx,ij:=λ_ st2=>K ⟨st.tm,st2.h,st2.sx⟩,ma:=λ_ _=>bI 62}) OK mx PT hres rfl rfl _ _ _ _ _ e2 (λr hr=>by cases hr) R1) b k cs) λx a2 w2 q=>?_)
   have fin2:(∃σ2 st2 sv,dA B2 σ2 st2 a2 w2/\K ⟨st.tm,st2.h,st2.sx⟩=some b/\sv=SV.aH [])->a2.defers=[]/\∃u2,({c₀ with mode:=u'}:Frame)::cs={c₀ with mode:=u2}::cs/\∃v,(results gn a2.tmps).run P w2=.ok v w2/\∃v2,Ending.returned v=.returned v2/\settle u2=.returning/\∃st',K st'=some b/\∃σ',dA B σ' st' a w2:=λ⟨σ2,st2,_,r,kr,_⟩=>by
    obtain⟨E,M⟩:=R.mem.Ze (ha▸han) r.mem;refine⟨r.dH,u',rfl,.tuple #[],?_,_,rfl,hu',_,kr,σ2,R.size,R.dH,λt sv h=>(R.ev t sv h).mono E,M⟩;have:gn.results=#[]:=by simpa using hres
    simp[results,this]
   cases x with
   |normal=>exact fin2 q
   |ret=>exact fin2 q
   |panic ch=>obtain⟨_,_,_,_,_,kp,_⟩:=q;cases kp
   |_=>exact q.elim
 unfold wpOpsS;have hw:Region.wanted o (yielded ops a0.tmps)=true:=by unfold Region.wanted;rw[hgd]
 simp only[ho];rw[ay hw];rcases hm with⟨rfl,rfl⟩|⟨v,rfl,dv⟩
 ·have hr:recoverD (c₀::cs)=none:=by unfold recoverD;simp only[hu]
  have hc:({c₀ with mode:=.returning}:Frame)=c₀:=by rw[<-hu]
  have:=key .nilIface .returning rfl .ni;rw[hc] at this;rw[show(execOp ({tmps:=cv++Array.replicate (gn.ntmps -cv.size) undef,defers:=[]}:Act).eval o).run P w=.ok .recover w from run];simp only[hr];exact this
 ·have hr:recoverD (c₀::cs)=some (v,{c₀ with mode:=.panicking [{v:=v,recovered:=true}]}::cs):=by unfold recoverD;simp only[hu,pe]
  rw[show(execOp ({tmps:=cv++Array.replicate (gn.ntmps -cv.size) undef,defers:=[]}:Act).eval o).run P w=.ok .recover w from run];simp only[hr];exact key v _ rfl dv
theorem QL{P:Program}{C:Ctx β}(OK:iJ P C.X)(mx:P.follows .mixedOrders=true)(PT:nh P C.pt){f:FuncId}{fn:Func}(hF:P.funcs[f]? =some fn){body:Code}(hb:fn.body=some body)(hrs:fn.results.toList=C.rs)(hdf:C.df=false){g:FuncId}{gn:Func}(hG:C.X.F.get g=some gn)(hres:gn.results.toList=[]){lvg jvg:Nat->Option cJ}{ung:Nat->Bool}{st:St}{b:β}
 (e:DE C g gn lvg jvg ung body st=some b) {B:Bs} (hn:B.n=C.n) (ha:B.an=C.an) (hB:B.dH=[]) {σ:Ren} {args:Array Value} {w:World} (R:dA B σ st {tmps:=args++Array.replicate (fn.ntmps -args.size) undef,defers:=[]} w) {Rp:Ending->World->Prop}
 (k:∀{σ:Ren}{st:St}{sv:SV}{a:Act}{w':World}{v:Value},dA B σ st a w'->DV σ sv v->C.ij sv st=some b->Rp (.returned v) w'):Calls P f args w Rp:=by
 unfold DE at e;split at e
 case h_2=>cases e
 rename_i id0 ops0 id1 ops1 rest;obtain⟨q,st1,e1,G1⟩:=BC OK PT ops0.toList 0 (λi o ho=>by rw[gj,<-my];exact ho) _ _ _ e;obtain⟨rfl,e2⟩:=KY e1;split at e2
 case h_2=>cases e2
 rename_i o1 o2 hops;split at e2
 case h_2=>cases e2
 rename_i hg1;obtain⟨e3,hd1⟩:=QS e2;obtain⟨q,sv,st2,e4,hx,ht,D⟩:=LF OK PT e3;obtain⟨rfl,e5⟩:=KY e4;have ht:st2.tm=kF st1.tm o1.dst sv:=by rcases ht with h|h;exact h.2;cases h.1
 obtain⟨t,e6,hd2,hg2,c,hop,hcal,harg⟩:=aat e5;obtain⟨fv,hfv,e7⟩:=ax e6;split at e7
 case h_2=>cases e7
 rename_i g' caps;obtain⟨hq,e8⟩:=aX e7;simp only[bu] at hq;have hgg:=bV hq.1;have hsm:=eQ hq.2.1;have han:=dX hq.2.2;subst hgg;have ho1:ops1[0]? =some o1:=by rw[<-my,hops];rfl
 have ho2:ops1[1]? =some o2:=by rw[<-my,hops];rfl
 have hrg1:List.range ops1.size=[0,1]:=by rw[show ops1.size=2 by rw[<-Array.length_toList,hops];rfl];rfl
 have leave:∀{σ:Ren}{st:St}{a:Act}{w:World},xi C st=some b->dA B σ st a w->Leaves P fn a.tmps Rp [] .returning w:=λ{σ st a w} h R=>by obtain⟨σ',st',sv,R',kr,q⟩:=JY (fn:=fn) OK.T hrs (st:=st) (b:=b) (by rw[hdf];exact h) R;rw[hdf] at q;obtain⟨v,q1,q2⟩:=q;exact⟨v,q1,k R' q2 kr⟩
 have G:nc P [.code (.seq (.region id0 ops0 false) (.seq (.region id1 ops1 false) rest))] (λe a w=>bodyPostD P fn Rp e a w) {tmps:=args++Array.replicate (fn.ntmps -args.size) undef,defers:=[]} w:=by
  refine .step (T':=[.code (.region id0 ops0 false),.code (.seq (.region id1 ops1 false) rest)]) (λ_ _ _=>step_seq) (.code (wp_region ?_));rw[(show List.range ops0.size=List.range' 0 ops0.toList.length from by rw[List.range_eq_range'];simp)];refine G1 hn R _ λσ1 a1 w1 R1=>?_;refine .step (T':=[.code (.region id1 ops1 false),.code rest]) (λ_ _ _=>step_seq) (.code (wp_region ?_));rw[hrg1,wpOps_cons];have hw1:Region.wanted o1 (yielded ops1 a1.tmps)=true:=by unfold Region.wanted;rw[hg1]
  unfold wpOp;simp only[ho1,hw1,dM];refine .inl (D a1 R1.ev (λ_ h _=>h) R1.mem _ _ λσ2 v w2 E dv M=>?_);have R2:dA B σ2 st2 (a1.put o1.dst v) w2:=by have:=R1.put E (iY.next hx M) (λk hk=>by rw[hn];exact hd1 k hk) dv;rwa[<-ht] at this
  generalize a1.put o1.dst v=a2 at R2;have hw2:Region.wanted o2 (yielded ops1 a2.tmps)=true:=by unfold Region.wanted;rw[hg2]
  have dfv:=R2.ev t _ hfv;generalize hfx:a2.eval (.tmp t)=fx at dfv;cases dfv with
  |fn hl hr=>
  rename_i cv;rw[J9 hsm] at hfx;have dcv:eV σ2 caps cv:=⟨hl,hr⟩
  let d:Deferred:={target:=.fn (.func g') ⟨cv⟩,args:=#[]}
  have run:(execOp a2.eval o2).run P w2=.ok (.defer d) w2:=by
   have:c.args=#[]:=by simpa using harg
   unfold execOp resolve;simp[hop,hcal,this,hfx,Deferred.ofValue,d]
  rw[wpOps_cons];unfold wpOp;simp only[ho2,hw2,dM];refine .inl ?_;unfold Oper.wp;rw[run,Oper.upon_defer,hd2,R2.dH,hB];show nc P [.code rest] _ {tmps:=a2.tmps,defers:=[d]} w2
  let B2:Bs:=⟨B.w,B.own,σ2.lit,st2.sx,σ2.nm,B.n,[d]⟩
  have inv:∀w,(invoke d.target d.args).run P w=.ok (.enter g' ⟨cv⟩) w:=λw=>by
   obtain⟨f1,f2,f3⟩:=OK.F _ _ hG;have h4:gn.body.isNone=false:=by cases hb:gn.body with
    |none=>rw[hb] at f3;cases f3
    |some b=>rfl
   unfold invoke callFunc;simp only[d,da,run_program,eK,f1,f2,h4,kJ,gQ,eL];simp
  have dn2:=ta (fn:=fn) (B:=B2) (C:={C with df:=true,an:=st2.sx,ij:=λ_ st3=>uP C gn lvg jvg ung caps .ni st3 (xi C),ma:=λrv st3=>uP C gn lvg jvg ung caps rv st3 (xi C)}) OK mx PT hrs hn rfl _ _ _ _ _ e8 (λr hr=>by cases hr) (σ:=σ2) (a:={tmps:=a2.tmps,defers:=[d]}) (w:=w2) ⟨R2.size,rfl,R2.ev,R2.mem.Qf⟩
  have last:∀{u:FrameMode}{σ3:Ren}{st3:St}{rv:SV}{a3:Act}{w3:World},u≠.run->(u=.returning/\rv=.ni)\/(∃v,u=.panicking [pe v]/\DV σ3 rv v)->uP C gn lvg jvg ung caps rv st3 (xi C)=some b->dA B2 σ3 st3 a3 w3->Leaves P fn a3.tmps Rp a3.defers u w3:=by intro u σ3 st3 rv a3 w3 hu hm kr R3;obtain⟨E3,M3⟩:=R2.mem.Ze (ha▸han) R3.mem;rw[R3.dH];have Rx:dA B σ3 st3 {tmps:=a3.tmps,defers:=[]} w3:=⟨R3.size,hB.symm,R3.ev,M3⟩;refine leaves_cons hu (inv w3) (CallsD.mono (Z4 OK mx PT hG hres kr ha hm Rx (show eV σ3 caps (⟨cv⟩:Array Value).toList from dcv.mono E3)) λx u' w' ⟨v,h1,h2,st',h3,σ',R'⟩=>?_);subst h1;show Leaves P fn a3.tmps Rp [] (settle u') w';rw[h2];exact leave (a:={tmps:=a3.tmps,defers:=[]}) h3 R'
  intro b0 k0 cs0;obtain⟨x,a3,w3,q,arr⟩:=dn2 b0 k0 cs0;refine⟨x,a3,w3,?_,arr⟩;cases x with
  |normal=>obtain⟨σ3,st3,sv3,R3,kr,_⟩:=q;exact last (by simp) (.inl ⟨rfl,rfl⟩) kr R3
  |ret=>obtain⟨σ3,st3,sv3,R3,kr,_⟩:=q;exact last (by simp) (.inl ⟨rfl,rfl⟩) kr R3
  |panic ch=>obtain⟨σ3,st3,sv3,v3,R3,kr,rfl,dv3⟩:=q;exact last (by simp) (.inr ⟨v3,rfl,dv3⟩) kr R3
  |_=>exact q.elim
 exact calls_of_wp_defers hF hb λb k cs=>G b k cs
end
end
section
variable[QF]
noncomputable def ZJ{β:Type}(C:Ctx β)(g:FuncId)(gn:Func)(lvg jvg:Nat->Option cJ)(ung:Nat->Bool)(avt:List VT)(body:Code)(ls:List bq):Option β:=
 ob (wh avt ls) λq=>DE C g gn lvg jvg ung body ⟨oJ q.1 0 .nil,.nil,0⟩
noncomputable def ZL(w:Nat)(X:ew)(pt:(β:Type)->FuncId->Option (cA β))(fn:Func)(g:FuncId)(gn:Func)(avt:List VT)(rvt:VT)(lv jv:Nat->Option cJ)(un:Nat->Bool)(lvg jvg:Nat->Option cJ)(ung:Nat->Bool):Fn (VT.eZ avt) (Option (bL rvt.ks)):=
 lX (VT.eZ avt) (ZJ {X:=X,pt:=pt _,n:=avt.length+(fn.ntmps -avt.length),rs:=fn.results.toList,lv:=lv,jv:=jv,un:=un,df:=false,fuel:=w,an:=0,ij:=λsv st=>Ak st rvt sv (dec rvt.ks),ma:=λ_ _=>none} g gn lvg jvg ung avt (fn.body.getD .skip))
theorem aa6{P:Program}{X:ew}(OK:iJ P X)(mx:P.follows .mixedOrders=true){pt:(β:Type)->FuncId->Option (cA β)}(PT:jl P pt){f:FuncId}{fn:Func}{g:FuncId}{gn:Func}{avt:List VT}{rvt:VT}{lv jv:Nat->Option cJ}{un:Nat->Bool}{lvg jvg:Nat->Option cJ}{ung:Nat->Bool}{w:Nat}{Sh:Fn (VT.eZ avt) (Option (bL rvt.ks))}
 (hF:X.F.get f=some fn) (hb:fn.body=some (fn.body.getD .skip)) (hG:X.F.get g=some gn) (hres:gn.results.toList=[]) (hS:Sh=ZL w X pt fn g gn avt rvt lv jv un lvg jvg ung):cL P f avt rvt Sh:=by
 intro ls r e lo us hu m args' w0 K A;subst hS;have e1:=np _ _ _ _ e;obtain⟨⟨svs,rest⟩,h1,e2⟩:=ax e1;obtain⟨_,q1,_⟩:=xd avt ls _ _ _ _ lo hu h1;have hl:args'.size=avt.length:=by rw[<-Jy _ _ _ _ hu,<-Array.length_toList];exact A.1.symm
 refine QL (B:=⟨w0,λ_=>False,m,0,λ_=>none,avt.length+(fn.ntmps -avt.length),[]⟩) OK mx (PT _) (OK.F _ _ hF).1 hb rfl rfl hG hres e2 rfl rfl rfl (σ:=⟨λ_=>none,m⟩) ⟨by simp[hl],rfl,tr (Cx (q1 A) (dH:=[])),Mem.start K⟩ λR d kr=>?_;obtain⟨ls',f1,f3⟩:=Kb _ _ _ _ kr;obtain⟨pv,g1,g3⟩:=f3 [];rw[dW,<-qa _ _ _ f1] at g1;obtain⟨z1,z2⟩:=g3 (Mem.Xf K R.mem) d;rw[<-qa _ _ _ f1] at z2;exact⟨_,rfl,R.mem.base.below,pv,g1,z2,z1⟩
noncomputable def ZK(w:Nat)(X:ew)(pt:(β:Type)->FuncId->Option (cA β))(fn:Func)(g:FuncId)(gn:Func)(T:HT)(lv jv:Nat->Option cJ)(un:Nat->Bool)(lvg jvg:Nat->Option cJ)(ung:Nat->Bool):Fn T.ti.ks (Option (bL T.to.ks)):=
 lX T.ti.ks λls=>ob (il T.ti ls) λst=>DE {X:=X,pt:=pt _,n:=T.n+(fn.ntmps -T.n),rs:=fn.results.toList,lv:=lv,jv:=jv,un:=un,df:=false,fuel:=w,an:=T.an,ij:=λsv st=>kV T.an T.to ⟨Tr.nil.set 0 sv,st.h,st.sx⟩ (dec T.to.ks),ma:=λ_ _=>bI 52} g gn lvg jvg ung (fn.body.getD .skip) st
theorem aa7{P:Program}{X:ew}(OK:iJ P X)(mx:P.follows .mixedOrders=true){pt:(β:Type)->FuncId->Option (cA β)}(PT:jl P pt){f:FuncId}{fn:Func}{g:FuncId}{gn:Func}{T:HT}{lv jv:Nat->Option cJ}{un:Nat->Bool}{lvg jvg:Nat->Option cJ}{ung:Nat->Bool}{w:Nat}{Sh:Fn T.ti.ks (Option (bL T.to.ks))}
 (hF:X.F.get f=some fn) (hb:fn.body=some (fn.body.getD .skip)) (hG:X.F.get g=some gn) (hres:gn.results.toList=[]) (hS:Sh=ZK w X pt fn g gn T lv jv un lvg jvg ung):na P f T Sh:=by
 intro ls r st so e hst hso B σ w0 args' hn ha ev M;subst hS;have e1:=np _ _ _ _ e;obtain⟨st1,g1,e2⟩:=ax e1;rw[hst] at g1;cases g1;refine QL (B:={B with n:=T.n+(fn.ntmps -T.n),dH:=[]}) OK mx (PT _) (OK.F _ _ hF).1 hb rfl rfl hG hres e2 rfl ha rfl ⟨by simp[hn],rfl,tr ev,M.nd⟩ λR d kr=>?_
 obtain⟨σ3,z1,z2⟩:=xV (B:=B) (by rw[ha];exact kr) (λls q=>qa _ _ _ q) hso d R.mem.nd;exact⟨σ3,_,rfl,z1,z2⟩
end
theorem Du{a b:Bool}(h:cond a b false=true):a=true/\b=true:=nt h
theorem Ap{P:Program}{t:Nat}{inf:TypeInfo}(h:P.types[t]? =some inf):P.info? t=some inf:=by
 unfold Tables.info?
 grind
def CW(P:Program)(t:Nat):Prop:=(∃k,P.underlying t=some (.int k))/\∃inf,P.info? t=some inf/\inf.size=1
def DT:List Field->Nat->(Nat->Bool)->Bool
 |[],_,_=>true
 |f::fs,n,ints=>cond (f.name== "_") false (cond (Nat.beq f.offset n) (cond (ints f.type) (DT fs (n+1) ints) false) false)
theorem Ru{P:Program}{ints:Nat->Bool}(hi:∀t,ints t=true->CW P t):∀(fs:List Field)(n:Nat),DT fs n ints=true->∀(i:Nat)(f:Field),fs[i]? =some f->f.name≠ "_"/\f.offset=n+i/\CW P f.type
 |[],n,_,i,f,h=>by grind
 |g::fs,n,e,i,f,h=>by
  unfold DT at e;cases hn:(g.name== "_") with
  |true=>grind
  |false=>
   simp only[hn] at e;obtain⟨e1,e2⟩:=Du e;obtain⟨e3,e4⟩:=Du e2;cases i with
   |zero=>simp_all
   |succ i=>
    obtain⟨a,b,c⟩:=Ru hi fs (n+1) e4 i f (by grind)
    grind
def JZ(ints:Nat->Bool)(n:Nat):TypeDesc->Bool
 | .struct fs=>cond (Nat.beq fs.toList.length n) (DT fs.toList 0 ints) false
 | .array len e=>cond (Nat.beq len n) (ints e) false
 |_=>false
theorem aa3{P:Program}{ints:Nat->Bool}(hi:∀t,ints t=true->CW P t){n:Nat}{d:TypeDesc}(h:JZ ints n d=true):zr P n d:=by
 unfold JZ at h;split at h
 ·rename_i fs;obtain⟨h1,h2⟩:=Du h;have:=bV h1;refine⟨by simpa using this,λi f hf=>?_⟩;obtain⟨a,b,c⟩:=Ru hi _ _ h2 i f (by grind);exact⟨a,by omega,c⟩
 ·rename_i len e;obtain⟨h1,h2⟩:=Du h;exact⟨bV h1,hi _ h2⟩
 grind
def tJ{α:Type}:List (Nat×α)->Tr α
 |[]=>.nil
 |(n,x)::l=>(tJ l).set n x
theorem AK{α:Type}:∀{l:List (Nat×α)}{n:Nat}{x:α},(tJ l).get n=some x->(n,x)∈l
 |[],n,x,h=>by rw[tJ,Tr.get_nil] at h;cases h
 |(m,y)::l,n,x,h=>by
  rw[tJ,Tr.fE] at h;by_cases e:n=m
  ·grind
  ·rw[aq e] at h;exact mU _ (AK h)
structure P0(P:Program)(t:Nat)(i:jm):Prop where
 under:P.underlying t=some i.desc
 info:∃inf,P.info? t=some inf/\inf.size=i.size/\inf.bytes=i.bytes/\∀z,i.zero=some z->inf.zero=some z
 flat:i.flat=true->P.eqGuardType P.depth t=false/\P.stoodInHeld t=false/\zr P i.size i.desc
theorem alG{P:Program}{T:TT}{F:FT}{lT:List (Nat×jm)}{lF:List (Nat×Func)}(eT:T=tJ lT)(eF:F=tJ lF)(hT:∀p∈lT,P0 P p.1 p.2)(hF:∀p∈lF,P.funcs[p.1]? =some p.2 /\(p.2.name== "runtime.NumGoroutine")=false/\p.2.body.isSome=true):iJ P ⟨T,F⟩:=by subst eT eF;exact⟨⟨λt i h=>(hT _ (AK h)).under,λt i h=>(hT _ (AK h)).info,λt i h=>(hT _ (AK h)).flat⟩,λf fn h=>hF _ (AK h)⟩
section
variable{β:Type}
theorem D5{x:SV}{id:Nat}(h:id∈SV.ids x):∀{l:List SV},x∈l->id∈SV.jY l
 |y::l,hx=>by
  unfold SV.jY;rcases cQ.1 hx with rfl|hx
  ·exact List.mem_append_left _ h
  ·exact List.mem_append_right _ (D5 h hx)
theorem DV.via{σ σ':Ren}(hl:σ'.lit=σ.lit){x:SV}{v:Value}(d:DV σ x v):(∀id∈SV.ids x,∀z,σ.nm id=some z->σ'.nm id=some z)->DV σ' x v:=by
 have sub:∀{l:List SV}{i:Nat}{x:SV}{p:Nat->Prop},(∀id∈SV.jY l,p id)->l[i]? =some x->∀id∈SV.ids x,p id:=λh e id q=>h id (D5 q (nU e));induction d with
 |i=>exactλ_=>.i _ _
 |b=>exactλ_=>.b _
 |s=>exactλ_=>.s _
 |v h h1=>exactλ_=>.v (hl▸h) h1
 |nl=>exactλ_=>.nl
 |agg kl _ ih=>exactλp=>.agg kl λi x y a b=>ih i x y a b (sub (by unfold SV.ids at p;exact p) a)
 |aH kl _ ih=>exactλp=>.aH kl λi x y a b=>ih i x y a b (sub (by unfold SV.ids at p;exact p) a)
 |ptr h=>exactλp=>.ptr (p _ (by unfold SV.ids;simp) _ h)
 |lp h=>exactλ_=>.lp (hl▸h)
 |sl h hn=>exactλp=>.sl (p _ (by unfold SV.ids;simp) _ h) hn
 |jI h=>exactλp=>.jI (p _ (by unfold SV.ids;simp) _ h)
 |gr h hc hn=>exactλp=>.gr (p _ (by unfold SV.ids;simp) _ h) hc hn
 |fn kl _ ih=>exactλp=>.fn kl λi x y a b=>ih i x y a b (sub (by unfold SV.ids at p;exact p) a)
 |fF _ ih=>exactλp=>.fF (ih (by unfold SV.ids at p;exact p))
 |em h=>exactλ_=>.em (hl▸h)
 |ni=>exactλ_=>.ni
 |mp h=>exactλp=>.mp (p _ (by unfold SV.ids;simp) _ h)
def Cy(p:Nat->Bool):SO->Bool
 | .cells c _=>(SV.jY c).all p
 | .mp es=>es.all λe=>(SV.ids e.2).all p
 |_=>true
theorem DO.via{σ σ':Ren}(hl:σ'.lit=σ.lit){w:World}{id:Nat}{so:SO}(d:DO σ w id so){p:Nat->Bool}(h:∀id,p id=true->∀z,σ.nm id=some z->σ'.nm id=some z)(hi:p id=true)(hs:Cy p so=true):DO σ' w id so:=by
 have e:=h id hi;cases so with
 |cells c t=>obtain⟨o,n,vs,a,b,c⟩:=d;exact⟨o,n,vs,e _ a,b,c.1,λi x y h1 h2=>(c.2 i x y h1 h2).via hl λk hk=>h k (iu.1 hs k (D5 hk (nU h1)))⟩
 |arr c t=>obtain⟨o,n,vs,a,b,c⟩:=d;exact⟨o,n,vs,e _ a,b,hl▸c⟩
 |grow E c t=>
  obtain⟨a,q,g⟩:=d;refine⟨a,q,?_⟩;rcases g with⟨g,k⟩|⟨o,n,cs,g,k⟩
  ·exact .inl ⟨e _ g,k⟩
  ·exact .inr ⟨o,n,cs,e _ g,hl▸k⟩
 |mp es=>obtain⟨o,n,es',ck,a,b,c⟩:=d;exact⟨o,n,es',ck,e _ a,b,c.1,λi x y h1 h2=>have q:=c.2 i x y h1 h2;⟨q.1,q.2.via hl λk hk=>h k (iu.1 (iu.1 hs x (nU h1)) k hk)⟩⟩
def rI(f:Nat->SO->Bool):Tr SO->Nat->Nat->Bool
 | .nil,_,_=>true
 | .node v l r,a,b=>(match v with|some x=>f b x|none=>true)&&(rI f l (2*a) (a+b)&&rI f r (2*a) (2*a+b))
theorem IZ{f:Nat->SO->Bool}:∀(p:jD){t:Tr SO}{a b:Nat}{x:SO},rI f t a b=true->walk p t=some x->f (a*p.num+b) x=true
 |p,.nil,a,b,x,h,e=>by rw[Io] at e;cases e
 | .z,.node v l r,a,b,x,h,e=>by
  unfold rI at h;rw[bu] at h;cases v with
  |none=>cases e
  |some y=>have e:some y=some x:=e;cases e;rw[show a*jD.z.num+b=b by unfold jD.num;omega];exact h.1
 | .l p,.node v l r,a,b,x,h,e=>by unfold rI at h;rw[bu,bu] at h;have:=IZ p h.2.1 (show walk p l=some x from e);rw[show a*(jD.l p).num+b=2*a*p.num+(a+b) by show a*(2*p.num+1)+b=_;rw[Nat.mul_add,<-Nat.mul_assoc,mY a 2];omega];exact this
 | .r p,.node v l r,a,b,x,h,e=>by unfold rI at h;rw[bu,bu] at h;have:=IZ p h.2.2 (show walk p r=some x from e);rw[show a*(jD.r p).num+b=2*a*p.num+(2*a+b) by show a*(2*p.num+2)+b=_;rw[Nat.mul_add,<-Nat.mul_assoc,mY a 2];omega];exact this
theorem Qc{f:Nat->SO->Bool}{t:Tr SO}(h:rI f t 1 0=true){n:Nat}{x:SO}(e:t.get n=some x):f n x=true:=by have:=IZ (sa n) h e;rwa[show(sa n).num=n from A6 _ _ (kM _),Nat.one_mul,Nat.add_zero] at this
def qe(h:Tr SO)(i:Nat):Bool:=match h.get i with
 |some _=>true
 |none=>false
def vj(h:Tr SO)(sx i:Nat):Bool:=Nat.ble sx i||qe h i
section
variable[QF]
noncomputable def Sm(X:ew)(pt:(β:Type)->FuncId->Option (cA β))(fn:Func)(lv jv:Nat->Option cJ)(un:Nat->Bool)(w n sx:Nat):Ctx (Bool×SV×St):=
 {X:=X,pt:=pt _,n:=n+(fn.ntmps -n),rs:=fn.results.toList,lv:=lv,jv:=jv,un:=un,df:=false,fuel:=w,an:=sx,ij:=λsv st=>some (false,sv,st),ma:=λsv st=>some (true,sv,st)}
noncomputable def inl(X:ew)(pt:(β:Type)->FuncId->Option (cA β))(fn:Func)(lv jv:Nat->Option cJ)(un:Nat->Bool)(w:Nat):cA β:=λst args K=>
 cond (rI (λi so=>Nat.blt i st.sx&&Cy (qe st.h) so) st.h 1 0&&(SV.jY args).all (qe st.h))
  (ob (dn (Sm X pt fn lv jv un w args.length st.sx) 100000 [] [.code (fn.body.getD .skip)] ⟨oJ args 0 .nil,st.h,st.sx⟩) λr=>
   cond (Nat.ble st.sx r.2.2.sx&&(rI (λi so=>vj st.h st.sx i&&Cy (vj st.h st.sx) so) r.2.2.h 1 0&&(SV.ids r.2.1).all (vj st.h st.sx)))
    (K r.1 r.2.1 ⟨st.tm,r.2.2.h,r.2.2.sx⟩) (bI 81)) (bI 82)
theorem abI{P:Program}{X:ew}(OK:iJ P X)(mx:P.follows .mixedOrders=true){pt:(β:Type)->FuncId->Option (cA β)}(PT:jl P pt){g:FuncId}{fn:Func}(hF:X.F.get g=some fn)(hb:fn.body=some (fn.body.getD .skip)){lv jv:Nat->Option cJ}{un:Nat->Bool}{w:Nat}:mB P g (inl (β:=β) X pt fn lv jv un w):=by
 intro st args K b e;obtain⟨c0,e⟩:=aX e;obtain⟨⟨p,sv,st'⟩,e1,e⟩:=ax e;obtain⟨c1,e⟩:=aX e;simp only[bu] at c0 c1;obtain⟨c2,c3⟩:=c0;obtain⟨c4,c5,c6⟩:=c1;have hx:st.sx<=st'.sx:=dX c4;refine⟨p,sv,_,e,rfl,hx,λ{B σ F w0} hN M args' d=>?_⟩;have lv0:∀{id so},st.h.get id=some so->qe st.h id=true:=λh=>by unfold qe;rw[h]
 have lt0:∀{id so},st.h.get id=some so->id<st.sx/\Cy (qe st.h) so=true:=λh=>by have:=Qc c2 h;rw[bu] at this;exact⟨eQ this.1,this.2⟩
 let σ0:Ren:=⟨λid=>if qe st.h id then σ.nm id else none,σ.lit⟩
 have to0:∀id,qe st.h id=true->∀z,σ.nm id=some z->σ0.nm id=some z:=λid h z hz=>by show(if _ then _ else _)=_;rw[ay h];exact hz
 have of0:∀{id z},σ0.nm id=some z->σ.nm id=some z:=λ{id z} h=>by
  replace h:(if qe st.h id then σ.nm id else none)=some z:=h;split at h
  ·exact h
  ·cases h
 have EX:∀b,Own σ0 (hG st.h) b->Own σ (hG st.h) b:=λb ⟨i,s,o,n,a,p,q⟩=>⟨i,s,o,n,a,of0 p,q⟩
 let B2:Bs:=⟨w0,Own σ (hG st.h),σ.lit,st.sx,σ0.nm,args.length+(fn.ntmps -args.length),[]⟩
 have fr0:∀id,st.sx<=id->σ0.nm id=none:=λid h=>by
  show(if _ then _ else _)=_;rw[aq];intro q;unfold qe at q;split at q
  ·rename_i s hs;have:=(lt0 hs).1;omega
  ·cases q
 have M0:iY B2 σ0 st.h st.sx w0:=⟨λid so h=>(M.obj id so h).via (σ:=σ) (σ':=σ0) rfl to0 (lv0 h) (lt0 h).2,λi j s s' o o' n n' a a' p p' q=>M.inj _ _ _ _ _ _ _ _ a a' (of0 p) (of0 p') q,fr0,M.lit,λb i v h q=>M.free b i v h (EX b q),eM.refl _ _,λb q=>.inl (EX b q),λ_ _ _ q=>.inl q,λ_ _ _ q=>q,λ_ _ _ q=>q⟩;have dv0:eV σ0 args args'.toList:=⟨d.1,λi x y h1 h2=>(d.2 i x y h1 h2).via (σ:=σ) (σ':=σ0) rfl λid hid=>to0 id (iu.1 c3 id (D5 hid (nU h1)))⟩;have hl:args'.size=args.length:=by rw[<-Array.length_toList];exact d.1.symm
 have fin:∀{σ':Ren}{a:Act}{w':World}{v:Value},dA B2 σ' st' a w'->DV σ' sv v->∃σn v',End p v=End p v'/\Ext σ σn/\DV σn sv v'/\Mem B σn (hG st'.h) (lY F st.sx st'.sx) w':=by
  intro σ' a w' v R dv
  let σn:Ren:=⟨λid=>if st.sx<=id/\id<st'.sx then σ'.nm id else σ.nm id,σ'.lit⟩
  have E:Ext σ σn:=⟨λid x e=>by show(if _ then _ else _)=_;rw[aq λq=>by rw[M.fresh id (hN id q.1 q.2)] at e;cases e];exact e,R.mem.nF⟩;have key:∀id,vj st.h st.sx id=true->∀z,σ'.nm id=some z->σn.nm id=some z:=λid h z hz=>by
   by_cases q:st.sx<=id
   ·have:id<st'.sx:=Nat.not_le.1 λq=>by rw[R.mem.fresh id q] at hz;cases hz
    show(if _ then _ else _)=_;rw[ay ⟨q,this⟩];exact hz
   ·unfold vj at h;rw[sI] at h;rcases h with h|h
    ·exact absurd (dX h) q
    ·have ex:∃so,st.h.get id=some so:=by
      unfold qe at h;split at h
      ·rename_i s hs;exact⟨s,hs⟩
      ·cases h
     obtain⟨so,hso⟩:=ex;have hy:∃y,σ.nm id=some y:=(M.obj id so hso).nm.elim (λq=>⟨_,q⟩) λ⟨_,_,q,_⟩=>⟨_,q⟩;obtain⟨y,hy⟩:=hy;have:=R.mem.ko id (Nat.not_le.1 q) y (to0 id h y hy);rw[hz] at this;cases this;exact E.nm _ _ hy
  have kp:∀{id so},st'.h.get id=some so->vj st.h st.sx id=true/\Cy (vj st.h st.sx) so=true:=λh=>by have:=Qc c5 h;rwa[bu] at this
  have back:∀{id so o n},st'.h.get id=some so->σn.nm id=some (some o,n)->σ'.nm id=some (some o,n):=λ{id so o n} h1 h2=>by rcases(R.mem.obj id so h1).nm with q|⟨_,_,q,_⟩<;>rw[key _ (kp h1).1 _ q] at h2<;>cases h2;exact q
  have M3:Mem (Bg w0 (Own σ (hG st.h)) σ.lit) σn (hG st'.h) (lY F st.sx st'.sx) w':=
   ⟨λid so h=>(R.mem.obj id so h).via (σ:=σ') (σ':=σn) rfl key (kp h).1 (kp h).2,λi j s s' o o' n n' a a' p p' q=>R.mem.inj _ _ _ _ _ _ _ _ a a' (back a p) (back a' p') q,λid h=>by show(if _ then _ else _)=_;rw[aq h.2];exact M.fresh id h.1,R.mem.lit,λb i v h ⟨i',s,o,n,a,p,q⟩=>R.mem.free b i v h ⟨i',s,o,n,a,back a p,q⟩,R.mem.base,λb ⟨i',s,o,n,a,p,q⟩=>R.mem.owned b ⟨i',s,o,n,a,back a p,q⟩,R.mem.mf,λk hk=>(Nat.not_lt_zero k hk).elim,R.mem.nF⟩
  exact⟨σn,v,rfl,E,dv.via (σ:=σ') (σ':=σn) rfl λid h=>key id (iu.1 c6 id h),(M.frame (λ_ _ h=>h) E M3).less (λ_ _ h=>.inl h) λ_ h=>h⟩
 refine z8 (C:=Sm X pt fn lv jv un w args.length st.sx) (B:=B2) (b:=(p,sv,st')) (OK.F _ _ hF).1 hb rfl rfl (ta OK mx (PT _) rfl rfl rfl _ _ _ _ _ e1 (λr hr=>by cases hr) ⟨by simp[hl,B2],rfl,tr (Cx dv0 (dH:=[])),M0⟩) λR dv=>⟨λkr=>?_,λkp=>?_⟩
 ·cases kr;exact fin R dv
 ·cases kp;exact fin R dv
noncomputable def Mc(pt pi:(β:Type)->FuncId->Option (cA β))(g:FuncId)(X:ew)(fn:Func)(lv:Nat->Option cJ)(un:Nat->Bool)(w:Nat):(β:Type)->FuncId->Option (cA β):=
 λβ f=>cond (Nat.beq f g) (some (inl X pi fn lv (λ_=>none) un w)) (pt β f)
theorem agV{P:Program}{X:ew}(OK:iJ P X)(mx:P.follows .mixedOrders=true){pt pi:(β:Type)->FuncId->Option (cA β)}(PT:jl P pt)(PI:jl P pi){g:FuncId}{fn:Func}(hF:X.F.get g=some fn)(hb:fn.body=some (fn.body.getD .skip)){lv:Nat->Option cJ}{un:Nat->Bool}{w:Nat}:jl P (Mc pt pi g X fn lv un w):=by
 intro β f e h;unfold Mc at h;cases hq:Nat.beq f g with
 |true=>rw[hq] at h;obtain rfl:=bV hq;cases h;exact abI OK mx PI hF hb
 |false=>rw[hq] at h;exact PT β f e h
end
def MG(e:Nat×Nat×List Nat×Nat):Value:=.func (.func 0) #[.agg #[.int .i64 e.1,.int .i64 e.2.1]] #[.agg #[ae e.2.2.1.length (e.2.2.1.map λt=>.int .i64 (Int.ofNat t)),.int .i64 e.2.2.2]]
def ya(l:List (Nat×Nat×List Nat×Nat)):Value:=.func (.method "") ⟨l.map MG⟩ #[]
end
section
variable{β:Type}
def sc:SV->Bool
 | .aH (x::_)=>(match x with| .ptr _ _=>true|_=>false)
 |_=>false
def CU(P:Program)(g:FuncId)(T:PT)(Sh:Fn T.ti.ks (Option (bL T.to.ks⊕bL T.tp.ks))):Prop:=
 ∀ls r st,iz T.ti.ks Sh ls=some r->il T.ti ls=some st->∀so,(match r with| .inl a=>il T.to (gL T.to.ks a)=some so| .inr a=>il T.tp (gL T.tp.ks a)=some so)->CV P g T.n T.an st so false
noncomputable def ZM[QF](w:Nat)(X:ew)(pt:(β:Type)->FuncId->Option (cA β))(fn:Func)(T:PT)(lv jv:Nat->Option cJ)(un:Nat->Bool):Fn T.ti.ks (Option (bL T.to.ks⊕bL T.tp.ks)):=
 lX T.ti.ks λls=>ob (il T.ti ls) λst=>dn {X:=X,pt:=pt _,n:=T.n+(fn.ntmps -T.n),rs:=fn.results.toList,lv:=lv,jv:=jv,un:=un,df:=false,fuel:=w,an:=T.an,ij:=λsv st=>cond (sc sv) (rz (ug T.to) sv st λsv st=>kV T.an T.to ⟨Tr.nil.set 0 sv,st.h,st.sx⟩ λls=>ob (dec T.to.ks ls) λa=>some (.inl a)) (rz (ug T.tp) sv st λsv st=>kV T.an T.tp ⟨Tr.nil.set 0 sv,st.h,st.sx⟩ λls=>ob (dec T.tp.ks ls) λa=>some (.inr a)),ma:=λ_ _=>none} 100000 [] [.code (fn.body.getD .skip)] st
theorem abc[QF]{P:Program}{X:ew}(OK:iJ P X)(mx:P.follows .mixedOrders=true){pt:(β:Type)->FuncId->Option (cA β)}(PTO:jl P pt){g:FuncId}{fn:Func}{T:PT}{lv jv:Nat->Option cJ}{un:Nat->Bool}{w:Nat}{Sh:Fn T.ti.ks (Option (bL T.to.ks⊕bL T.tp.ks))}
 (hF:X.F.get g=some fn) (hb:fn.body=some (fn.body.getD .skip)) (hS:Sh=ZM w X pt fn T lv jv un):CU P g T Sh:=by
 intro ls r st e hst so hso B σ w0 args' hn ha ev M;subst hS;have e1:=np _ _ _ _ e;obtain⟨st1,g1,e2⟩:=ax e1;rw[hst] at g1;cases g1;refine z8 (B:={B with n:=T.n+(fn.ntmps -T.n),dH:=[]}) (OK.F _ _ hF).1 hb rfl rfl (ta OK mx (PTO _) rfl rfl ha _ _ _ _ _ e2 (λr hr=>by cases hr) ⟨by simp[hn],rfl,tr ev,M.nd⟩) λ{σ1 s1 sv a1 w1 v1} R d=>⟨λkr=>?_,λkp=>by cases kp⟩
 cases hp:sc sv with
 |true=>
  replace kr:cond (sc sv) _ _=some r:=kr;rw[hp] at kr;obtain⟨sv2,st2,k1,k2⟩:=FF (β:=bL T.to.ks⊕bL T.tp.ks) (t:=ug T.to) (K:=λsv st=>kV T.an T.to ⟨Tr.nil.set 0 sv,st.h,st.sx⟩ λls=>ob (dec T.to.ks ls) λa=>some (.inl a)) kr;obtain⟨σ2,d2,M2⟩:=k2 d R.mem.nd;replace k1:kV T.an T.to ⟨Tr.nil.set 0 sv2,st2.h,st2.sx⟩ (λls=>ob (dec T.to.ks ls) λa=>some (Sum.inl a))=some r:=k1;cases r with
  |inl a=>obtain⟨σ3,z1,z2⟩:=xV (B:=B) (by rw[ha];exact k1) (λls q=>by obtain⟨a',q1,q2⟩:=ax q;cases q2;exact qa _ _ _ q1) hso d2 M2;exact⟨σ3,_,rfl,z1,z2⟩
  |inr a=>obtain⟨ls',q1,_⟩:=uV (B:=B) (by rw[ha];exact k1);obtain⟨a',_,q2⟩:=ax q1;cases q2
 |false=>
  replace kr:cond (sc sv) _ _=some r:=kr;rw[hp] at kr;obtain⟨sv2,st2,k1,k2⟩:=FF (β:=bL T.to.ks⊕bL T.tp.ks) (t:=ug T.tp) (K:=λsv st=>kV T.an T.tp ⟨Tr.nil.set 0 sv,st.h,st.sx⟩ λls=>ob (dec T.tp.ks ls) λa=>some (.inr a)) kr;obtain⟨σ2,d2,M2⟩:=k2 d R.mem.nd;replace k1:kV T.an T.tp ⟨Tr.nil.set 0 sv2,st2.h,st2.sx⟩ (λls=>ob (dec T.tp.ks ls) λa=>some (Sum.inr a))=some r:=k1;cases r with
  |inl a=>obtain⟨ls',q1,_⟩:=uV (B:=B) (by rw[ha];exact k1);obtain⟨a',_,q2⟩:=ax q1;cases q2
  |inr a=>obtain⟨σ3,z1,z2⟩:=xV (B:=B) (by rw[ha];exact k1) (λls q=>by obtain⟨a',q1,q2⟩:=ax q;cases q2;exact qa _ _ _ q1) hso d2 M2;exact⟨σ3,_,rfl,z1,z2⟩
def Q3(T:PT)(Sh:Fn T.ti.ks (Option (bL T.to.ks⊕bL T.tp.ks))):cA β:=λst args K=>
 cond (Nat.beq args.length T.n) (uU [] T.ti ⟨oJ args 0 .nil,st.h,st.sx⟩ λls m=>
  cond (rT st.h m&&sW m T.an) (ob (iz T.ti.ks Sh ls) λr=>dt r
   (λa=>ob (il T.to (gL T.to.ks a)) λso=>ob (so.tm.get 0) λsv=>K false (pC (mM T.an st.sx m) sv) ⟨st.tm,qW (mM T.an st.sx m) so.h T.to.qg (rL m st.h),st.sx+T.to.sx⟩)
   (λa=>ob (il T.tp (gL T.tp.ks a)) λso=>ob (so.tm.get 0) λsv=>K false (pC (mM T.an st.sx m) sv) ⟨st.tm,qW (mM T.an st.sx m) so.h T.tp.qg (rL m st.h),st.sx+T.tp.sx⟩)) none) none
theorem aaM{P:Program}{g:FuncId}{T:PT}{Sh:Fn T.ti.ks (Option (bL T.to.ks⊕bL T.tp.ks))}(F:CU P g T Sh):mB P g (Q3 (β:=β) T Sh):=by
 intro st args K b e;obtain⟨hlen,e⟩:=aX e;obtain⟨ls,m,h1,_,hinj,hsx,stT,h2,h3,h4⟩:=DM (λi j a q=>by cases q) e;obtain⟨hl,h1⟩:=aX h1;rw[bu] at hl;obtain⟨r,k1,h1⟩:=ax h1;cases r with
 |inl a=>obtain⟨so,k2,h1⟩:=ax h1;obtain⟨sv,k3,h1⟩:=ax h1;have sx:=AI k2;rw[<-sx] at h1;exact⟨false,_,_,h1,rfl,Nat.le_add_right _ _,λhF M args' d=>Ac (bV hlen) hinj (by rw[h3];exact hsx) h4 (vl hl.1) (wS hl.2) k3 (F ls _ stT k1 h2 so k2) hF M args' d⟩
 |inr a=>obtain⟨so,k2,h1⟩:=ax h1;obtain⟨sv,k3,h1⟩:=ax h1;have sx:=AI k2;rw[<-sx] at h1;exact⟨false,_,_,h1,rfl,Nat.le_add_right _ _,λhF M args' d=>Ac (bV hlen) hinj (by rw[h3];exact hsx) h4 (vl hl.1) (wS hl.2) k3 (F ls _ stT k1 h2 so k2) hF M args' d⟩
def Vs(pt:(β:Type)->FuncId->Option (cA β))(g:FuncId)(T:PT)(Sh:Fn T.ti.ks (Option (bL T.to.ks⊕bL T.tp.ks))):(β:Type)->FuncId->Option (cA β):=
 λβ f=>cond (Nat.beq f g) (some λst args K=>cond (DS T st args) (Q3 T Sh st args K) (ob (pt β f) λe=>e st args K)) (pt β f)
theorem agU{P:Program}{pt:(β:Type)->FuncId->Option (cA β)}(PTO:jl P pt){g:FuncId}{T:PT}{Sh:Fn T.ti.ks (Option (bL T.to.ks⊕bL T.tp.ks))}(F:CU P g T Sh):jl P (Vs pt g T Sh):=by
 intro β f e h;unfold Vs at h;cases hb:Nat.beq f g with
 |true=>
  rw[hb] at h;have hg:=bV hb;subst hg;cases h;intro st args K b k;cases hf:DS T st args with
  |true=>simp[hf] at k;exact aaM F st args K b k
  |false=>simp[hf] at k;obtain⟨e0,h0,k⟩:=ax k;exact PTO β f e0 h0 st args K b k
 |false=>rw[hb] at h;exact PTO β f e h
end
end Lt
structure bK where
 bW:Int
 data:List UInt8
 scan:List UInt8
 deriving DecidableEq
def oF(m:Int):Bool:=decide (208<=m/\m<=215)
def ja(m:Int):Bool:=decide (m=216\/m=217)
def lI(m:Int):Bool:=decide (192<=m/\m<=254)&&!oF m&&!ja m
def fU:List UInt8->Nat
 |[]=>0
 |b::t=>if b=255 then(match t with
  |[]=>0
  |c::_=>if c≠0/\oF c.toNat=false then 0 else fU t+1) else fU t+1
theorem F0:∀l,fU l<=l.length
 |[]=>aM _
 |b::t=>by
  have ih:=F0 t;unfold fU
  grind
inductive PM where
 |ok (l:List bK) (end_:Nat)
 |bad (at_:Nat) (e:Int)
 deriving DecidableEq
inductive Zr where
 |last (s:bK) (rest:List UInt8)
 |more (s:bK) (rest:List UInt8)
 |short
 |form (behind:Nat)
def kX(first:Bool):List UInt8->Zr
 |[]=>.short
 |[x]=>if x=255 then .short else .form 0
 |x::m::t=>
  if x≠255 then .form 0
  else if(first !=decide (m=216))||!(ja m.toNat||lI m.toNat) then .form 0
  else if m=217 then .last ⟨217,[],[]⟩ t
  else if m=216 then .more ⟨216,[],[]⟩ t
  else match t with
   |a::b::_=>
    let n:=a.toNat*256+b.toNat
    if n<2 then .form 2
    else if t.length<n then .short
    else
     let r:=t.drop n
     let k:=if m=218 then fU r else 0
     .more ⟨m.toNat,(t.drop 2).take (n -2),r.take k⟩ (r.drop k)
   |_=>.short
def mh(L:Nat):Nat->Bool->List UInt8->PM
 |0,_,_=>.bad 0 0
 |f+1,first,r=>match kX first r with
  | .short=>.bad L 3
  | .form k=>.bad (L -r.length+k) 2
  | .last s t=>.ok [s] (L -t.length)
  | .more s t=>match mh L f false t with
   | .ok l e=>.ok (s::l) e
   |x=>x
def ofM(b:List UInt8):PM:=mh b.length (b.length+1) true b
def mP(s:bK):Bool:=lI s.bW&&decide (s.data.length<=65533)&&(s.scan.isEmpty||(decide (s.bW=218)&&decide (fU s.scan=s.scan.length)))
def lW(s:bK)(m:Int):Bool:=decide (s.bW=m)&&s.data.isEmpty&&s.scan.isEmpty
def ju:List bK->Bool
 |[]=>false
 |[s]=>lW s 217
 |s::t=>mP s&&ju t
def mL:List bK->Bool
 |[]=>false
 |s::t=>lW s 216&&ju t
def cV(s:bK):List UInt8:=
 if ja s.bW then[255,UInt8.ofNat s.bW.toNat]
 else[255,UInt8.ofNat s.bW.toNat,UInt8.ofNat ((s.data.length+2)/256),UInt8.ofNat ((s.data.length+2)%256)]++s.data++s.scan
def cX(l:List bK):List UInt8:=l.flatMap cV
theorem mw(s:bK)(l:List bK):cX (s::l)=cV s++cX l:=rfl
theorem acT:∀{l:List bK},ju l=true->∃(m:UInt8)(t:List UInt8),cX l=255::m::t/\m≠0/\oF m.toNat=false
 |[],h=>by cases h
 |s::t,h=>by
  have key:(192<=s.bW/\s.bW<=254/\oF s.bW=false):=by
   cases t with
   |nil=>simp[ju,lW] at h;rw[h.1.1];decide
   |cons s' t=>simp[ju,mP,lI,bu] at h;exact⟨h.1.1.1.1.1.1,h.1.1.1.1.1.2,h.1.1.1.1.2⟩
  obtain⟨k1,k2,k3⟩:=key;have hm:((UInt8.ofNat s.bW.toNat).toNat:Int)=s.bW:=by rw[wG];omega
  refine⟨UInt8.ofNat s.bW.toNat,?_⟩;have e:∃t',cV s=255::UInt8.ofNat s.bW.toNat::t':=by unfold cV;split<;>simp_all
  obtain⟨t',e⟩:=e;refine⟨t'++cX t,by rw[mw,e];rfl,?_,by rw[hm];exact k3⟩;intro h0;rw[h0] at hm;simp at hm;omega
theorem Nv:∀(l:List UInt8)(m:UInt8)(t:List UInt8),fU l=l.length->m≠0->oF m.toNat=false->fU (l++255::m::t)=l.length
 |[],m,t,_,h1,h2=>by unfold fU;simp_all
 |b::l,m,t,h,h1,h2=>by
  have hl:fU l=l.length/\(b=255->∃c r,l=c::r/\¬(c≠0/\oF c.toNat=false)):=by
   unfold fU at h
   grind
  have ih:=Nv l m t hl.1 h1 h2;rw[eE];unfold fU
  grind
theorem ait(x:List UInt8){s:bK}(h:lW s 217=true):kX false (cV s++x)=.last s x:=by obtain⟨m,d,c⟩:=s;simp[lW] at h;obtain⟨⟨rfl,rfl⟩,rfl⟩:=h;rfl
theorem ais(x:List UInt8){s:bK}(h:lW s 216=true):kX true (cV s++x)=.more s x:=by obtain⟨m,d,c⟩:=s;simp[lW] at h;obtain⟨⟨rfl,rfl⟩,rfl⟩:=h;rfl
theorem aiu{s:bK}(h:mP s=true)(m:UInt8)(t:List UInt8)(h1:m≠0)(h2:oF m.toNat=false):kX false (cV s++255::m::t)=.more s (255::m::t):=by
 obtain⟨k,d,c⟩:=s;simp[mP,lI,bu,uq,sI,List.isEmpty_iff] at h;obtain⟨⟨⟨⟨⟨a1,a2⟩,a3⟩,a4⟩,a5⟩,a6⟩:=h;have hm:((UInt8.ofNat k.toNat).toNat:Int)=k:=by rw[wG];omega
 have n216:UInt8.ofNat k.toNat≠216:=by intro e;rw[e] at hm;rw[<-hm] at a4;exact absurd a4 (by decide)
 have n217:UInt8.ofNat k.toNat≠217:=by intro e;rw[e] at hm;rw[<-hm] at a4;exact absurd a4 (by decide)
 unfold cV;rw[aq (by simp[a4])];simp;dsimp only[kX];rw[aq (by simp)];have hh:lI ((UInt8.ofNat k.toNat).toNat:Int)=true:=by rw[hm];simp[lI,a1,a2,a3,a4]
 rw[(show((false !=decide (UInt8.ofNat k.toNat=216))||!(ja ((UInt8.ofNat k.toNat).toNat:Int)||lI ((UInt8.ofNat k.toNat).toNat:Int)))=false from by rw[hh,gk n216];simp),aq (by simp),aq n217,aq n216];have hn:(UInt8.ofNat ((d.length+2)/256)).toNat*256+(UInt8.ofNat ((d.length+2)%256)).toNat=d.length+2:=by rw[wG,wG];omega
 rw[hn,aq (by omega),aq (by simp)];have e1:(UInt8.ofNat ((d.length+2)/256)::UInt8.ofNat ((d.length+2)%256)::(d++(c++255::m::t))).drop (d.length+2)=c++255::m::t:=by simp
 rw[e1];have e2:(if UInt8.ofNat k.toNat=218 then fU (c++255::m::t) else 0)=c.length:=by
  rcases a6 with rfl|⟨a6,a7⟩
  ·split
   ·exact Nv [] m t rfl h1 h2
   ·rfl
  ·rw[ay (by rw[a6];rfl),Nv c m t a7 h1 h2]
 rw[e2];simp;omega
theorem al8{l:List bK}(h:ju l=true):l.length<=(cX l).length:=by
 induction l with
 |nil=>simp
 |cons s t ih=>
  rw[mw,aS,bX];have:1<=(cV s).length:=by unfold cV;split<;>simp<;>omega
  cases t with
  |nil=>grind
  |cons s' t=>have:=ih (by simp[ju] at h;exact h.2);omega
theorem TN(L:Nat)(x:List UInt8):∀(l:List bK)(f:Nat),ju l=true->l.length<f->mh L f false (cX l++x)=.ok l (L -x.length)
 |[],_,h,_=>by cases h
 |[s],f+1,h,_=>by
  have:cX [s]=cV s:=by simp[cX]
  rw[this];unfold mh;rw[ait x h]
 |s::s'::t,f+1,h,hf=>by have h':=((bu _ _).mp h).2;obtain⟨m,u,e,h1,h2⟩:=acT h';have ih:=TN L x (s'::t) f h' (by grind);rw[mw,dV];unfold mh;rw[e] at ih⊢;rw[eE,eE] at ih⊢;rw[aiu (((bu _ _).mp h).1) m (u++x) h1 h2];simp_all
 |_::_,0,_,hf=>by grind
theorem ac7{l:List bK}(h:mL l=true)(x:List UInt8):ofM (cX l++x)=.ok l (cX l).length:=by
 cases l with
 |nil=>cases h
 |cons s t=>
  simp[mL] at h;unfold ofM;rw[mw,dV];unfold mh;rw[ais _ h.1];have hl:t.length<(cV s++(cX t++x)).length:=by
   have:=al8 h.2;have:1<=(cV s).length:=by unfold cV;split<;>simp<;>omega
   grind
  simp only[TN _ x t _ h.2 hl]
  grind
def hU(l:List UInt8):Nat:=l.foldl (λn b=>n*256+b.toNat) 0
def gN(l:List UInt8)(at_ size:Nat)(order:Int):List UInt8:=
 if order=1 then((l.drop at_).take size).reverse else(l.drop at_).take size
theorem Eu(l:List UInt8)(b:UInt8):hU (l++[b])=hU l*256+b.toNat:=by unfold hU;rw[List.foldl_append];rfl
def CH(s:Int):Bool:=s==1||s==2||s==4
def fT(s o:Int):Bool:=CH s&&(o==1||o==2)
def o6(l:List UInt8)(at_ size order:Int):Option Int:=
 if fT size order=true/\0<=at_/\at_<=(l.length:Int) -size then some (hU (gN l at_.toNat size.toNat order)) else none
def eP(n:Nat):Nat->List UInt8
 |0=>[]
 |s+1=>eP (n/256) s++[UInt8.ofNat (n%256)]
theorem oX(s:Nat):∀n,(eP n s).length=s:=by
 induction s with
 |zero=>intro n;rfl
 |succ s ih=>intro n;simp[eP,ih]
def aY(n s:Nat)(order:Int):List UInt8:=if order=1 then(eP n s).reverse else eP n s
theorem eB(n s:Nat)(o:Int):(aY n s o).length=s:=by unfold aY;split<;>simp[oX]
theorem xm{l:List UInt8}{p s:Nat}{order:Int}(hs:s=1\/s=2\/s=4)(ho:order=1\/order=2)(hp:p+s<=l.length):o6 l p s order=some (hU (gN l p s order):Int):=by unfold o6;rw[ay ⟨by rcases hs with rfl|rfl|rfl<;>rcases ho with rfl|rfl<;>rfl,by omega,by omega⟩];simp
def aJ(n:Nat):Nat:=n+n%2
def pA(n:Int)(s:Nat)(order:Int):Option (List UInt8):=if 0<=n/\n<((256^s:Nat):Int) then some (aY n.toNat s order) else none
def iq(l:List UInt8)(s m:Nat):List UInt8:=
 (List.range l.length).map λi=>if i<m then(l[i -i%s+(s -1 -i%s)]?).getD 0 else(l[i]?).getD 0
theorem pG(l:List UInt8)(s m:Nat):(iq l s m).length=l.length:=by simp[iq]
theorem CN(l:List UInt8)(s m i:Nat)(h:i<l.length):(iq l s m)[i]? =some (if i<m then(l[i -i%s+(s -1 -i%s)]?).getD 0 else(l[i]?).getD 0):=by simp[iq,h]
def iT(l:List UInt8)(s:Nat)(order:Int):List UInt8:=if order=1 then iq l s l.length else l
theorem wo(l:List UInt8)(s:Nat)(o:Int):(iT l s o).length=l.length:=by unfold iT;split<;>simp[pG]
def kindOf(t:Int):Int×Int×Int:=
 if t=1\/t=2\/t=7 then(1,1,1) else if t=3 then(2,2,1) else if t=4 then(4,4,1) else if t=5 then(8,4,3) else if t=6 then(1,1,2) else if t=8 then(2,2,2)
 else if t=9 then(4,4,2) else if t=10 then(8,4,4) else if t=11 then(4,4,5) else if t=12 then(8,8,5) else(0,0,0)
def zZ(l:List UInt8):Bool:=(List.range l.length).all λi=>((l[i]?).getD 0==0)==(i+1==l.length)
def er(ty az:Int)(l:List UInt8):Bool:=
 decide ((kindOf ty).1 ≠0/\1<=az/\az<=65536/\(l.length:Int)=az*(kindOf ty).1)&&(ty !=2||zZ l)
theorem Ed{t:Int}(h:t<1\/12<t):kindOf t=(0,0,0):=by
 unfold kindOf
 repeat(rw[aq (by omega)])
theorem KE(t:Int)(h:(kindOf t).1 ≠0):∃s m:Nat,(kindOf t).2.1 =(s:Int)/\(kindOf t).1 =((m*s:Nat):Int)/\(s=1\/s=2\/s=4\/s=8):=by
 by_cases o:t<1\/12<t
 ·rw[Ed o] at h;exact absurd rfl h
 ·have hc:t=1\/t=2\/t=3\/t=4\/t=5\/t=6\/t=7\/t=8\/t=9\/t=10\/t=11\/t=12:=by omega
  rcases hc with rfl|rfl|rfl|rfl|rfl|rfl|rfl|rfl|rfl|rfl|rfl|rfl
  ·exact⟨1,1,rfl,rfl,by omega⟩
  ·exact⟨1,1,rfl,rfl,by omega⟩
  ·exact⟨2,1,rfl,rfl,by omega⟩
  ·exact⟨4,1,rfl,rfl,by omega⟩
  ·exact⟨4,2,rfl,rfl,by omega⟩
  ·exact⟨1,1,rfl,rfl,by omega⟩
  ·exact⟨1,1,rfl,rfl,by omega⟩
  ·exact⟨2,1,rfl,rfl,by omega⟩
  ·exact⟨4,1,rfl,rfl,by omega⟩
  ·exact⟨4,2,rfl,rfl,by omega⟩
  ·exact⟨4,1,rfl,rfl,by omega⟩
  ·exact⟨8,1,rfl,rfl,by omega⟩
theorem Tq{ty az:Int}{l:List UInt8}(h:er ty az l=true):∃s q:Nat,(kindOf ty).2.1 =(s:Int)/\l.length=q*s/\(s=1\/s=2\/s=4\/s=8):=by
 unfold er at h;rw[bu,bZ] at h;obtain⟨⟨h1,h2,h3,h4⟩,-⟩:=h;obtain⟨s,m,e1,e2,e3⟩:=KE ty h1;refine⟨s,az.toNat*m,e1,?_,e3⟩;rw[e2] at h4;have:(l.length:Int)=((az.toNat*m*s:Nat):Int):=by
  rw[h4,Nat.mul_assoc]
  push_cast
  rw[mz (by omega)]
 omega
theorem KZ(s:Nat):∀n,n<256^s->hU (eP n s)=n:=by
 induction s with
 |zero=>intro n h;simp at h;subst h;rfl
 |succ s ih=>intro n h;show hU (eP (n/256) s++[UInt8.ofNat (n%256)])=n;rw[Eu,ih (n/256) (by rw[Nat.pow_succ] at h;omega),wG];omega
theorem Vk(pre l post:List UInt8)(s:Nat)(order:Int)(hl:l.length=s):gN (pre++(l++post)) pre.length s order=if order=1 then l.reverse else l:=by unfold gN;rw[List.drop_left,<-hl,List.take_left]
theorem ac4(pre post:List UInt8)(n s:Nat)(order:Int)(h:n<256^s):hU (gN (pre++(aY n s order++post)) pre.length s order)=n:=by
 rw[Vk _ _ _ _ _ (eB n s order)];unfold aY;split
 ·rw[List.reverse_reverse,KZ s n h]
 ·exact KZ s n h
theorem get_at(pre post:List UInt8)(n s:Nat)(order:Int)(hs:s=1\/s=2\/s=4)(ho:order=1\/order=2)(h:n<256^s):o6 (pre++(aY n s order++post)) pre.length s order=some (n:Int):=by rw[xm hs ho (by simp[eB]),ac4 _ _ _ _ _ h]
theorem K0:∀(l:List UInt8),hU l<256^l.length:=by
 intro l;induction h:l.length generalizing l with
 |zero=>rw[qC] at h;subst h;decide
 |succ k ih=>
  have cF:l≠[]:=by intro e;subst e;simp at h
  have e:=List.dropLast_concat_getLast cF;rw[<-e,Eu];have:=ih l.dropLast (by simp[h]);have hb:=(l.getLast cF).toNat_lt;rw[Nat.pow_succ];omega
theorem Qn:∀(k:Nat)(l:List UInt8),l.length=k->eP (hU l) k=l:=by
 intro k;induction k with
 |zero=>intro l h;rw[qC] at h;subst h;rfl
 |succ k ih=>
  intro l h;have cF:l≠[]:=by intro e;subst e;simp at h
  have e:=List.dropLast_concat_getLast cF;have hb:=(l.getLast cF).toNat_lt
  conv=>lhs;rw[<-e,Eu]
  show eP ((hU l.dropLast*256+(l.getLast cF).toNat)/256) k++[UInt8.ofNat ((hU l.dropLast*256+(l.getLast cF).toNat)%256)]=l;have e1:(hU l.dropLast*256+(l.getLast cF).toNat)/256=hU l.dropLast:=by omega
  have e2:(hU l.dropLast*256+(l.getLast cF).toNat)%256=(l.getLast cF).toNat:=by omega
  rw[e1,e2,ih _ (by simp[h]),UInt8.ofNat_toNat];exact e
theorem agu(l:List UInt8)(s:Nat)(order:Int)(h:l.length=s):aY (hU (if order=1 then l.reverse else l)) s order=l:=by
 unfold aY;split
 ·rw[Qn s _ (by simp[h]),List.reverse_reverse]
 ·exact Qn s _ h
theorem alT{s n i:Nat}(hs:0<s)(hd:n%s=0)(hi:i<n):i -i%s+(s -1 -i%s)<n/\(i -i%s+(s -1 -i%s)) -(i -i%s+(s -1 -i%s))%s+(s -1 -(i -i%s+(s -1 -i%s))%s)=i:=by
 have hm:=Nat.mod_lt i hs;obtain⟨q,hq⟩:∃q,n=s*q:=⟨n/s,by have:=Nat.div_add_mod n s;omega⟩;have hdm:=Nat.div_add_mod i s;obtain⟨a,ha⟩:∃a,i/s=a:=⟨_,rfl⟩;obtain⟨r,hr⟩:∃r,i%s=r:=⟨_,rfl⟩;rw[ha,hr] at hdm;rw[hr] at hm;rw[hr];have hi':i=s*a+r:=by omega
 have haq:a<q:=by
  have:s*a<s*q:=by omega
  exact Nat.lt_of_mul_lt_mul_left this
 have hle:s*(a+1)<=s*q:=Nat.mul_le_mul_left s haq;rw[Nat.mul_add,gB] at hle;have e:i -r+(s -1 -r)=s*a+(s -1 -r):=by omega
 have e2:(s*a+(s -1 -r))%s=s -1 -r:=by rw[Nat.mul_add_mod,pR (by omega)]
 rw[e,e2];omega
theorem alU(l:List UInt8)(s:Nat)(order:Int)(hs:0<s)(hd:l.length%s=0):iT (iT l s order) s order=l:=by
 unfold iT;split
 ·apply rC;intro i;rcases gW i l.length with h|h
  ·obtain⟨h1,h2⟩:=alT hs hd h;rw[CN _ _ _ _ (by rw[pG];exact h),pG,ay h,CN _ _ _ _ h1,ay h1,h2,cu h];rfl
  ·rw[kL (by rw[pG,pG];exact h),kL h]
 ·rfl
def py(ty az:Int)(b:List UInt8)(order:Int):Option (List UInt8):=
 if(kindOf ty).1 ≠0/\1<=az/\az<=65536/\az*(kindOf ty).1 <=(b.length:Int)/\er ty az (iT (b.take (az*(kindOf ty).1).toNat) (kindOf ty).2.1.toNat order)=true then
  some (iT (b.take (az*(kindOf ty).1).toNat) (kindOf ty).2.1.toNat order) else none
theorem vo{ty az:Int}{l:List UInt8}(h:er ty az l=true):(kindOf ty).1 ≠0/\1<=az/\az<=65536/\(l.length:Int)=az*(kindOf ty).1 :=by unfold er at h;rw[bu,bZ] at h;exact h.1
theorem TK{ty az order:Int}{l:List UInt8}(h:er ty az l=true)(post:List UInt8):py ty az (iT l (kindOf ty).2.1.toNat order++post) order=some l:=by
 obtain⟨h1,h2,h3,h4⟩:=vo h;obtain⟨s,q,e1,e2,e3⟩:=Tq h;have hs:(kindOf ty).2.1.toNat=s:=by rw[e1];simp
 have hn:(az*(kindOf ty).1).toNat=l.length:=by omega
 have ht:(iT l (kindOf ty).2.1.toNat order++post).take (az*(kindOf ty).1).toNat=iT l (kindOf ty).2.1.toNat order:=by
  rw[hn]
  conv=>lhs;rw[<-wo l (kindOf ty).2.1.toNat order]
  exact List.take_left
 have hb:iT (iT l (kindOf ty).2.1.toNat order) (kindOf ty).2.1.toNat order=l:=by rw[hs];exact alU l s order (by omega) (by rw[e2];exact Nat.mul_mod_left q s)
 unfold py;rw[ht,hb,ay ⟨h1,h2,h3,by simp[wo];omega,h⟩]
structure aK where
 tag:Int
 ty:Int
 az:Int
 data:List UInt8
 deriving DecidableEq
mutual
inductive aU where
 |mk (tags:List aK) (subs:cI) (blob:List UInt8)
inductive cI where
 |nil
 |cons (tag:Int) (d:aU) (r:cI)
end
structure mC where
 order:Int
 dG:List aU
structure iv where
 tag:Int
 shape:Int
structure bc where
 bN:List iv
 at_:Int
 cC:Int
 next:Int
structure bn where
 tag:Int
 ty:Int
 az:Int
 slot:Nat
 deriving DecidableEq
structure bo where
 nS:Int
 dir:Int
 tag:Int
 at_:Nat
 cC:Nat
 deriving DecidableEq
def jf(ty az:Int):Int:=if az<1\/65536<az then 0 else az*(kindOf ty).1
def bO(ty az:Int):Nat:=if 4<jf ty az then(jf ty az).toNat else 0
def cd:cI->Nat
 | .nil=>0
 | .cons _ _ r=>cd r+1
def bH:aU->Nat
 | .mk tags subs blob=>tags.length+cd subs+(if blob.length=0 then 0 else 2)
def cf(e:Nat):List aK->Nat
 |[]=>e
 |t::ts=>if bO t.ty t.az=0 then cf e ts else cf (aJ e+bO t.ty t.az) ts
mutual
def bB(e:Nat):aU->Nat
 | .mk tags subs blob=>
  if blob.length=0 then ej (cf (aJ e+(6+12*bH (.mk tags subs blob))) tags) subs
  else aJ (ej (cf (aJ e+(6+12*bH (.mk tags subs blob))) tags) subs)+blob.length
def ej(e:Nat):cI->Nat
 | .nil=>e
 | .cons _ d r=>ej (bB e d) r
end
mutual
def dD:aU->Nat
 | .mk _ subs _=>ib subs+1
def ib:cI->Nat
 | .nil=>0
 | .cons _ d r=>dD d+ib r
end
def cW(no:Nat)(e:Nat):List aK->List bo
 |[]=>[]
 |t::ts=>if bO t.ty t.az=0 then cW no e ts else⟨3,no,t.tag,aJ e,bO t.ty t.az⟩::cW no (aJ e+bO t.ty t.az) ts
mutual
def fW(no:Nat)(e:Nat):aU->List bo
 | .mk tags subs blob=>
  ⟨2,no,0,aJ e,6+12*bH (.mk tags subs blob)⟩::
   (cW no (aJ e+(6+12*bH (.mk tags subs blob))) tags++
    (kI (no+1) (cf (aJ e+(6+12*bH (.mk tags subs blob))) tags) subs++
     (if blob.length=0 then[] else[⟨4,no,0,aJ (ej (cf (aJ e+(6+12*bH (.mk tags subs blob))) tags) subs),blob.length⟩])))
def kI(no:Nat)(e:Nat):cI->List bo
 | .nil=>[]
 | .cons _ d r=>fW no e d++kI (no+dD d) (bB e d) r
end
def ll(order:Int)(t:aK):List UInt8:=iT t.data (kindOf t.ty).2.1.toNat order
def o9(order:Int)(t:aK):Nat:=hU (gN (ll order t++List.replicate (4 -t.data.length) 0) 0 4 order)
def eA(order:Int)(e:Nat):List aK->List bn
 |[]=>[]
 |t::ts=>if bO t.ty t.az=0 then⟨t.tag,t.ty,t.az,o9 order t⟩::eA order e ts else⟨t.tag,t.ty,t.az,aJ e⟩::eA order (aJ e+bO t.ty t.az) ts
def iA(e:Nat):cI->List bn
 | .nil=>[]
 | .cons tag d r=>⟨tag,4,1,aJ e⟩::iA (bB e d) r
def gZ(S:bc)(e:Nat)(blob:List UInt8):List bn:=
 if blob.length=0 then[] else[⟨S.at_,4,1,aJ e⟩,⟨S.cC,4,1,blob.length⟩]
def jZ(x:bn):List bn->List bn
 |[]=>[x]
 |y::l=>if x.tag<=y.tag then x::y::l else y::jZ x l
def gF:List bn->List bn
 |[]=>[]
 |x::l=>jZ x (gF l)
def jb(order:Int)(x:bn):List UInt8:=aY x.tag.toNat 2 order++(aY x.ty.toNat 2 order++(aY x.az.toNat 4 order++aY x.slot 4 order))
def kP(order:Int)(l:List bn)(next:Nat):List UInt8:=aY l.length 2 order++(l.flatMap (jb order)++aY next 4 order)
def dN(e:Nat):List UInt8:=if e%2=0 then[] else[0]
def gA(order:Int)(e:Nat):List aK->List UInt8
 |[]=>[]
 |t::ts=>if bO t.ty t.az=0 then gA order e ts else dN e++(ll order t++gA order (aJ e+bO t.ty t.az) ts)
def TF:bc:=⟨[],0,0,-1⟩
def aO(sh:List bc)(s:Nat):bc:=(sh[s]?).getD TF
def lK(S:bc)(tag:Int):Option Nat:=(S.bN.find? λx=>x.tag==tag).map λx=>x.shape.toNat
mutual
def jo(order:Int)(sh:List bc)(s:Nat)(next:Nat)(e:Nat):aU->List UInt8
 | .mk tags subs blob=>
  dN e++(kP order (gF (eA order (aJ e+(6+12*bH (.mk tags subs blob))) tags++
   (iA (cf (aJ e+(6+12*bH (.mk tags subs blob))) tags) subs++
    gZ (aO sh s) (ej (cf (aJ e+(6+12*bH (.mk tags subs blob))) tags) subs) blob))) next++
   (gA order (aJ e+(6+12*bH (.mk tags subs blob))) tags++
    (jT order sh (aO sh s) (cf (aJ e+(6+12*bH (.mk tags subs blob))) tags) subs++
     (if blob.length=0 then[] else dN (ej (cf (aJ e+(6+12*bH (.mk tags subs blob))) tags) subs)++blob))))
def jT(order:Int)(sh:List bc)(S:bc)(e:Nat):cI->List UInt8
 | .nil=>[]
 | .cons tag d r=>jo order sh ((lK S tag).getD 0) 0 e d++jT order sh S (bB e d) r
end
def fH:List aK->Bool
 |[]=>true
 |[_]=>true
 |a::b::l=>decide (a.tag<b.tag)&&fH (b::l)
def lf:cI->List Int
 | .nil=>[]
 | .cons tag _ r=>tag::lf r
def nN:List Int->Bool
 |[]=>true
 |[_]=>true
 |a::b::l=>decide (a<b)&&nN (b::l)
def fy(S:bc)(tag:Int):Bool:=decide (S.at_≠0)&&(decide (tag=S.at_)||decide (tag=S.cC))
def fo(S:bc)(tag:Int):Bool:=S.bN.any λx=>x.tag==tag
def eH(S:bc)(tag:Int):Bool:=fo S tag||fy S tag
def mS(tag:Int):Bool:=decide (0<=tag/\tag<65536)
def kh(S:bc)(tags:List aK):Bool:=fH tags&&tags.all λt=>mS t.tag&&(!eH S t.tag&&er t.ty t.az t.data)
mutual
def cK(sh:List bc)(s:Nat):aU->Bool
 | .mk tags subs blob=>decide (1<=bH (.mk tags subs blob)/\bH (.mk tags subs blob)<=65535)&&(kh (aO sh s) tags&&
  ((decide (blob.length=0)||decide ((aO sh s).at_≠0))&&(nN (lf subs)&&jc sh (aO sh s) subs)))
def jc(sh:List bc)(S:bc):cI->Bool
 | .nil=>true
 | .cons tag d r=>fo S tag&&(cK sh ((lK S tag).getD 0) d&&jc sh S r)
end
theorem ny(e:Nat):e<=aJ e:=by unfold aJ;omega
theorem JN(e:Nat):aJ e%2=0:=by unfold aJ;omega
theorem qh(e:Nat):e+(dN e).length=aJ e:=by unfold dN aJ;split<;>simp<;>omega
theorem qI:∀(ts:List aK)(e:Nat),e<=cf e ts
 |[],e=>aM _
 |t::ts,e=>by
  unfold cf;split
  ·exact qI ts e
  ·have:=qI ts (aJ e+bO t.ty t.az);have:=ny e;omega
mutual
theorem zV:∀(d:aU)(e:Nat),e<=bB e d
 | .mk tags subs blob,e=>by
  unfold bB;have h1:=ny e;have h2:=qI tags (aJ e+(6+12*bH (.mk tags subs blob)));have h3:=te subs (cf (aJ e+(6+12*bH (.mk tags subs blob))) tags);have h4:=ny (ej (cf (aJ e+(6+12*bH (.mk tags subs blob))) tags) subs)
  grind
theorem te:∀(r:cI)(e:Nat),e<=ej e r
 | .nil,e=>by unfold ej;exact aM _
 | .cons _ d r,e=>by unfold ej;have h1:=zV d e;have h2:=te r (bB e d);omega
end
theorem Sq(x:bn):∀l,(jZ x l).length=l.length+1
 |[]=>rfl
 |y::l=>by unfold jZ;split<;>simp[Sq x l]
theorem Ar:∀l,(gF l).length=l.length
 |[]=>rfl
 |x::l=>by rw[gF,Sq,Ar l];rfl
theorem tj(order:Int):∀(ts:List aK)(e:Nat),(eA order e ts).length=ts.length
 |[],_=>rfl
 |t::ts,e=>by unfold eA;split<;>simp[tj order ts]
theorem Ab:∀(r:cI)(e:Nat),(iA e r).length=cd r
 | .nil,_=>rfl
 | .cons _ d r,e=>by unfold iA cd;simp[Ab r]
theorem DJ(S:bc)(e:Nat)(blob:List UInt8):(gZ S e blob).length=if blob.length=0 then 0 else 2:=by unfold gZ;split<;>rfl
theorem JE(order:Int)(x:bn):(jb order x).length=12:=by simp[jb,eB]
theorem xe(order:Int):∀l:List bn,(l.flatMap (jb order)).length=12*l.length
 |[]=>rfl
 |x::l=>by rw[dK,aS,JE,xe order l,bX];omega
theorem QM(order:Int)(l:List bn)(next:Nat):(kP order l next).length=6+12*l.length:=by unfold kP;rw[aS,aS,eB,xe,eB];omega
theorem xO{t:aK}(h:er t.ty t.az t.data=true):bO t.ty t.az=if t.data.length<=4 then 0 else t.data.length:=by
 obtain⟨h1,h2,h3,h4⟩:=vo h;have hl:jf t.ty t.az=(t.data.length:Int):=by unfold jf;rw[aq (by omega),h4]
 unfold bO
 grind
theorem zh(order:Int)(t:aK):(ll order t).length=t.data.length:=wo _ _ _
theorem Il(order:Int):∀(ts:List aK)(e:Nat),(∀t∈ts,er t.ty t.az t.data=true)->e+(gA order e ts).length=cf e ts
 |[],e,_=>rfl
 |t::ts,e,h=>by
  have ih:=λe=>Il order ts e λt ht=>h t (by grind);unfold gA cf;split
  ·grind
  ·rename_i hn;have:=ih (aJ e+bO t.ty t.az);have hp:=qh e;rw[aS,aS,zh];have:bO t.ty t.az=t.data.length:=by rw[(xO (h t (by simp)))] at hn⊢;split<;>simp_all
   omega
mutual
theorem sX(order:Int)(sh:List bc):∀(d:aU)(s next e:Nat),cK sh s d=true->e+(jo order sh s next e d).length=bB e d
 | .mk tags subs blob,s,next,e,h=>by
  simp[cK,kh,iu] at h;obtain⟨h1,⟨h2,h3⟩,h4,h5,h6⟩:=h;have hp:=qh e;have hv:=Il order tags (aJ e+(6+12*bH (.mk tags subs blob))) λt ht=>(h3 t ht).2.2;have hs:=Ji order sh subs (aO sh s) (cf (aJ e+(6+12*bH (.mk tags subs blob))) tags) h6;have hb:=qh (ej (cf (aJ e+(6+12*bH (.mk tags subs blob))) tags) subs);have hn:(gF (eA order (aJ e+(6+12*bH (.mk tags subs blob))) tags++(iA (cf (aJ e+(6+12*bH (.mk tags subs blob))) tags) subs++
   gZ (aO sh s) (ej (cf (aJ e+(6+12*bH (.mk tags subs blob))) tags) subs) blob))).length=bH (.mk tags subs blob):=by
   rw[Ar,aS,aS,tj,Ab,DJ];show _=tags.length+cd subs+(if blob.length=0 then 0 else 2);omega
  unfold jo bB;rw[aS,aS,QM,hn];split<;>grind
theorem Ji(order:Int)(sh:List bc):∀(r:cI)(S:bc)(e:Nat),jc sh S r=true->e+(jT order sh S e r).length=ej e r
 | .nil,S,e,_=>rfl
 | .cons tag d r,S,e,h=>by simp[jc] at h;have h1:=sX order sh d ((lK S tag).getD 0) 0 e h.2.1;have h2:=Ji order sh r S (bB e d) h.2.2;unfold jT ej;rw[aS];omega
end
theorem D8(x y:bn)(l:List bn):jZ x (y::l)=if x.tag<=y.tag then x::y::l else y::jZ x l:=rfl
theorem Kv{x y:bn}:∀{l:List bn},y∈jZ x l↔y=x\/y∈l
 |[]=>by simp[jZ]
 |z::l=>by
  unfold jZ;split
  ·simp
  ·simp[Kv]
   grind
theorem xv{y:bn}:∀{l:List bn},y∈gF l↔y∈l
 |[]=>by simp[gF]
 |x::l=>by rw[gF,Kv,xv];simp
def Up:List bn->Prop
 |[]=>True
 |x::l=>(∀y∈l,x.tag<=y.tag)/\Up l
theorem Su(x:bn):∀{l:List bn},Up l->Up (jZ x l)
 |[],_=>⟨λy h=>(by grind),trivial⟩
 |z::l,h=>by
  unfold jZ;split
  ·rename_i hz;refine⟨λy hy=>?_,h⟩;rcases cQ.1 hy with rfl|hy
   ·grind
   ·have:=h.1 y hy;omega
  ·rename_i hz;refine⟨λy hy=>?_,Su x h.2⟩;rcases Kv.1 hy with rfl|hy
   ·omega
   ·exact h.1 y hy
theorem SF:∀l:List bn,Up (gF l)
 |[]=>trivial
 |x::l=>Su x (SF l)
def eR:List bn->Bool
 |[]=>true
 |[_]=>true
 |a::b::l=>decide (a.tag<b.tag)&&eR (b::l)
theorem Sn{x:bn}:∀{l:List bn},(∀y∈l,x.tag<=y.tag)->jZ x l=x::l
 |[],_=>rfl
 |z::l,h=>by unfold jZ;rw[ay (h z (by simp))]
theorem MC:∀{l:List bn},eR l=true->Up l
 |[],_=>trivial
 |[x],_=>⟨λy h=>(by grind),trivial⟩
 |a::b::l,h=>by
  simp[eR] at h;have ih:=MC h.2;refine⟨λy hy=>?_,ih⟩;rcases cQ.1 hy with rfl|hy
  ·omega
  ·have:=ih.1 y hy;omega
theorem Eb:∀{l:List bn},eR l=true->gF l=l
 |[],_=>rfl
 |x::l,h=>by
  have hl:eR l=true:=by
   cases l with
   |nil=>rfl
   |cons b l=>simp[eR] at h;exact h.2
  rw[gF,Eb hl,Sn (MC h).1]
theorem Rq(p:bn->Bool)(x:bn):∀{l:List bn},Up l->(jZ x l).filter p=if p x=true then jZ x (l.filter p) else l.filter p
 |[],_=>by show[x].filter p=_;rw[km];rfl
 |z::l,h=>by
  rw[D8];by_cases hz:x.tag<=z.tag
  ·rw[ay hz,km];split
   ·rw[Sn];intro y hy;have hy':=(oO.1 hy).1;rcases cQ.1 hy' with rfl|hy'
    ·exact hz
    ·have:=h.1 y hy';omega
   ·rfl
  ·rw[aq hz,km,(Rq p x h.2)];by_cases hx:p x=true
   ·rw[km];split
    ·rw[D8,aq hz]
    ·rfl
   ·rw[aq hx,aq hx,km]
theorem DQ(p:bn->Bool):∀l:List bn,(gF l).filter p=gF (l.filter p)
 |[]=>rfl
 |x::l=>by rw[gF,Rq p x (SF l),DQ p l,km];split<;>rfl
theorem Ss{x:bn}:∀{l:List bn},eR l=true->(∀y∈l,y.tag≠x.tag)->eR (jZ x l)=true
 |[],_,_=>rfl
 |[z],_,hn=>by
  have:=hn z (by simp)
  unfold jZ
  split
  ·simp[eR];omega
  ·simp[jZ,eR,kj];omega
 |z::z'::l,h,hn=>by
  have h0:=hn z (by simp)
  simp[eR] at h
  have ih:=Ss (x:=x) h.2 λy hy=>hn y (by simp[hy])
  rw[D8]
  split
  ·simp[eR];exact⟨by omega,h⟩
  ·rw[D8] at ih⊢
   split
   ·rename_i hz hz'
    rw[ay hz'] at ih
    simp[eR] at ih⊢
    exact⟨by omega,ih⟩
   ·rename_i hz hz'
    rw[aq hz'] at ih
    simp[eR]
    exact⟨h.1,ih⟩
def nZ:List bn->Prop
 |[]=>True
 |x::l=>(∀y∈l,y.tag≠x.tag)/\nZ l
theorem KA:∀{l:List bn},nZ l->eR (gF l)=true
 |[],_=>rfl
 |x::l,h=>by exact Ss (KA h.2) λy hy=>h.1 y (xv.1 hy)
theorem zF:∀{l:List bn},eR l=true->nZ l
 |[],_=>trivial
 |[x],_=>⟨λy h=>(by grind),trivial⟩
 |a::b::l,h=>by
  simp[eR] at h;refine⟨λy hy=>?_,zF h.2⟩;have:=(MC h.2).1
  grind
theorem I2:∀{l k:List bn},nZ l->nZ k->(∀x∈l,∀y∈k,y.tag≠x.tag)->nZ (l++k)
 |[],k,_,hk,_=>hk
 |x::l,k,hl,hk,h=>by
  refine⟨λy hy=>?_,I2 hl.2 hk λx hx=>h x (by grind)⟩;rcases fI.1 hy with hy|hy
  ·exact hl.1 y hy
  grind
def cm(b:List UInt8)(p s:Nat)(order:Int):Nat:=((o6 b p s order).getD 0).toNat
theorem nH{b pre post:List UInt8}{n s p:Nat}{order:Int}(e:b=pre++(aY n s order++post))(hp:p=pre.length)(hs:s=1\/s=2\/s=4)(ho:order=1\/order=2)(h:n<256^s):cm b p s order=n:=by unfold cm;rw[e,hp,get_at _ _ _ _ _ hs ho h];simp
def Aa(b:List UInt8)(p:Nat)(order:Int):bn:=⟨cm b p 2 order,cm b (p+2) 2 order,cm b (p+4) 4 order,cm b (p+8) 4 order⟩
structure mB(x:bn):Prop where
 tag:0<=x.tag/\x.tag<65536
 ty:0<=x.ty/\x.ty<65536
 az:0<=x.az/\x.az<4294967296
 slot:x.slot<4294967296
theorem aaH{b pre post:List UInt8}{p:Nat}{order:Int}{x:bn}(e:b=pre++(jb order x++post))(hp:p=pre.length)(ho:order=1\/order=2)(h:mB x):Aa b p order=x:=by
 have e0:b=pre++(aY x.tag.toNat 2 order++(aY x.ty.toNat 2 order++(aY x.az.toNat 4 order++(aY x.slot 4 order++post)))):=by rw[e];simp[jb]
 have e1:b=(pre++aY x.tag.toNat 2 order)++(aY x.ty.toNat 2 order++(aY x.az.toNat 4 order++(aY x.slot 4 order++post))):=by rw[e0];simp
 have e2:b=(pre++aY x.tag.toNat 2 order++aY x.ty.toNat 2 order)++(aY x.az.toNat 4 order++(aY x.slot 4 order++post)):=by rw[e0];simp
 have e3:b=(pre++aY x.tag.toNat 2 order++aY x.ty.toNat 2 order++aY x.az.toNat 4 order)++(aY x.slot 4 order++post):=by rw[e0];simp
 unfold Aa;rw[(nH e0 hp (.inr (.inl rfl)) ho (by have:=h.tag;omega)),(nH (p:=p+2) e1 (by simp[eB,hp]) (.inr (.inl rfl)) ho (by have:=h.ty;omega)),(nH (p:=p+4) e2 (by simp[eB,hp]) (.inr (.inr rfl)) ho (by have:=h.az;omega)),(nH (p:=p+8) e3 (by simp[eB,hp]) (.inr (.inr rfl)) ho h.slot)];rw[mz h.tag.1,mz h.ty.1,mz h.az.1]
def jW(b:List UInt8)(order:Int):Nat->Nat->List bn
 |_,0=>[]
 |p,n+1=>Aa b p order::jW b order (p+12) n
theorem Q7{b:List UInt8}{order:Int}(ho:order=1\/order=2):∀(l:List bn)(pre post:List UInt8)(p:Nat),b=pre++(l.flatMap (jb order)++post)->p=pre.length->(∀x∈l,mB x)->jW b order p l.length=l
 |[],_,_,_,_,_,_=>rfl
 |x::l,pre,post,p,e,hp,h=>by
  rw[dK,dV] at e;rw[bX,jW,aaH e hp ho (h x (by simp))]
  congr 1
  refine Q7 ho l (pre++jb order x) post (p+12) (by grind) (by simp[JE,hp]) λy hy=>h y (by grind)
def Dt(S:List bo)(at_ cC:Nat):Bool:=S.any λs=>decide (max at_ s.at_<min (at_+cC) (s.at_+s.cC))
def lk(L:Nat)(S:List bo)(x:bo):Except Int (List bo):=
 if x.at_%2=0/\x.at_+x.cC<=L then(if Dt S x.at_ x.cC=true then .error 5 else .ok (S++[x])) else .error 4
def lQ(S:List bo)(e:Nat):Prop:=∀x∈S,x.at_+x.cC<=e
theorem Pu{L:Nat}{S:List bo}{x:bo}{e:Nat}(hS:lQ S e)(he:e<=x.at_)(h1:x.at_%2=0)(h2:x.at_+x.cC<=L):lk L S x=.ok (S++[x]):=by
 have hc:Dt S x.at_ x.cC=false:=by
  unfold Dt;rw[List.any_eq_false];intro s hs;have:=hS s hs
  grind
 unfold lk
 grind
theorem lQ.add{S:List bo}{e:Nat}(h:lQ S e){x:bo}{e':Nat}(h1:e<=e')(h2:x.at_+x.cC<=e'):lQ (S++[x]) e':=by
 intro y hy;rcases fI.1 hy with hy|hy
 ·have:=h y hy;omega
 grind
theorem lQ.mono{S:List bo}{e e':Nat}(h:lQ S e)(h1:e<=e'):lQ S e':=λx hx=>fu (h x hx) h1
def sd(b:List UInt8)(order:Int)(no:Nat)(S:List bo)(x:bn):Except Int (aK×List bo):=
 if(kindOf x.ty).1 =0\/x.az<1\/65536<x.az then .error 6
 else if bO x.ty x.az=0 then
  match py x.ty x.az (aY x.slot 4 order) order with
  |some d=>.ok (⟨x.tag,x.ty,x.az,d⟩,S)
  |none=>.error 6
 else match lk b.length S ⟨3,no,x.tag,x.slot,bO x.ty x.az⟩ with
  | .error e=>.error e
  | .ok S'=>match py x.ty x.az (b.drop x.slot) order with
   |some d=>.ok (⟨x.tag,x.ty,x.az,d⟩,S')
   |none=>.error 6
def kb(own:Int->Bool)(b:List UInt8)(order:Int)(no:Nat):List bn->List bo->Except Int (List aK×List bo)
 |[],S=>.ok ([],S)
 |x::xs,S=>
  if own x.tag=true then(if x.ty=4/\x.az=1 then kb own b order no xs S else .error 6)
  else match sd b order no S x with
   | .error e=>.error e
   | .ok (t,S1)=>match kb own b order no xs S1 with
    | .error e=>.error e
    | .ok (ts,S2)=>.ok (t::ts,S2)
def mm(rd:Nat->Nat->Nat->List bo->Except Int (aU×Nat×Nat×List bo))(S:bc):List bn->Nat->List bo->Except Int (cI×Nat×List bo)
 |[],no,Sp=>.ok (.nil,no,Sp)
 |x::xs,no,Sp=>match rd x.slot ((lK S x.tag).getD 0) no Sp with
  | .error e=>.error e
  | .ok (d,next,no1,S1)=>if next≠0 then .error 2 else match mm rd S xs no1 S1 with
   | .error e=>.error e
   | .ok (r,no2,S2)=>.ok (.cons x.tag d r,no2,S2)
def kE(b:List UInt8)(order:Int)(sh:List bc):Nat->Nat->Nat->Nat->List bo->Except Int (aU×Nat×Nat×List bo)
 |0,_,_,_,_=>.error 0
 |f+1,at_,s,no,Sp=>
  if at_%2=0/\at_+2<=b.length then
   if cm b at_ 2 order=0 then .error 2
   else match lk b.length Sp ⟨2,no,0,at_,6+12*cm b at_ 2 order⟩ with
    | .error e=>.error e
    | .ok S1=>
     if eR (jW b order (at_+2) (cm b at_ 2 order))=true then
      match kb (eH (aO sh s)) b order no (jW b order (at_+2) (cm b at_ 2 order)) S1 with
      | .error e=>.error e
      | .ok (tags,S2)=>
       if((jW b order (at_+2) (cm b at_ 2 order)).filter λx=>fy (aO sh s) x.tag).length=1 then .error 6
       else match mm (kE b order sh f) (aO sh s) ((jW b order (at_+2) (cm b at_ 2 order)).filter λx=>fo (aO sh s) x.tag) (no+1) S2 with
        | .error e=>.error e
        | .ok (subs,no',S3)=>
         match(jW b order (at_+2) (cm b at_ 2 order)).filter λx=>fy (aO sh s) x.tag with
         |[p,q]=>
          if q.slot=0 then .error 6
          else match lk b.length S3 ⟨4,no,0,p.slot,q.slot⟩ with
           | .error e=>.error e
           | .ok S4=>.ok (.mk tags subs ((b.drop p.slot).take q.slot),cm b (at_+2+12*cm b at_ 2 order) 4 order,no',S4)
         |_=>.ok (.mk tags subs [],cm b (at_+2+12*cm b at_ 2 order) 4 order,no',S3)
     else .error 2
  else .error 4
theorem V7{own:Int->Bool}{b:List UInt8}{order:Int}{no:Nat}:∀(l:List bn)(S:List bo),(∀x∈l,own x.tag=true->x.ty=4/\x.az=1)->kb own b order no l S=kb (λ_=>false) b order no (l.filter λx=>!own x.tag) S
 |[],S,_=>rfl
 |x::xs,S,h=>by
  have ih:=λS=>V7 (b:=b) (order:=order) (no:=no) xs S λy hy=>h y (by grind)
  rw[km]
  by_cases hx:own x.tag=true
  ·rw[aq (by grind),kb,ay hx,ay (h x (by simp) hx),ih]
  ·rw[ay (by grind),kb,kb]
   simp_all
theorem abH{t:aK}{order:Int}(hm:er t.ty t.az t.data=true)(ho:bO t.ty t.az=0):py t.ty t.az (aY (o9 order t) 4 order) order=some t.data:=by
 have hl:t.data.length<=4:=by
  have:=xO hm;rw[ho] at this;split at this
  ·assumption
  ·omega
 have hlen:(ll order t++List.replicate (4 -t.data.length) (0:UInt8)).length=4:=by rw[aS,zh,uu];omega
 have e:aY (o9 order t) 4 order=ll order t++List.replicate (4 -t.data.length) (0:UInt8):=by unfold o9;have:=Vk [] (ll order t++List.replicate (4 -t.data.length) (0:UInt8)) [] 4 order hlen;simp only[fA,dW,List.length_nil] at this;rw[this];exact agu _ 4 order hlen
 rw[e];unfold ll;exact TK hm _
theorem Mw{b:List UInt8}{order:Int}{no:Nat}:∀(ts:List aK)(pre post:List UInt8)(e:Nat)(S:List bo),(∀t∈ts,er t.ty t.az t.data=true)->b=pre++(gA order e ts++post)->pre.length=e->lQ S e->
 kb (λ_=>false) b order no (eA order e ts) S=.ok (ts,S++cW no e ts)/\lQ (S++cW no e ts) (cf e ts)
 |[],pre,post,e,S,_,_,_,hS=>by
  refine⟨by simp[eA,kb,cW],?_⟩
  unfold cf cW
  simpa using hS
 |t::ts,pre,post,e,S,hm,hb,hp,hS=>by
  have hmt:=hm t (by simp)
  have hms:∀t∈ts,er t.ty t.az t.data=true:=λt ht=>hm t (by simp[ht])
  obtain⟨k1,k2,k3,k4⟩:=vo hmt
  by_cases ho:bO t.ty t.az=0
  ·have hb':b=pre++(gA order e ts++post):=by rw[hb,gA,ay ho]
   obtain⟨i1,i2⟩:=Mw ts pre post e S hms hb' hp hS
   have hv:sd b order no S ⟨t.tag,t.ty,t.az,o9 order t⟩=.ok (t,S):=by
    unfold sd
    rw[aq (by simp only;omega),ay ho]
    simp only[abH hmt ho]
   refine⟨?_,by rw[cW,ay ho,cf,ay ho];exact i2⟩
   rw[eA,ay ho,kb,aq (by simp),cW,ay ho]
   simp_all
  ·have hb':b=pre++(dN e++(ll order t++(gA order (aJ e+bO t.ty t.az) ts++post))):=by rw[hb,gA,aq ho];simp
   have hpe:pre.length+(dN e).length=aJ e:=by rw[hp];exact qh e
   have hol:bO t.ty t.az=t.data.length:=by have:=xO hmt;rw[this] at ho⊢;split<;>simp_all
   have htk:lk b.length S ⟨3,no,t.tag,aJ e,bO t.ty t.az⟩=.ok (S++[⟨3,no,t.tag,aJ e,bO t.ty t.az⟩]):=Pu hS (ny e) (JN e) (by rw[hb'];simp only[aS,zh];omega)
   have hd:b.drop (aJ e)=ll order t++(gA order (aJ e+bO t.ty t.az) ts++post):=by
    have:b=(pre++dN e)++(ll order t++(gA order (aJ e+bO t.ty t.az) ts++post)):=by rw[hb'];simp
    rw[this,<-hpe,<-aS,List.drop_left]
   have hv:sd b order no S ⟨t.tag,t.ty,t.az,aJ e⟩=.ok (t,S++[⟨3,no,t.tag,aJ e,bO t.ty t.az⟩]):=by
    unfold sd
    rw[aq (by simp only;omega),aq ho]
    simp_all
    unfold ll
    rw[TK hmt]
   have hS1:lQ (S++[⟨3,no,t.tag,aJ e,bO t.ty t.az⟩]) (aJ e+bO t.ty t.az):=hS.add (by have:=ny e;omega) (aM _)
   obtain⟨i1,i2⟩:=Mw (b:=b) (order:=order) (no:=no) ts (pre++(dN e++ll order t)) post (aJ e+bO t.ty t.az) _ hms (by rw[hb'];simp) (by simp[zh];omega) hS1
   refine⟨?_,by rw[cW,aq ho,cf,aq ho];simpa using i2⟩
   rw[eA,aq ho,kb,hv,cW,aq ho]
   simp only[i1]
   simp
theorem KO{order:Int}{x:bn}:∀{ts:List aK}{e:Nat},x∈eA order e ts->∃t∈ts,x.tag=t.tag/\x.ty=t.ty/\x.az=t.az
 |[],e,h=>by cases h
 |t::ts,e,h=>by
  unfold eA at h;split at h
  ·rcases cQ.1 h with rfl|h
   ·simp
   ·obtain⟨u,hu,r⟩:=KO h
    grind
  ·rcases cQ.1 h with rfl|h
   ·simp
   ·obtain⟨u,hu,r⟩:=KO h
    grind
theorem Ts{x:bn}:∀{r:cI}{e:Nat},x∈iA e r->x.tag∈lf r/\x.ty=4/\x.az=1
 | .nil,e,h=>by unfold iA at h;cases h
 | .cons tag d r,e,h=>by
  unfold lf;rcases cQ.1 h with rfl|h
  ·simp
  ·obtain⟨h1,h2⟩:=Ts h
   grind
theorem Q6{order:Int}:∀{ts:List aK}{e:Nat},fH ts=true->eR (eA order e ts)=true
 |[],e,_=>rfl
 |[t],e,_=>by unfold eA;split<;>rfl
 |t::u::ts,e,h=>by
  simp[fH] at h;have key:∀(x:bn)(e':Nat),x.tag=t.tag->eR (x::eA order e' (u::ts))=true:=by
   intro x e' hx;have ih:=Q6 (order:=order) (e:=e') h.2;rw[eA] at ih⊢;split at ih
   ·rename_i ho;rw[ay ho];simp[eR];exact⟨by rw[hx];exact h.1,ih⟩
   ·rename_i ho;rw[aq ho];simp[eR];exact⟨by rw[hx];exact h.1,ih⟩
  rw[eA];split<;>grind
theorem Q5:∀{r:cI}{e:Nat},nN (lf r)=true->eR (iA e r)=true
 | .nil,e,_=>rfl
 | .cons tag d .nil,e,_=>rfl
 | .cons tag d (.cons tag' d' r),e,h=>by simp[lf,nN] at h;have ih:=Q5 (r:=.cons tag' d' r) (e:=bB e d) (by simp only[lf];exact h.2);simp[iA,eR] at ih⊢;simp_all
structure uD(S:bc):Prop where
 bN:∀x∈S.bN,0<=x.tag/\x.tag<65536/\fy S x.tag=false
 pair:S.at_≠0->1<=S.at_/\S.at_<S.cC/\S.cC<65536
theorem aaI{S:bc}(hS:uD S){e:Nat}{blob:List UInt8}(h:blob.length=0\/S.at_≠0):eR (gZ S e blob)=true:=by
 unfold gZ;split
 ·rfl
 ·have:=hS.pair (h.resolve_left (by grind));simp[eR];omega
theorem acS{S:bc}{e:Nat}{blob:List UInt8}{x:bn}(h:blob.length=0\/S.at_≠0)(hx:x∈gZ S e blob):fy S x.tag=true/\x.ty=4/\x.az=1:=by
 unfold gZ at hx;split at hx
 ·grind
 ·have:=h.resolve_left (by grind);simp_all;rcases hx with rfl|rfl<;>simp[fy,this]
theorem KI{S:bc}{tag:Int}(h:fo S tag=true):∃x∈S.bN,x.tag=tag:=by
 unfold fo at h
 grind
theorem D3{sh:List bc}{S:bc}:∀{r:cI},jc sh S r=true->∀tag∈lf r,fo S tag=true
 | .nil,_,tag,h=>by unfold lf at h;cases h
 | .cons t d r,h,tag,ht=>by
  simp[jc] at h;simp[lf] at ht;rcases ht with rfl|ht
  ·grind
  ·exact D3 h.2.2 tag ht
theorem QA{order:Int}{sh:List bc}{S:bc}(hS:uD S){tags:List aK}{subs:cI}{blob:List UInt8}{e1 e2 e3:Nat}(ht:kh S tags=true)(hb:blob.length=0\/S.at_≠0)(hr:nN (lf subs)=true)(hs:jc sh S subs=true){E:List bn}
 (hE:E=gF (eA order e1 tags++(iA e2 subs++gZ S e3 blob))):
 eR E=true/\(E.filter λx=>!eH S x.tag)=eA order e1 tags/\(E.filter λx=>fo S x.tag)=iA e2 subs/\(E.filter λx=>fy S x.tag)=gZ S e3 blob/\(∀x∈E,eH S x.tag=true->x.ty=4/\x.az=1):=by
 simp[kh] at ht;have lV:∀x∈eA order e1 tags,eH S x.tag=false:=λx hx=>by obtain⟨t,h1,h2,_⟩:=KO hx;rw[h2];exact(ht.2 t h1).2.1
 have lS:∀x∈iA e2 subs,fo S x.tag=true/\fy S x.tag=false/\x.ty=4/\x.az=1:=λx hx=>by obtain⟨h1,h2⟩:=Ts hx;have hl:=D3 hs _ h1;obtain⟨y,y1,y2⟩:=KI hl;exact⟨hl,by rw[<-y2];exact(hS.bN y y1).2.2,h2⟩
 have lB:∀x∈gZ S e3 blob,fo S x.tag=false/\fy S x.tag=true/\x.ty=4/\x.az=1:=λx hx=>by
  obtain⟨h1,h2⟩:=acS hb hx;refine⟨?_,h1,h2⟩;cases hl:fo S x.tag with
  |false=>rfl
  |true=>obtain⟨y,y1,y2⟩:=KI hl;have:=(hS.bN y y1).2.2;rw[y2,h1] at this;cases this
 have own_of:∀tag,eH S tag=(fo S tag||fy S tag):=λ_=>rfl;have vV:=Q6 (order:=order) (e:=e1) ht.1;have vS:=Q5 (e:=e2) hr;have vB:=aaI hS (e:=e3) hb;have fall:∀(l:List bn)(p:bn->Bool),(∀x∈l,p x=true)->l.filter p=l:=λl p h=>List.filter_eq_self.2 h;have fnone:∀(l:List bn)(p:bn->Bool),(∀x∈l,p x=false)->l.filter p=[]:=λl p h=>List.filter_eq_nil_iff.2 λx hx=>by simp_all
 have notlink:∀x∈eA order e1 tags,fo S x.tag=false/\fy S x.tag=false:=λx hx=>by have:=lV x hx;rw[own_of,Bool.or_eq_false_iff] at this;exact this
 subst hE;refine⟨?_,?_,?_,?_,?_⟩
 ·refine KA (I2 (zF vV) (I2 (zF vS) (zF vB) ?_) ?_)
  ·intro x hx y hy e;have:=(lS x hx).2.1;rw[<-e,(lB y hy).2.1] at this;cases this
  ·intro x hx y hy e;rcases fI.1 hy with hy|hy<;>grind
 ·rw[DQ,List.filter_append,List.filter_append,fall _ _ (λx hx=>by simp[lV x hx]),fnone _ _ (λx hx=>by simp[own_of,(lS x hx).1]),fnone _ _ (λx hx=>by simp_all)];simp;exact Eb vV
 ·rw[DQ,List.filter_append,List.filter_append,fnone _ _ (λx hx=>(notlink x hx).1),fall _ _ (λx hx=>(lS x hx).1),fnone _ _ (λx hx=>(lB x hx).1)];simp;exact Eb vS
 ·rw[DQ,List.filter_append,List.filter_append,fnone _ _ (λx hx=>(notlink x hx).2),fnone _ _ (λx hx=>(lS x hx).2.1),fall _ _ (λx hx=>(lB x hx).2.1)];exact Eb vB
 ·intro x hx ho;rcases fI.1 (xv.1 hx) with hx|hx
  ·rw[lV x hx] at ho;cases ho
  ·rcases fI.1 hx with hx|hx
   ·exact(lS x hx).2.2
   ·exact(lB x hx).2.2
mutual
def fR:aU->Nat
 | .mk _ subs _=>jU subs+1
def jU:cI->Nat
 | .nil=>0
 | .cons _ d r=>max (fR d) (jU r)
end
theorem SP{ty:Int}(h:(kindOf ty).1 ≠0):0<=ty/\ty<65536:=by
 by_cases o:ty<1\/12<ty
 ·rw[Ed o] at h;exact absurd rfl h
 grind
theorem agO(l:List UInt8)(order:Int):hU (gN l 0 4 order)<4294967296:=by
 have h:=K0 (gN l 0 4 order);have hl:(gN l 0 4 order).length<=4:=by unfold gN;split<;>simp<;>omega
 have:256^(gN l 0 4 order).length<=256^4:=Nat.pow_le_pow_right (by simp) hl;omega
theorem DK{S:bc}{order:Int}:∀{ts:List aK}{e:Nat},(∀t∈ts,mS t.tag=true/\er t.ty t.az t.data=true)->cf e ts<4294967296->∀x∈eA order e ts,mB x
 |[],_,_,_,x,hx=>by cases hx
 |t::ts,e,h,he,x,hx=>by
  obtain⟨h1,h2⟩:=h t (by simp)
  obtain⟨k1,k2,k3,k4⟩:=vo h2
  have hs:∀t∈ts,mS t.tag=true/\er t.ty t.az t.data=true:=λt ht=>h t (by simp[ht])
  have ht:0<=t.tag/\t.tag<65536:=by simpa[mS] using h1
  unfold eA at hx
  unfold cf at he
  split at hx
  ·rename_i ho
   rw[ay ho] at he
   rcases cQ.1 hx with rfl|hx
   ·exact⟨ht,SP k1,by simp only;omega,agO _ _⟩
   ·exact DK (S:=S) hs he x hx
  ·rename_i ho
   rw[aq ho] at he
   have:=qI ts (aJ e+bO t.ty t.az)
   rcases cQ.1 hx with rfl|hx
   ·exact⟨ht,SP k1,by simp only;omega,by simp only;omega⟩
   ·exact DK (S:=S) hs he x hx
theorem JG{S:bc}(hS:uD S):∀{r:cI}{e:Nat},(∀tag∈lf r,fo S tag=true)->ej e r<4294967296->∀x∈iA e r,mB x
 | .nil,_,_,_,x,hx=>by unfold iA at hx;cases hx
 | .cons tag d r,e,h,he,x,hx=>by
  unfold ej at he;unfold lf at h;have h0:=te r (bB e d);have h1:aJ e<4294967296:=by
   have:aJ e<=bB e d:=by
    cases d with
    |mk tags subs blob=>unfold bB;have h2:=qI tags (aJ e+(6+12*bH (.mk tags subs blob)));have h3:=te subs (cf (aJ e+(6+12*bH (.mk tags subs blob))) tags);have h4:=ny (ej (cf (aJ e+(6+12*bH (.mk tags subs blob))) tags) subs);split<;>omega
   omega
  rcases cQ.1 hx with rfl|hx
  ·obtain⟨y,y1,y2⟩:=KI (h tag (by simp));have:=hS.bN y y1;exact⟨by simp only;omega,by simp only;omega,by simp only;omega,h1⟩
  ·exact JG hS (λt ht=>h t (by simp[ht])) he x hx
theorem LY{d:aU}{e:Nat}:aJ e+6<=bB e d:=by
 cases d with
 |mk tags subs blob=>
  unfold bB;have h2:=qI tags (aJ e+(6+12*bH (.mk tags subs blob)));have h3:=te subs (cf (aJ e+(6+12*bH (.mk tags subs blob))) tags);have h4:=ny (ej (cf (aJ e+(6+12*bH (.mk tags subs blob))) tags) subs)
  grind
mutual
theorem V9{order:Int}(ho:order=1\/order=2){sh:List bc}(hsh:∀s,uD (aO sh s)):∀(d:aU)(s next e f no:Nat)(Sp:List bo)(pre post b:List UInt8),
 cK sh s d=true->b=pre++(jo order sh s next e d++post)->pre.length=e->bB e d<4294967296->next<4294967296->lQ Sp e->fR d<=f->
 kE b order sh f (aJ e) s no Sp=.ok (d,next,no+dD d,Sp++fW no e d)/\lQ (Sp++fW no e d) (bB e d)
 | .mk tags subs blob,s,next,e,0,no,Sp,pre,post,b,h,hb,hp,hlt,hnx,hSp,hf=>by unfold fR at hf;omega
 | .mk tags subs blob,s,next,e,f+1,no,Sp,pre,post,b,h,hb,hp,hlt,hnx,hSp,hf=>by
  have hlen:=sX order sh (.mk tags subs blob) s next e h
  simp only[cK,bu,sI,bZ] at h;obtain⟨⟨n1,n2⟩,ht,hbl,hr,hs⟩:=h;have htg:∀t∈tags,mS t.tag=true/\er t.ty t.az t.data=true:=λt h=>by simp only[kh,bu,iu] at ht;exact⟨(ht.2 t h).1,(ht.2 t h).2.2⟩
  obtain⟨N,hN⟩:∃N,bH (.mk tags subs blob)=N:=⟨_,rfl⟩;obtain⟨e1,he1⟩:∃e1,aJ e+(6+12*N)=e1:=⟨_,rfl⟩;obtain⟨e2,he2⟩:∃e2,cf e1 tags=e2:=⟨_,rfl⟩;obtain⟨e3,he3⟩:∃e3,ej e2 subs=e3:=⟨_,rfl⟩;obtain⟨S,hS⟩:∃S,aO sh s=S:=⟨_,rfl⟩;have hSo:=hsh s;rw[hS] at hSo ht hbl hs;have g1:=ny e;have g2:=qI tags e1;have g3:=te subs e2;have g4:=ny e3;rw[he2] at g2;rw[he3] at g3;have hend:bB e (.mk tags subs blob)=if blob.length=0 then e3 else aJ e3+blob.length:=by rw[bB,hN,he1,he2,he3]
  rw[hend] at hlt hlen;have h3lt:e3<4294967296/\(blob.length=0\/aJ e3+blob.length<4294967296):=by split at hlt<;>omega
  obtain⟨E,hE⟩:∃E,gF (eA order e1 tags++(iA e2 subs++gZ S e3 blob))=E:=⟨_,rfl⟩;obtain⟨c1,c2,c3,c4,c5⟩:=QA hSo ht hbl hr hs hE.symm;have hEn:E.length=N:=by rw[<-hE,Ar,aS,aS,tj,Ab,DJ,<-hN];show _=tags.length+cd subs+(if blob.length=0 then 0 else 2);omega
  have hEo:∀x∈E,mB x:=by
   intro x hx;rw[<-hE] at hx;rcases fI.1 (xv.1 hx) with hx|hx
   ·exact DK (S:=S) htg (by rw[he2];omega) x hx
   ·rcases fI.1 hx with hx|hx
    ·exact JG hSo (D3 hs) (by rw[he3];omega) x hx
    ·unfold gZ at hx;split at hx
     ·cases hx
     ·have hat:=hSo.pair (hbl.resolve_left (by assumption));simp only[cQ,mV,mZ] at hx;rcases hx with rfl|rfl
      ·exact⟨by simp only;omega,by simp only;omega,by simp only;omega,by simp only;omega⟩
      ·exact⟨by simp only;omega,by simp only;omega,by simp only;omega,by simp only;omega⟩
  obtain⟨bl,hblob⟩:∃bl,(if blob.length=0 then[] else dN e3++blob)=bl:=⟨_,rfl⟩;have hbd:jo order sh s next e (.mk tags subs blob)=dN e++(kP order E next++(gA order e1 tags++(jT order sh S e2 subs++bl))):=by rw[jo,hN,he1,he2,he3,hS,hE,hblob]
  rw[hbd] at hlen hb;have iD:=QM order E next
  rw[hEn] at iD;have hpl:=qh e;have hvl:=Il order tags e1 λt h=>(htg t h).2;have hsl:=Ji order sh subs S e2 hs;rw[he2] at hvl;rw[he3] at hsl;have hbL:b.length=e1+(gA order e1 tags).length+(jT order sh S e2 subs).length+bl.length+post.length:=by rw[hb];simp only[aS,iD];omega
  have hbll:bl.length=if blob.length=0 then 0 else aJ e3 -e3+blob.length:=by
   rw[<-hblob];have:=qh e3;split
   ·rfl
   ·rw[aS];omega
  have hat:aJ e=(pre++dN e).length:=by rw[aS];omega
  have hnum:cm b (aJ e) 2 order=N:=by refine nH (pre:=pre++dN e) (post:=(E.flatMap (jb order)++aY next 4 order)++(gA order e1 tags++(jT order sh S e2 subs++(bl++post)))) ?_ hat (.inr (.inl rfl)) ho (by omega);rw[hb,kP,hEn];simp
  have hents:jW b order (aJ e+2) N=E:=by have:=Q7 ho E (pre++(dN e++aY N 2 order)) (aY next 4 order++(gA order e1 tags++(jT order sh S e2 subs++(bl++post)))) (aJ e+2) (b:=b) (by rw[hb,kP,hEn];simp) (by simp only[aS,eB];omega) hEo;rwa[hEn] at this
  have hnext:cm b (aJ e+2+12*N) 4 order=next:=by refine nH (pre:=pre++(dN e++(aY N 2 order++E.flatMap (jb order)))) (post:=gA order e1 tags++(jT order sh S e2 subs++(bl++post))) (by rw[hb,kP,hEn];simp) ?_ (.inr (.inr rfl)) ho (by omega);simp only[aS,eB,xe,hEn];omega
  have hee:=JN e;have htk:lk b.length Sp ⟨2,no,0,aJ e,6+12*N⟩=.ok (Sp++[⟨2,no,0,aJ e,6+12*N⟩]):=Pu hSp g1 hee (by simp only;omega);have hS1:lQ (Sp++[⟨2,no,0,aJ e,6+12*N⟩]) e1:=hSp.add (by omega) (by simp only;omega);obtain⟨v1,v2⟩:=Mw (b:=b) (order:=order) (no:=no) tags (pre++(dN e++kP order E next)) (jT order sh S e2 subs++(bl++post)) e1 _ (λt h=>(htg t h).2) (by rw[hb];simp) (by simp only[aS,iD];omega) hS1;rw[he2] at v2;have hT:kb (eH S) b order no E (Sp++[⟨2,no,0,aJ e,6+12*N⟩])=.ok (tags,Sp++[⟨2,no,0,aJ e,6+12*N⟩]++cW no e1 tags):=by rw[V7 E _ c5,c2];exact v1
  have jX:jU subs<=f:=by unfold fR at hf;omega
  obtain⟨s1,s2⟩:=Wb ho hsh subs S e2 f (no+1) (Sp++[⟨2,no,0,aJ e,6+12*N⟩]++cW no e1 tags) (pre++(dN e++(kP order E next++gA order e1 tags))) (bl++post) b hs (by rw[hb];simp) (by simp only[aS,iD];omega) (by rw[he3];omega) v2 jX;rw[he3] at s2;have tB:no+dD (.mk tags subs blob)=no+1+ib subs:=by unfold dD;omega
  have hsp:fW no e (.mk tags subs blob)=⟨2,no,0,aJ e,6+12*N⟩::(cW no e1 tags++(kI (no+1) e2 subs++(if blob.length=0 then[] else[⟨4,no,0,aJ e3,blob.length⟩]))):=by rw[fW,hN,he1,he2,he3]
  rw[tB,hsp,hend];unfold kE;rw[ay ⟨hee,by omega⟩,hnum,aq (by omega)];simp only[htk];rw[hents,ay c1,hS];simp only[hT];rw[c4,c3];by_cases hz:blob.length=0
  ·have hB:gZ S e3 blob=[]:=by unfold gZ;rw[ay hz]
   have hbl0:blob=[]:=kK hz;rw[hB,aq (by simp)];simp only[s1,hnext,ay hz,dW];subst hbl0;refine⟨by simp,by simpa using s2⟩
  ·have hB:gZ S e3 blob=[⟨S.at_,4,1,aJ e3⟩,⟨S.cC,4,1,blob.length⟩]:=by unfold gZ;rw[aq hz]
   rw[aq hz] at hblob hbll;rw[hB,aq (by simp)];simp only[s1];rw[aq hz];have htb:lk b.length (Sp++[⟨2,no,0,aJ e,6+12*N⟩]++cW no e1 tags++kI (no+1) e2 subs) ⟨4,no,0,aJ e3,blob.length⟩=.ok (Sp++[⟨2,no,0,aJ e,6+12*N⟩]++cW no e1 tags++kI (no+1) e2 subs++[⟨4,no,0,aJ e3,blob.length⟩]):=
    Pu s2 g4 (JN e3) (by simp only;omega)
   simp only[htb];have hdrop:(b.drop (aJ e3)).take blob.length=blob:=by
    have hp3:=qh e3;have e':b=(pre++(dN e++(kP order E next++(gA order e1 tags++(jT order sh S e2 subs++dN e3)))))++(blob++post):=by rw[hb,<-hblob];simp
    have el:(pre++(dN e++(kP order E next++(gA order e1 tags++(jT order sh S e2 subs++dN e3))))).length=aJ e3:=by simp only[aS,iD];omega
    rw[e',<-el,List.drop_left,List.take_left]
   rw[hdrop,hnext,aq hz,aq hz];refine⟨by simp,?_⟩;have:=s2.add (x:=⟨4,no,0,aJ e3,blob.length⟩) (e':=aJ e3+blob.length) (by omega) (aM _);simpa using this
theorem Wb{order:Int}(ho:order=1\/order=2){sh:List bc}(hsh:∀s,uD (aO sh s)):∀(r:cI)(S:bc)(e f no:Nat)(Sp:List bo)(pre post b:List UInt8),
 jc sh S r=true->b=pre++(jT order sh S e r++post)->pre.length=e->ej e r<4294967296->lQ Sp e->jU r<=f->
 mm (kE b order sh f) S (iA e r) no Sp=.ok (r,no+ib r,Sp++kI no e r)/\lQ (Sp++kI no e r) (ej e r)
 | .nil,S,e,f,no,Sp,pre,post,b,h,hb,hp,hlt,hSp,hf=>by unfold iA kI ej ib;refine⟨by simp[mm],by simpa using hSp⟩
 | .cons tag d r,S,e,f,no,Sp,pre,post,b,h,hb,hp,hlt,hSp,hf=>by simp only[jc,bu] at h;unfold ej at hlt;unfold jU at hf;have g:=te r (bB e d);rw[jT,dV] at hb;have hl:=sX order sh d ((lK S tag).getD 0) 0 e h.2.1;obtain⟨d1,d2⟩:=V9 ho hsh d ((lK S tag).getD 0) 0 e f no Sp pre (jT order sh S (bB e d) r++post) b h.2.1 hb hp (by omega) (by omega) hSp (by omega);obtain⟨r1,r2⟩:=Wb ho hsh r S (bB e d) f (no+dD d) _ (pre++jo order sh ((lK S tag).getD 0) 0 e d) post b h.2.2 (by rw[hb];simp) (by rw[aS];omega) hlt d2 (by omega);unfold iA kI ej ib;refine⟨?_,by simpa using r2⟩;rw[mm];simp only[d1,r1];simp[oP]
end
structure iZ(sh:List bc):Prop where
 ok:∀s,uD (aO sh s)
 bN:∀s,s<sh.length->∀x∈(aO sh s).bN,(s:Int)<x.shape/\x.shape<sh.length
 next:∀s,s<sh.length->(aO sh s).next<0\/((s:Int)<(aO sh s).next/\(aO sh s).next<sh.length)
theorem acC{S:bc}{tag:Int}(h:fo S tag=true):∃x∈S.bN,(lK S tag).getD 0=x.shape.toNat:=by
 unfold fo at h;unfold lK;cases hf:S.bN.find? (λx=>x.tag==tag) with
 |none=>grind
 |some x=>grind
mutual
theorem QJ{sh:List bc}(hsh:iZ sh):∀(d:aU)(s:Nat),cK sh s d=true->s<sh.length->fR d+s<=sh.length
 | .mk tags subs blob,s,h,hs=>by simp[cK] at h;have:=QK hsh subs s h.2.2.2.2 hs;unfold fR;omega
theorem QK{sh:List bc}(hsh:iZ sh):∀(r:cI)(s:Nat),jc sh (aO sh s) r=true->s<sh.length->jU r+s+1<=sh.length
 | .nil,s,_,hs=>by unfold jU;omega
 | .cons tag d r,s,h,hs=>by simp[jc] at h;obtain⟨x,hx,e⟩:=acC h.1;have hl:=hsh.bN s hs x hx;have h1:=QJ hsh d ((lK (aO sh s) tag).getD 0) h.2.1 (by grind);have h2:=QK hsh r s h.2.2 hs;unfold jU;omega
end
def ef(e:Nat):List aU->Nat
 |[]=>e
 |d::ds=>ef (bB e d) ds
def gX:List aU->Nat
 |[]=>0
 |d::ds=>dD d+gX ds
def jz(no e:Nat):List aU->List bo
 |[]=>[]
 |d::ds=>fW no e d++jz (no+dD d) (bB e d) ds
def qf(e:Nat)(d:aU)(ds:List aU):Nat:=if ds.isEmpty then 0 else aJ (bB e d)
def chainB(order:Int)(sh:List bc)(s:Int)(e:Nat):List aU->List UInt8
 |[]=>[]
 |d::ds=>jo order sh s.toNat (qf e d ds) e d++chainB order sh (aO sh s.toNat).next (bB e d) ds
def gx(sh:List bc)(s:Int):List aU->Bool
 |[]=>true
 |d::ds=>decide (0<=s)&&(cK sh s.toNat d&&gx sh (aO sh s.toNat).next ds)
def eC(t:mC)(sh:List bc):List UInt8:=
 (if t.order=1 then[73,73] else[77,77])++(aY 42 2 t.order++(aY 8 4 t.order++chainB t.order sh 0 8 t.dG))
def ff(t:mC):List bo:=⟨1,-1,0,0,8⟩::jz 0 8 t.dG
def gP(t:mC):Nat:=ef 8 t.dG
def oE(b:List UInt8)(order:Int)(sh:List bc):Nat->Bool->Nat->Int->Nat->List bo->Except Int (List aU×List bo)
 |0,_,_,_,_,_=>.error 0
 |f+1,first,at_,s,no,Sp=>
  if at_=0/\first=false then .ok ([],Sp)
  else if s<0 then .error 2
  else match kE b order sh sh.length at_ s.toNat no Sp with
   | .error e=>.error e
   | .ok (d,next,no1,S1)=>match oE b order sh f false next (aO sh s.toNat).next no1 S1 with
    | .error e=>.error e
    | .ok (ds,S2)=>.ok (d::ds,S2)
def lM(b:List UInt8):Int:=if b.take 2=[73,73] then 1 else if b.take 2=[77,77] then 2 else 0
def uo(b:List UInt8)(sh:List bc):Except Int (mC×List bo):=
 if b.length<8 then .error 3
 else if lM b=0\/cm b 2 2 (lM b)≠42 then .error 2
 else match oE b (lM b) sh (sh.length+2) true (cm b 4 4 (lM b)) 0 0 [⟨1,-1,0,0,8⟩] with
  | .error e=>.error e
  | .ok (ds,S)=>.ok (⟨lM b,ds⟩,S)
theorem Qy{order:Int}{sh:List bc}:∀(ds:List aU)(s:Int)(e:Nat),gx sh s ds=true->e+(chainB order sh s e ds).length=ef e ds
 |[],_,_,_=>rfl
 |d::ds,s,e,h=>by
  simp[gx] at h
  have h1:=sX order sh d s.toNat (qf e d ds) e h.2.1
  have h2:=Qy (order:=order) ds (aO sh s.toNat).next (bB e d) h.2.2
  rw[chainB,ef,aS]
  omega
theorem qc:∀(ds:List aU)(e:Nat),e<=ef e ds
 |[],e=>aM _
 |d::ds,e=>by have:=zV d e;have:=qc ds (bB e d);rw[ef];omega
theorem V8{order:Int}(ho:order=1\/order=2){sh:List bc}(hsh:iZ sh):∀(ds:List aU)(s:Int)(e f no:Nat)(first:Bool)(Sp:List bo)(pre b:List UInt8),
 gx sh s ds=true->(first=true->ds≠[])->s<sh.length->b=pre++chainB order sh s e ds->pre.length=e->0<e->ef e ds<4294967296->lQ Sp e->((sh.length:Int) -s).toNat+2<=f->
 oE b order sh f first (if ds.isEmpty then 0 else aJ e) s no Sp=.ok (ds,Sp++jz no e ds)
 |[],s,e,f+1,no,first,Sp,pre,b,h,hfi,hs,hb,hp,he,hlt,hSp,hf=>by
  have:first=false:=by cases first with
   |false=>rfl
   |true=>exact absurd rfl (hfi rfl)
  subst this;rw[oE];simp[jz]
 |d::ds,s,e,f+1,no,first,Sp,pre,b,h,hfi,hs,hb,hp,he,hlt,hSp,hf=>by
  simp[gx] at h;obtain⟨h0,h1,h2⟩:=h;have g1:=ny e;have g3:=qc ds (bB e d);rw[ef] at hlt;rw[chainB] at hb;have hl:=sX order sh d s.toNat (qf e d ds) e h1;have hnx:qf e d ds<4294967296:=by
   unfold qf;split
   ·decide
   ·cases ds with
    |nil=>rename_i hh;exact absurd rfl hh
    |cons d' ds=>have:=LY (d:=d') (e:=bB e d);have:=qc ds (bB (bB e d) d');rw[ef] at hlt g3;omega
  obtain⟨d1,d2⟩:=V9 ho hsh.ok d s.toNat (qf e d ds) e sh.length no Sp pre (chainB order sh (aO sh s.toNat).next (bB e d) ds) b h1 hb hp (by omega) hnx hSp (by have:=QJ hsh d s.toNat h1 (by omega);omega);have hnext:=hsh.next s.toNat (by omega);have hr:oE b order sh f false (qf e d ds) (aO sh s.toNat).next (no+dD d) (Sp++fW no e d)=.ok (ds,Sp++fW no e d++jz (no+dD d) (bB e d) ds):=by
   cases ds with
   |nil=>
    cases f with
    |zero=>omega
    |succ f=>rw[oE,ay ⟨rfl,rfl⟩];simp[jz]
   |cons d' ds=>
    have hn:0<=(aO sh s.toNat).next:=by simp[gx] at h2;exact h2.1
    have:=V8 ho hsh (d'::ds) (aO sh s.toNat).next (bB e d) f (no+dD d) false (Sp++fW no e d) (pre++jo order sh s.toNat (qf e d (d'::ds)) e d) b h2 (by intro h;cases h) (by omega) (by rw[hb];simp) (by rw[aS];omega) (by omega) hlt d2 (by omega);exact this
  rw[oE,aq (by simp;omega),aq (by omega)];simp_all;simp[jz]
 |_,s,e,0,no,first,Sp,pre,b,h,hfi,hs,hb,hp,he,hlt,hSp,hf=>by omega
theorem wm{t:mC}{sh:List bc}(h:gx sh 0 t.dG=true):(eC t sh).length=gP t:=by
 have:=Qy (order:=t.order) t.dG 0 8 h;simp[eC,gP,eB]
 grind
theorem PF{t:mC}{sh:List bc}(ho:t.order=1\/t.order=2)(hsh:iZ sh)(hl:0<sh.length)(cF:t.dG≠[])(h:gx sh 0 t.dG=true)(hlt:gP t<4294967296):uo (eC t sh) sh=.ok (t,ff t):=by
 have h8:=qc t.dG 8;have hord:lM (eC t sh)=t.order:=by unfold lM eC;rcases ho with e|e<;>rw[e]<;>simp
 obtain⟨sg,hsg⟩:∃sg,(if t.order=1 then[73,73] else[77,77]:List UInt8)=sg:=⟨_,rfl⟩;have hsl:sg.length=2:=by rw[<-hsg];split<;>rfl
 have hb:eC t sh=sg++(aY 42 2 t.order++(aY 8 4 t.order++chainB t.order sh 0 8 t.dG)):=by unfold eC;rw[hsg]
 have hat:cm (eC t sh) 4 4 t.order=8:=nH (pre:=sg++aY 42 2 t.order) (post:=chainB t.order sh 0 8 t.dG) (by rw[hb];simp) (by simp[hsl,eB]) (.inr (.inr rfl)) ho (by decide);have hr:=V8 ho hsh t.dG 0 8 (sh.length+2) 0 true [⟨1,-1,0,0,8⟩] (sg++(aY 42 2 t.order++aY 8 4 t.order)) (eC t sh) h (λ_=>cF) (by omega) (by rw[hb];simp) (by simp[hsl,eB]) (by decide) hlt (by intro x hx;rw[nV.1 hx];decide) (by omega);have hem:t.dG.isEmpty=false:=by
  cases hd:t.dG with
  |nil=>exact absurd hd cF
  |cons _ _=>rfl
 rw[hem] at hr;unfold uo;rw[aq (by rw[(wm h)];unfold gP;omega),hord,(nH hb hsl.symm (.inr (.inl rfl)) ho (by decide)),aq (by rcases ho with e|e<;>rw[e]<;>simp)];rw[(show(if false=true then 0 else aJ 8)=8 from rfl)] at hr;simp_all;rfl
def RY(d:Int):List ((Int×Int)×List Int×Int):=
 ([0x0100,0x0101].map λt=>((d,t),[3,4],1))++([0x0103,0x0112,0x0128,0x0213].map λt=>((d,t),[3],1))++
 ([0x010e,0x010f,0x0110,0x0131,0x013b,0x8298].map λt=>((d,t),[2],0))++[((d,0x0132),[2],20),((d,0x011a),[5],1),((d,0x011b),[5],1)]
def agM(d:Int):List ((Int×Int)×List Int×Int):=
 ([0x829a,0x829d,0x9202,0x920a].map λt=>((d,t),[5],1))++([0x8822,0x9207,0x9208,0x9209,0xa001,0xa402].map λt=>((d,t),[3],1))++
 ([0x9000,0x9101,0xa000].map λt=>((d,t),[7],4))++([0x9201,0x9204].map λt=>((d,t),[10],1))++([0x9003,0x9004].map λt=>((d,t),[2],20))++
 ([0xa002,0xa003].map λt=>((d,t),[3,4],1))++[((d,0x8827),[3],0),((d,0x9286),[7],0),((d,0x9290),[2],0),((d,0xa300),[7],1),((d,0xa420),[2],33),((d,0xa432),[5],4)]
def abl(d:Int):List ((Int×Int)×List Int×Int):=
 [((d,0x00),[1],4),((d,0x05),[1],1),((d,0x06),[5],1)]++([0x01,0x03].map λt=>((d,t),[2],2))++([0x02,0x04,0x07].map λt=>((d,t),[5],3))++
 [((d,0x12),[2],0),((d,0x1d),[2],11)]
def al1(d:Int):List ((Int×Int)×List Int×Int):=
 [((d,0xb000),[7],4)]++([0xb101,0xb201,0xb202].map λt=>((d,t),[4],1))++([0xb204,0xb206].map λt=>((d,t),[5],1))++([0xb205,0xb208].map λt=>((d,t),[10],1))
def Wv:List ((Int×Int)×List Int×Int):=
 RY 0++RY 1++agM 2++abl 3++[((4,1),[2],4),((4,2),[7],4)]++al1 5
def MI(d t:Int):Option (List Int×Int):=Wv.lookup (d,t)
def pB:List (Int×Int):=[(0,0x8769),(0,0x8825),(1,0x0201),(1,0x0202),(2,0x927c),(2,0xa005),(5,0xb001),(5,0xb002)]
def rW(d:Int)(x:aK):Bool:=
 decide (0<=d/\d<6/\0<=x.tag/\x.tag<=65535)&&!pB.contains (d,x.tag)&&er x.ty x.az x.data&&
  (match MI d x.tag with
   |none=>true
   |some (l,c)=>l.contains x.ty&&(c==0||c==x.az))
def cT(d:Int)(l:List aK):Bool:=fH l&&l.all (rW d)&&decide (0<=d/\d<6)
structure dr where
 order:Int
 cn:List aK
 bD:List aK
 bM:List aK
 bm:List aK
 first:List aK
 bC:List UInt8
 cH:List UInt8
 deriving DecidableEq
def iM(x:dr):Int:=
 if¬(x.order=1\/x.order=2) then 1
 else if(cT 0 x.cn&&(cT 2 x.bD&&(cT 3 x.bM&&(cT 4 x.bm&&cT 1 x.first))))=false then 6
 else if 65536<x.bC.length\/(x.cn.length=0/\x.bD.length=0/\x.bM.length=0/\x.bm.length=0/\x.bC.length=0) then 6
 else 0
theorem s8{x:dr}(h:iM x=0):(x.order=1\/x.order=2)/\cT 0 x.cn=true/\cT 2 x.bD=true/\cT 3 x.bM=true/\cT 4 x.bm=true/\cT 1 x.first=true/\x.bC.length<=65536/\
 ¬(x.cn.length=0/\x.bD.length=0/\x.bM.length=0/\x.bm.length=0/\x.bC.length=0):=by
 unfold iM at h
 grind
def iB(l:List aK)(tag:Int):Option aK:=l.find? λx=>x.tag==tag
def oY(l:List aK)(tag:Int):List aK:=l.filter λx=>x.tag !=tag
def kc(l:List aK)(x:aK):List aK:=(l.filter λy=>decide (y.tag<x.tag))++x::l.filter λy=>decide (x.tag<y.tag)
theorem Fl:∀{a:aK}{l:List aK},fH (a::l)=true->fH l=true/\∀y∈l,a.tag<y.tag
 |a,[],_=>⟨rfl,λy h=>by cases h⟩
 |a,b::l,h=>by
  simp[fH] at h;obtain⟨h1,h2⟩:=Fl h.2
  grind
theorem MA{a:aK}:∀{l:List aK},fH l=true->(∀y∈l,a.tag<y.tag)->fH (a::l)=true
 |[],_,_=>rfl
 |b::l,h,g=>by simp[fH];simp_all
theorem xh{α:Type}{p:α->Bool}:∀{l:List α},(∀y∈l,p y=true)->l.filter p=l
 |[],_=>rfl
 |a::l,h=>by simp_all
theorem filter_nil{α:Type}{p:α->Bool}:∀{l:List α},(∀y∈l,p y=false)->l.filter p=[]
 |[],_=>rfl
 |a::l,h=>by simp_all
theorem YD(t:Int):∀{l:List aK},fH l=true->(∀y∈l,y.tag≠t)->(l.filter λy=>decide (y.tag<t))++(l.filter λy=>decide (t<y.tag))=l
 |[],_,_=>rfl
 |a::l,h,hn=>by
  obtain⟨h1,h2⟩:=Fl h;have h0:=hn a (by simp);by_cases c:a.tag<t
  ·rw[km,ay (by grind),km,aq (by simp;omega),eE,(YD t h1 λy hy=>hn y (by simp[hy]))]
  ·rw[km,aq (by grind),km,ay (by simp;omega)];rw[filter_nil (λy hy=>by have:=h2 y hy;simp;omega),xh (λy hy=>by have:=h2 y hy;simp;omega)];rfl
theorem Xr(x:aK):∀{l:List aK},fH l=true->fH (kc l x)=true
 |[],_=>rfl
 |a::l,h=>by
  obtain⟨h1,h2⟩:=Fl h;have ih:=Xr x h1;unfold kc at ih⊢;by_cases c:a.tag<x.tag
  ·rw[km,ay (by simpa using c),km,aq (by simp;omega)];refine MA ih λy hy=>?_;rcases fI.1 hy with hy|hy
   ·exact h2 y (oO.1 hy).1
   ·rcases cQ.1 hy with rfl|hy
    ·exact c
    ·exact h2 y (oO.1 hy).1
  ·have e:((a::l).filter λy=>decide (y.tag<x.tag))=[]:=filter_nil λy hy=>by
    rcases cQ.1 hy with rfl|hy<;>grind
   rw[e];refine MA ?_ (λy hy=>by simpa using(oO.1 hy).2);rw[km];split
   ·rename_i q;refine MA ?_ λy hy=>h2 y (oO.1 hy).1;rw[xh λy hy=>by have:=h2 y hy;simp at q⊢;omega];exact h1
   ·rename_i q;rw[xh λy hy=>by have:=h2 y hy;simp at q⊢;omega];exact h1
theorem Xq{x y:aK}{l:List aK}(h:y∈kc l x):y=x\/y∈l:=by
 rcases fI.1 h with h|h
 ·grind
 grind
theorem Xp(l:List aK)(x:aK):(kc l x).length<=l.length+1:=by
 unfold kc;have h1:∀l:List aK,(l.filter λy=>decide (y.tag<x.tag)).length+(l.filter λy=>decide (x.tag<y.tag)).length<=l.length:=by
  intro l;induction l with
  |nil=>simp
  |cons a l ih=>grind
 grind
theorem drop_set{x:aK}{l:List aK}(h:fH l=true)(hn:∀y∈l,y.tag≠x.tag):oY (kc l x) x.tag=l:=by unfold oY kc;rw[List.filter_append,km,aq (by simp),xh λy hy=>by simpa using hn y (oO.1 hy).1,xh (p:=λy:aK=>y.tag !=x.tag) λy hy=>by simpa using hn y (oO.1 hy).1];exact YD x.tag h hn
theorem aa0(x:aK)(l:List aK):iB (kc l x) x.tag=some x:=by
 unfold iB kc
 grind
theorem aaY{l:List aK}{t:Int}(hn:∀y∈l,y.tag≠t):iB l t=none:=by
 unfold iB
 grind
theorem aaA{l:List aK}{t:Int}(hn:∀y∈l,y.tag≠t):oY l t=l:=xh λy hy=>by simpa using hn y hy
def db:List bc:=[⟨[⟨34665,2⟩,⟨34853,3⟩],0,0,1⟩,⟨[],513,514,-1⟩,⟨[⟨40965,4⟩],0,0,-1⟩,⟨[],0,0,-1⟩,⟨[],0,0,-1⟩]
def jJ(b:List UInt8):aK:=⟨37500,7,b.length,b⟩
def jP(x:dr):aU:=.mk (if x.bC.length=0 then x.bD else kc x.bD (jJ x.bC)) (if x.bm.length=0 then .nil else .cons 40965 (.mk x.bm .nil []) .nil) []
def nC(x:dr):cI:=if x.bM.length=0 then .nil else .cons 34853 (.mk x.bM .nil []) .nil
def jN(x:dr):cI:=if x.bD.length=0/\x.bm.length=0/\x.bC.length=0 then nC x else .cons 34665 (jP x) (nC x)
def eS(x:dr):mC:=⟨x.order,.mk x.cn (jN x) []::(if x.first.length=0/\x.cH.length=0 then[] else[.mk x.first .nil x.cH])⟩
theorem JT:iZ db:=by
 have key:∀s,aO db s=TF\/s<5:=by
  intro s;by_cases h:s<5
  ·exact .inr h
  ·left;unfold aO;rw[kL (by simp[db];omega)];rfl
 refine⟨λs=>?_,λs hs x hx=>?_,λs hs=>?_⟩
 ·rcases key s with h|h
  ·rw[h];exact⟨λx hx=>(by cases hx),λh=>absurd rfl h⟩
  ·have:s=0\/s=1\/s=2\/s=3\/s=4:=by omega
   rcases this with rfl|rfl|rfl|rfl|rfl
   ·refine⟨λx hx=>?_,λh=>absurd rfl h⟩;have hx:x∈[(⟨34665,2⟩:iv),⟨34853,3⟩]:=hx;simp_all;rcases hx with rfl|rfl<;>exact⟨by decide,by decide,rfl⟩
   ·refine⟨λx hx=>(by cases hx),λ_=>⟨by decide,by decide,by decide⟩⟩
   ·refine⟨λx hx=>?_,λh=>absurd rfl h⟩;have hx:x∈[(⟨40965,4⟩:iv)]:=hx;simp at hx;rcases hx with rfl
    exact⟨by decide,by decide,rfl⟩
   ·exact⟨λx hx=>(by cases hx),λh=>absurd rfl h⟩
   ·exact⟨λx hx=>(by cases hx),λh=>absurd rfl h⟩
 ·have:s=0\/s=1\/s=2\/s=3\/s=4:=by simp[db] at hs;omega
  rcases this with rfl|rfl|rfl|rfl|rfl
  ·have hx:x∈[(⟨34665,2⟩:iv),⟨34853,3⟩]:=hx;simp_all;rcases hx with rfl|rfl<;>exact⟨by decide,by decide⟩
  ·cases hx
  ·have hx:x∈[(⟨40965,4⟩:iv)]:=hx;simp at hx;rcases hx with rfl;exact⟨by decide,by decide⟩
  ·cases hx
  ·cases hx
 ·have:s=0\/s=1\/s=2\/s=3\/s=4:=by simp[db] at hs;omega
  rcases this with rfl|rfl|rfl|rfl|rfl
  ·right;exact⟨by decide,by decide⟩
  all_goals left;decide
theorem Em{d:Int}{x:aK}(h:rW d x=true):0<=x.tag/\x.tag<=65535/\pB.contains (d,x.tag)=false/\er x.ty x.az x.data=true:=by
 unfold rW at h
 grind
theorem xX{d:Int}{l:List aK}(h:cT d l=true):fH l=true/\∀x∈l,rW d x=true:=by
 unfold cT at h
 grind
theorem zc{d:Int}{l:List aK}{S:bc}(h:cT d l=true)(ho:∀t,eH S t=true->pB.contains (d,t)=true):kh S l=true:=by
 obtain⟨h1,h2⟩:=xX h;unfold kh;rw[bu,iu];refine⟨h1,λt ht=>?_⟩;obtain⟨a,b,c,e⟩:=Em (h2 t ht);have:eH S t.tag=false:=by grind
 rw[this,e];simp[mS];omega
theorem Er{S:bc}(h:S.bN=[])(ha:S.at_=0)(t:Int):eH S t=false:=by
 unfold eH fo fy
 grind
theorem EX(t:Int)(h:eH (aO db 0) t=true):pB.contains (0,t)=true:=by
 have:t=34665\/t=34853:=by
  have h:(([(⟨34665,2⟩:iv),⟨34853,3⟩].any λx=>x.tag==t)||(decide ((0:Int)≠0)&&(decide (t=0)||decide (t=0))))=true:=h
  grind
 rcases this with rfl|rfl<;>rfl
theorem agx(t:Int)(h:eH (aO db 1) t=true):pB.contains (1,t)=true:=by
 have:t=513\/t=514:=by have h:(([]:List iv).any (λx=>x.tag==t)||(decide ((513:Int)≠0)&&(decide (t=513)||decide (t=514))))=true:=h;simp_all
 rcases this with rfl|rfl<;>rfl
theorem Va(t:Int)(h:eH (aO db 2) t=true):t=40965:=by
 have h:(([(⟨40965,4⟩:iv)].any λx=>x.tag==t)||(decide ((0:Int)≠0)&&(decide (t=0)||decide (t=0))))=true:=h
 grind
theorem agy(t:Int):eH (aO db 3) t=false:=Er rfl rfl t
theorem agz(t:Int):eH (aO db 4) t=false:=Er rfl rfl t
theorem ac2{b:List UInt8}(h1:b.length≠0)(h2:b.length<=65536):er (jJ b).ty (jJ b).az (jJ b).data=true:=by
 unfold er jJ;have:(kindOf 7).1 =1:=rfl
 grind
def qX(x:dr)(m:Nat):Prop:=x.cn.length<=m/\x.bD.length<=m/\x.bM.length<=m/\x.bm.length<=m/\x.first.length<=m
theorem LP{x:dr}(h:cT 2 x.bD=true):∀y∈x.bD,y.tag≠37500:=by intro y hy e;have:=(Em ((xX h).2 y hy)).2.2.1;rw[e] at this;cases this
theorem YT{x:dr}(h:iM x=0)(hm:qX x 65000)(hp:¬(x.bD.length=0/\x.bm.length=0/\x.bC.length=0)):cK db 2 (jP x)=true:=by
 obtain⟨-,-,h2,-,h4,-,hmk,-⟩:=s8 h;obtain⟨-,m2,-,m4,-⟩:=hm;have hl:=Xp x.bD (jJ x.bC);have ht:kh (aO db 2) (if x.bC.length=0 then x.bD else kc x.bD (jJ x.bC))=true:=by
  have h0:=zc h2 λt q=>by rw[Va t q];rfl
  split
  ·exact h0
  ·rename_i hmk0;unfold kh at h0⊢;rw[bu,iu] at h0⊢;refine⟨Xr _ h0.1,λt ht=>?_⟩;rcases Xq ht with rfl|ht
   ·rw[ac2 hmk0 hmk];have:eH (aO db 2) (jJ x.bC).tag=false:=by
     cases q:eH (aO db 2) (jJ x.bC).tag with
     |false=>rfl
     |true=>exact absurd (Va _ q) (show¬((37500:Int)=40965) by decide)
    rfl
   ·exact h0.2 t ht
 unfold jP cK;rw[ht];have hn:1<=bH (.mk (if x.bC.length=0 then x.bD else kc x.bD (jJ x.bC)) (if x.bm.length=0 then .nil else .cons 40965 (.mk x.bm .nil []) .nil) [])/\
  bH (.mk (if x.bC.length=0 then x.bD else kc x.bD (jJ x.bC)) (if x.bm.length=0 then .nil else .cons 40965 (.mk x.bm .nil []) .nil) [])<=65535:=by
  have hl0:1<=(kc x.bD (jJ x.bC)).length:=by unfold kc;simp;omega
  by_cases a:x.bC.length=0
  ·by_cases b:x.bm.length=0
   ·rw[ay a,ay b];simp only[bH,cd,List.length_nil,dM];omega
   ·rw[ay a,aq b];simp only[bH,cd,List.length_nil,dM];omega
  ·by_cases b:x.bm.length=0
   ·rw[aq a,ay b];simp only[bH,cd,List.length_nil,dM];omega
   ·rw[aq a,aq b];simp only[bH,cd,List.length_nil,dM];omega
 rw[fC hn];by_cases b:x.bm.length=0
 ·rw[ay b];rfl
 ·rw[aq b];have hi:cK db 4 (.mk x.bm .nil [])=true:=by
   unfold cK;rw[zc h4 λt q=>by rw[agz] at q;cases q];have:1<=bH (.mk x.bm .nil [])/\bH (.mk x.bm .nil [])<=65535:=by simp only[bH,cd,List.length_nil,dM];omega
   rw[fC this];rfl
  show((nN [40965]&&(true&&(cK db 4 (.mk x.bm .nil [])&&true))))=true;rw[hi];rfl
theorem RF{x:dr}(h:iM x=0)(hm:qX x 65000)(hp:x.bM.length≠0):cK db 3 (.mk x.bM .nil [])=true:=by
 obtain⟨-,-,-,h3,-,-,-,-⟩:=s8 h;obtain⟨-,-,m3,-,-⟩:=hm;unfold cK;rw[zc h3 λt q=>by rw[agy] at q;cases q];have:1<=bH (.mk x.bM .nil [])/\bH (.mk x.bM .nil [])<=65535:=by simp[bH,cd];omega
 rw[fC this];rfl
theorem YY{x:dr}(h:iM x=0)(hm:qX x 65000):gx db 0 (eS x).dG=true:=by
 obtain⟨-,h0,-,-,-,h1,-,cF⟩:=s8 h;have hm':=hm;obtain⟨m0,m2,m3,m4,m1⟩:=hm';have hsub:(nN (lf (jN x))&&jc db (aO db 0) (jN x))=true:=by
  unfold jN nC;by_cases a:x.bD.length=0/\x.bm.length=0/\x.bC.length=0
  ·rw[ay a];by_cases b:x.bM.length=0
   ·rw[ay b];rfl
   ·rw[aq b];show((nN [34853]&&(true&&(cK db 3 (.mk x.bM .nil [])&&true))))=true;rw[RF h hm b];rfl
  ·rw[aq a];by_cases b:x.bM.length=0
   ·rw[ay b];show((nN [34665]&&(true&&(cK db 2 (jP x)&&true))))=true;rw[YT h hm a];rfl
   ·rw[aq b];show((nN [34665,34853]&&(true&&(cK db 2 (jP x)&&(true&&(cK db 3 (.mk x.bM .nil [])&&true))))))=true;rw[YT h hm a,RF h hm b];rfl
 have hs2:cd (jN x)<=2/\(x.cn.length=0->1<=cd (jN x)):=by
  unfold jN nC;by_cases a:x.bD.length=0/\x.bm.length=0/\x.bC.length=0
  ·rw[ay a];by_cases b:x.bM.length=0
   ·rw[ay b];simp only[cd];omega
   ·rw[aq b];simp only[cd];omega
  ·rw[aq a];by_cases b:x.bM.length=0
   ·rw[ay b];simp only[cd];omega
   ·rw[aq b];simp only[cd];omega
 have hd0:cK db 0 (.mk x.cn (jN x) [])=true:=by
  unfold cK;rw[zc h0 EX,hsub];have:1<=bH (.mk x.cn (jN x) [])/\bH (.mk x.cn (jN x) [])<=65535:=by simp[bH];omega
  rw[fC this];rfl
 unfold eS;have hx:∀ds,gx db 0 (.mk x.cn (jN x) []::ds)=(decide ((0:Int)<=0)&&(cK db 0 (.mk x.cn (jN x) [])&&gx db 1 ds)):=λds=>rfl;simp only;rw[hx,hd0];by_cases a:x.first.length=0/\x.cH.length=0
 ·rw[ay a];rfl
 ·rw[aq a];have hd1:cK db 1 (.mk x.first .nil x.cH)=true:=by
   unfold cK;rw[zc h1 agx];have:1<=bH (.mk x.first .nil x.cH)/\bH (.mk x.first .nil x.cH)<=65535:=by simp only[bH,cd];split<;>omega
   rw[fC this];have:decide ((aO db 1).at_≠0)=true:=rfl;rw[this];simp[jc,nN,lf]
  have hx:gx db 1 [.mk x.first .nil x.cH]=(decide ((0:Int)<=1)&&(cK db 1 (.mk x.first .nil x.cH)&&true)):=rfl;rw[hx,hd1];rfl
def xx(l:List aK):cI->List aK
 | .nil=>l
 | .cons _ (.mk tags _ _) r=>xx tags r
def qT(r:dr):aU->Option dr
 | .mk tags subs _=>match iB tags 37500 with
  |some v=>if v.ty=7 then some {r with bD:=oY tags 37500,bC:=v.data,bm:=xx r.bm subs} else none
  |none=>some {r with bD:=oY tags 37500,bC:=[],bm:=xx r.bm subs}
def rl(r:dr):cI->Option dr
 | .nil=>some r
 | .cons tag d s=>if tag=34853 then rl {r with bM:=(match d with| .mk tags _ _=>tags)} s else(qT r d).bind λr=>rl r s
def uY(r:dr):List aU->dr
 |[]=>r
 | .mk tags _ blob::ds=>uY {r with first:=tags,cH:=blob} ds
def xE(t:mC):Option dr:=match t.dG with
 |[]=>none
 | .mk tags subs _::ds=>(rl ⟨t.order,tags,[],[],[],[],[],[]⟩ subs).bind λr=>if iM (uY r ds)=0 then some (uY r ds) else none
theorem mH{α:Type}{l:List α}(h:l.length=0):l=[]:=qC.1 h
theorem agN{x:dr}(h:cT 2 x.bD=true)(r:dr)(hi:r.bm=[]):qT r (jP x)=some {r with bD:=x.bD,bC:=x.bC,bm:=x.bm}:=by
 have hl:xx r.bm (if x.bm.length=0 then .nil else .cons 40965 (.mk x.bm .nil []) .nil)=x.bm:=by
  split
  ·rename_i q;rw[mH q];exact hi
  ·rfl
 unfold jP qT;simp only;rw[hl];by_cases a:x.bC.length=0
 ·rw[ay a,aaY (LP h),aaA (LP h),mH a]
 ·rw[aq a];have e1:=aa0 (jJ x.bC) x.bD;have e2:=drop_set (x:=jJ x.bC) (xX h).1 (LP h);rw[(show(jJ x.bC).tag=37500 from rfl)] at e1 e2;rw[e1,e2];rfl
theorem TQ{x:dr}(h:iM x=0):xE (eS x)=some x:=by
 obtain⟨-,-,h2,-,-,-,-,-⟩:=s8 h;have hs:rl ⟨x.order,x.cn,[],[],[],[],[],[]⟩ (jN x)=some {x with first:=[],cH:=[]}:=by
  have hg:∀r:dr,r.bM=[]->rl r (nC x)=some {r with bM:=x.bM}:=by
   intro r hr;unfold nC;split
   ·rename_i q;rw[mH q,<-hr];rfl
   ·rfl
  unfold jN;split
  ·rename_i q;rw[hg _ rfl,mH q.1,mH q.2.1,mH q.2.2]
  ·show(if(34665:Int)=34853 then rl _ (nC x) else(qT _ (jP x)).bind λr=>rl r (nC x))=_;rw[agN h2 _ rfl];exact hg _ rfl
 have hf:uY {x with first:=[],cH:=[]} (if x.first.length=0/\x.cH.length=0 then[] else[.mk x.first .nil x.cH])=x:=by
  split
  ·rename_i q;show dr.mk _ _ _ _ _ [] _ []=x;rw[<-mH q.1,<-mH q.2]
  ·rfl
 unfold xE eS;simp only;rw[hs];simp only[Option.bind];rw[hf,ay h]
structure cP where
 attr:Int
 size:Int
 at_:Int
 dY:Int
 dZ:Int
 deriving DecidableEq
def kC(p:cP):Bool:=decide ((0<=p.attr/\p.attr<4294967296)/\(0<=p.size/\p.size<4294967296)/\(0<=p.at_/\p.at_<4294967296)/\(0<=p.dY/\p.dY<65536)/\(0<=p.dZ/\p.dZ<65536))
def eI(o:Int)(p:cP):List UInt8:=aY p.attr.toNat 4 o++(aY p.size.toNat 4 o++(aY p.at_.toNat 4 o++(aY p.dY.toNat 2 o++aY p.dZ.toNat 2 o)))
theorem E8(o:Int)(p:cP):(eI o p).length=16:=by simp[eI,eB]
theorem qV(o:Int):∀l:List cP,(l.flatMap (eI o)).length=16*l.length
 |[]=>rfl
 |p::l=>by rw[dK,aS,E8,qV o l,bX];omega
def nK(b:List UInt8)(p:Nat)(o:Int):cP:=⟨cm b p 4 o,cm b (p+4) 4 o,cm b (p+8) 4 o,cm b (p+12) 2 o,cm b (p+14) 2 o⟩
def placesOf(b:List UInt8)(o:Int):Nat->Nat->List cP
 |_,0=>[]
 |p,n+1=>nK b p o::placesOf b o (p+16) n
theorem agQ{b pre post:List UInt8}{k:Nat}{o:Int}{p:cP}(e:b=pre++(eI o p++post))(hk:k=pre.length)(ho:o=1\/o=2)(h:kC p=true):nK b k o=p:=by
 unfold kC at h;simp at h;obtain⟨a1,a2,a3,a4,a5⟩:=h;have e0:b=pre++(aY p.attr.toNat 4 o++(aY p.size.toNat 4 o++(aY p.at_.toNat 4 o++(aY p.dY.toNat 2 o++(aY p.dZ.toNat 2 o++post))))):=by rw[e];simp[eI]
 have e1:b=(pre++aY p.attr.toNat 4 o)++(aY p.size.toNat 4 o++(aY p.at_.toNat 4 o++(aY p.dY.toNat 2 o++(aY p.dZ.toNat 2 o++post)))):=by rw[e0];simp
 have e2:b=(pre++aY p.attr.toNat 4 o++aY p.size.toNat 4 o)++(aY p.at_.toNat 4 o++(aY p.dY.toNat 2 o++(aY p.dZ.toNat 2 o++post))):=by rw[e0];simp
 have h3:=nH (p:=k+8) e2 (by simp[eB,hk]) (.inr (.inr rfl)) ho (by omega);have e3:b=(pre++aY p.attr.toNat 4 o++aY p.size.toNat 4 o++aY p.at_.toNat 4 o)++(aY p.dY.toNat 2 o++(aY p.dZ.toNat 2 o++post)):=by rw[e0];simp
 have h4:=nH (p:=k+12) e3 (by simp[eB,hk]) (.inr (.inl rfl)) ho (by omega);have e4:b=(pre++aY p.attr.toNat 4 o++aY p.size.toNat 4 o++aY p.at_.toNat 4 o++aY p.dY.toNat 2 o)++(aY p.dZ.toNat 2 o++post):=by rw[e0];simp
 have h5:=nH (p:=k+14) e4 (by simp[eB,hk]) (.inr (.inl rfl)) ho (by omega);unfold nK;rw[(nH e0 hk (.inr (.inr rfl)) ho (by omega)),(nH (p:=k+4) e1 (by simp[eB,hk]) (.inr (.inr rfl)) ho (by omega)),h3,h4,h5];rw[mz a1.1,mz a2.1,mz a3.1,mz a4.1,mz a5.1]
theorem LR{b:List UInt8}{o:Int}(ho:o=1\/o=2):∀(l:List cP)(pre post:List UInt8)(k:Nat),b=pre++(l.flatMap (eI o)++post)->k=pre.length->(∀p∈l,kC p=true)->placesOf b o k l.length=l
 |[],_,_,_,_,_,_=>rfl
 |p::l,pre,post,k,e,hk,h=>by
  rw[dK,dV] at e;rw[bX,placesOf,agQ e hk ho (h p (by simp))]
  congr 1
  exact LR ho l (pre++eI o p) post (k+16) (by grind) (by simp[E8,hk]) λy hy=>h y (by grind)
def gu:List bc:=[⟨[],0,0,1⟩,⟨[],0,0,-1⟩]
def kN:List bc:=[⟨[],0,0,-1⟩]
theorem Vq{sh:List bc}(h:∀s∈sh,s.bN=[]/\s.at_=0)(hn:∀s,s<sh.length->(aO sh s).next<0\/((s:Int)<(aO sh s).next/\(aO sh s).next<sh.length)):iZ sh:=by
 have key:∀s,(aO sh s).bN=[]/\(aO sh s).at_=0:=by
  intro s;unfold aO;cases q:sh[s]? with
  |none=>exact⟨rfl,rfl⟩
  |some x=>grind
 refine⟨λs=>⟨λx hx=>?_,λq=>absurd (key s).2 q⟩,λs _ x hx=>?_,hn⟩<;>grind
theorem Jo:iZ gu:=by
 refine Vq (λs hs=>?_) λs hs=>?_
 ·simp[gu] at hs
  grind
 ·have:s=0\/s=1:=by simp[gu] at hs;omega
  rcases this with rfl|rfl<;>decide
theorem I1:iZ kN:=by
 refine Vq (λs hs=>?_) λs hs=>?_
 ·simp[kN] at hs
  grind
 ·have:s=0:=by simp[kN] at hs;omega
  rcases this with rfl
  decide
def fe(o:Int)(l:List cP):aU:=.mk [⟨45056,7,4,[48,49,48,48]⟩,⟨45057,4,1,eP l.length 4⟩,⟨45058,7,((16*l.length:Nat):Int),l.flatMap (eI o)⟩] .nil []
def dE(o:Int)(l:List cP)(view:List aK):mC:=⟨o,fe o l::(if view.length=0 then[] else[.mk view .nil []])⟩
def ga(o:Int)(view:List aK):mC:=⟨o,[.mk view .nil []]⟩
def gz:List UInt8:=[77,80,70,0]
def iP(o:Int)(l:List cP)(view:List aK):Except Int (List UInt8):=
 if¬(o=1\/o=2)\/l.length<2 then .error 1
 else if l.all kC=false then .error 1
 else if cT 5 view=false then .error 6
 else if 65536<16*l.length then .error 7
 else if 65533<4+gP (dE o l view) then .error 7
 else .ok (gz++eC (dE o l view) gu)
def ru(o:Int)(view:List aK):Except Int (List UInt8):=
 if¬(o=1\/o=2)\/view.length=0 then .error 1
 else if cT 5 view=false then .error 6
 else if 65533<4+gP (ga o view) then .error 7
 else .ok (gz++eC (ga o view) kN)
theorem ZD{n:Nat}:er 4 1 (eP n 4)=true:=by unfold er;have:(kindOf 4).1 =4:=rfl;simp[this,oX]
theorem Zi{view:List aK}{S:bc}{sh:List bc}{s:Nat}(hS:aO sh s=S)(hl:S.bN=[])(ha:S.at_=0)(h:cT 5 view=true)(h0:view.length≠0)(hm:view.length<=65000):cK sh s (.mk view .nil [])=true:=by
 unfold cK;rw[hS,zc h λt q=>by rw[Er hl ha] at q;cases q];have:1<=bH (.mk view .nil [])/\bH (.mk view .nil [])<=65535:=by simp[bH,cd];omega
 rw[fC this];rfl
theorem Sj{o:Int}{l:List cP}{view:List aK}(hl:2<=l.length/\16*l.length<=65536)(hv:cT 5 view=true)(hm:view.length<=65000):gx gu 0 (dE o l view).dG=true:=by
 have hd:cK gu 0 (fe o l)=true:=by
  unfold fe cK;have ht:kh (aO gu 0) [⟨45056,7,4,[48,49,48,48]⟩,⟨45057,4,1,eP l.length 4⟩,⟨45058,7,((16*l.length:Nat):Int),l.flatMap (eI o)⟩]=true:=by
   unfold kh;have m3:er 7 ((16*l.length:Nat):Int) (l.flatMap (eI o))=true:=by unfold er;have:(kindOf 7).1 =1:=rfl;rw[qV];simp_all;omega
   rw[bu,iu];refine⟨by simp[fH],λt ht=>?_⟩;simp at ht;rw[(λt=>Er rfl rfl t)];rcases ht with rfl|rfl|rfl
   ·rfl
   ·rfl
   ·simp_all;rfl
  rw[ht];rfl
 unfold dE;have hx:∀ds,gx gu 0 (fe o l::ds)=(decide ((0:Int)<=0)&&(cK gu 0 (fe o l)&&gx gu 1 ds)):=λds=>rfl;rw[hx,hd];by_cases a:view.length=0
 ·rw[ay a];rfl
 ·rw[aq a];have hx:gx gu 1 [.mk view .nil []]=(decide ((0:Int)<=1)&&(cK gu 1 (.mk view .nil [])&&true)):=rfl;rw[hx,Zi rfl rfl rfl hv a hm];rfl
theorem PE{o:Int}{view:List aK}(hv:cT 5 view=true)(h0:view.length≠0)(hm:view.length<=65000):gx kN 0 (ga o view).dG=true:=by have hx:gx kN 0 [.mk view .nil []]=(decide ((0:Int)<=0)&&(cK kN 0 (.mk view .nil [])&&true)):=rfl;show gx kN 0 [.mk view .nil []]=true;rw[hx,Zi rfl rfl rfl hv h0 hm];rfl
def indexOf(t:mC):Option (Int×List cP×List aK):=match t.dG with
 | .mk [a,b,c] _ _::ds=>
  if a.tag=45056/\a.ty=7/\a.data=[48,49,48,48]/\b.tag=45057/\b.ty=4/\b.data.length=4/\c.tag=45058/\c.ty=7/\2<=hU b.data/\c.data.length=16*hU b.data then
   match ds with
   |[]=>some (t.order,placesOf c.data t.order 0 (hU b.data),[])
   | .mk view _ _::_=>if cT 5 view=true then some (t.order,placesOf c.data t.order 0 (hU b.data),view) else none
  else none
 |_=>none
theorem abC{o:Int}(ho:o=1\/o=2){l:List cP}{view:List aK}(hl:2<=l.length/\16*l.length<=65536)(hp:l.all kC=true)(hv:cT 5 view=true):indexOf (dE o l view)=some (o,l,view):=by
 have hb:hU (eP l.length 4)=l.length:=KZ 4 _ (by omega);unfold dE fe indexOf;simp only;rw[ay ⟨trivial,trivial,trivial,trivial,trivial,oX _ _,trivial,trivial,by rw[hb];exact hl.1,by rw[qV,hb]⟩,hb,(LR ho l [] [] 0 (by simp) rfl λp hp'=>iu.1 hp p hp')]
 grind
theorem Yx{t:mC}(h:¬65533<4+gP t):gP t<4294967296:=by omega
theorem Sf{o:Int}{l:List cP}{view:List aK}{b:List UInt8}(h:iP o l view=.ok b)(hm:view.length<=65000):
 ∃r,b=gz++r/\r=eC (dE o l view) gu/\uo r gu=.ok (dE o l view,ff (dE o l view))/\indexOf (dE o l view)=some (o,l,view)/\b.length<=65533:=by
 unfold iP at h;split at h
 ·cases h
 ·rename_i h1;split at h
  ·cases h
  ·rename_i h2;split at h
   ·cases h
   ·rename_i h3;split at h
    ·cases h
    ·rename_i h4;split at h
     ·cases h
     ·rename_i h5;cases h;have ho:o=1\/o=2:=by omega
      have hv:cT 5 view=true:=by simpa using h3
      have hh:=Sj (o:=o) (l:=l) ⟨by omega,by omega⟩ hv hm;refine⟨_,rfl,rfl,PF ho Jo (by decide) (by simp[dE]) hh (Yx h5),abC ho ⟨by omega,by omega⟩ (by simpa using h2) hv,?_⟩;rw[aS,(wm hh)];have:gz.length=4:=rfl;omega
theorem Y4(a b:UInt8):UInt8.ofNat ((a.toNat*256+b.toNat)/256)=a/\UInt8.ofNat ((a.toNat*256+b.toNat)%256)=b:=by have hb:=b.toNat_lt;rw[(show(a.toNat*256+b.toNat)/256=a.toNat from by omega)];simp
theorem alX(m:UInt8):UInt8.ofNat ((m.toNat:Int)).toNat=m:=by simp
theorem Bz{b:UInt8}{t:List UInt8}(h:b≠255):fU (b::t)=fU t+1:=by
 conv=>lhs;unfold fU
 grind
theorem air:fU [255]=0:=rfl
theorem Nt(c:UInt8)(r:List UInt8):fU (255::c::r)=if c≠0/\oF c.toNat=false then 0 else fU (c::r)+1:=by rw[fU,ay rfl]
theorem WT:∀l:List UInt8,fU (l.take (fU l))=fU l
 |[]=>rfl
 |b::t=>by
  have ih:=WT t;by_cases hb:b=255
  ·subst hb;cases t with
   |nil=>rfl
   |cons c r=>
    rw[Nt];by_cases hc:c≠0/\oF c.toNat=false
    ·rw[ay hc];rfl
    ·rw[aq hc,nW];have h5:c≠255:=by
      intro h5;apply hc;rw[h5];exact⟨by decide,rfl⟩
     rw[Bz h5] at ih⊢;rw[nW] at ih⊢;rw[Nt,aq hc,ih]
  ·rw[Bz hb,nW,Bz hb,ih]
theorem Xi{l:List UInt8}{s:bK}{t:List UInt8}(h:kX true l=.more s t):lW s 216=true/\l=cV s++t:=by
 cases l with
 |nil=>cases h
 |cons x l=>
  cases l with
  |nil=>dsimp only[kX] at h;split at h<;>grind
  |cons m l=>
   dsimp only[kX] at h;split at h
   ·cases h
   ·rename_i h1;split at h
    ·cases h
    ·rename_i h2;split at h
     ·cases h
     ·rename_i h3;split at h
      ·rename_i h4;injection h with h5 h6;subst h5 h6 h4;refine⟨rfl,?_⟩;have:x=255:=qA.1 h1;subst this;rfl
      ·rename_i h4;exfalso;apply h2;rw[gk h4];rfl
theorem Xh{f:Bool}{l:List UInt8}{s:bK}{t:List UInt8}(h:kX f l=.last s t):lW s 217=true/\l=cV s++t:=by
 cases l with
 |nil=>cases h
 |cons x l=>
  cases l with
  |nil=>dsimp only[kX] at h;split at h<;>grind
  |cons m l=>
   dsimp only[kX] at h;split at h
   ·cases h
   ·rename_i h1;split at h
    ·cases h
    ·rename_i h2;split at h
     ·rename_i h3;injection h with h5 h6;subst h5 h6 h3;refine⟨rfl,?_⟩;have:x=255:=qA.1 h1;subst this;rfl
     ·split at h
      ·cases h
      ·split at h
       ·split at h
        ·cases h
        ·split at h
         ·cases h
         ·cases h
       ·cases h
theorem Xj{l:List UInt8}{s:bK}{t:List UInt8}(h:kX false l=.more s t):mP s=true/\l=cV s++t:=by
 cases l with
 |nil=>cases h
 |cons x l=>
  cases l with
  |nil=>
   dsimp only[kX] at h;split at h
   ·cases h
   ·cases h
  |cons m l=>
   dsimp only[kX] at h;split at h
   ·cases h
   ·rename_i h1;split at h
    ·cases h
    ·rename_i h2;split at h
     ·cases h
     ·rename_i h3;split at h
      ·rename_i h4;exfalso;apply h2;rw[fC h4];rfl
      ·rename_i h4;have hx:x=255:=qA.1 h1;have hm:lI (m.toNat:Int)=true:=by
        cases q:lI (m.toNat:Int) with
        |true=>rfl
        |false=>
         exfalso;apply h2;rw[q,gk h4];have:ja (m.toNat:Int)=false:=by
          unfold ja;rw[gk]
          rintro (e|e)
          ·exact h4 (nX.1 (by have:(216:UInt8).toNat=216:=rfl;omega))
          ·exact h3 (nX.1 (by have:(217:UInt8).toNat=217:=rfl;omega))
         rw[this];rfl
       cases l with
       |nil=>cases h
       |cons a l=>
        cases l with
        |nil=>cases h
        |cons b l=>
         dsimp only at h;split at h
         ·cases h
         ·rename_i h5;split at h
          ·cases h
          ·rename_i h6;injection h with h7 h8;have hb:=b.toNat_lt;have ha:=a.toNat_lt;have hs:=F0 ((a::b::l).drop (a.toNat*256+b.toNat));have e0:(a::b::l).drop (a.toNat*256+b.toNat)=l.drop (a.toNat*256+b.toNat -2):=by
            obtain⟨k,hk⟩:∃k,a.toNat*256+b.toNat=k+2:=⟨a.toNat*256+b.toNat -2,by omega⟩;rw[hk];rfl
           have hlen:l.length+2>=a.toNat*256+b.toNat:=by simpa using h6
           rw[e0] at hs h7 h8;have hd:((a::b::l).drop 2)=l:=rfl;rw[hd] at h7;have iD:(l.take (a.toNat*256+b.toNat -2)).length+2=a.toNat*256+b.toNat:=by rw[dk];omega
           have hal:ja (m.toNat:Int)=false:=by simp only[lI,bu,uq] at hm;exact hm.2
           subst h7 h8;constructor
           ·unfold mP;simp only[hm,eJ,bu,bZ,sI,List.isEmpty_iff];refine⟨by omega,?_⟩;by_cases hq:m=218
            ·right;rw[ay hq];refine⟨by rw[hq];rfl,?_⟩;rw[WT,dk];omega
            ·left;rw[aq hq];rfl
           ·unfold cV;rw[aq (by simp[hal])];simp only[iD,alX,(Y4 a b).1,(Y4 a b).2,hx,eE,fA,dV];rw[lO,lO]
theorem TO(L:Nat):∀(f:Nat)(r:List UInt8)(l:List bK)(e:Nat),r.length<=L->mh L f false r=.ok l e->ju l=true/\∃x,r=cX l++x/\e=L -x.length
 |0,_,_,_,_,h=>by cases h
 |f+1,r,l,e,hr,h=>by
  unfold mh at h;split at h
  ·cases h
  ·cases h
  ·rename_i s t hs;cases h;obtain⟨h1,h2⟩:=Xh hs;exact⟨h1,t,by rw[h2];simp[cX],rfl⟩
  ·rename_i s t hs;obtain⟨h1,h2⟩:=Xj hs;split at h
   ·rename_i l' e' h3;cases h;obtain⟨a,x,b,c⟩:=TO L f t l' _ (by rw[h2] at hr;simp at hr;omega) h3;refine⟨?_,x,by rw[mw,dV,<-b,h2],c⟩;cases l' with
    |nil=>cases a
    |cons s' l'=>simp[ju,h1,a]
   ·rename_i q;rw[h] at q;exact absurd rfl (q _ _)
theorem TP{b:List UInt8}{l:List bK}{e:Nat}(h:ofM b=.ok l e):mL l=true/\e<=b.length/\cX l=b.take e/\∃r,l=⟨216,[],[]⟩::r/\ju r=true:=by
 unfold ofM at h;unfold mh at h;split at h
 ·cases h
 ·cases h
 ·rename_i s t hs;obtain⟨h1,h2⟩:=Xh hs;rw[h2] at hs;have:s=⟨217,[],[]⟩:=by
   obtain⟨m,d,c⟩:=s;simp[lW] at h1;obtain⟨⟨rfl,rfl⟩,rfl⟩:=h1;rfl
  rw[this] at hs;cases hs
 ·rename_i s t hs;obtain⟨h1,h2⟩:=Xi hs;have hs0:s=⟨216,[],[]⟩:=by
   obtain⟨m,d,c⟩:=s;simp[lW] at h1;obtain⟨⟨rfl,rfl⟩,rfl⟩:=h1;rfl
  split at h
  ·rename_i l' e' h3;cases h;obtain⟨a,x,k,c⟩:=TO b.length b.length t l' _ (by rw[h2];simp) h3;have hb:b=(cV s++cX l')++x:=by rw[dV,<-k,<-h2]
   have hl:b.length=(cV s++cX l').length+x.length:=by rw[hb,aS]
   refine⟨by simp[mL,h1,a],by omega,?_,l',by rw[hs0],a⟩;rw[mw,(show e=(cV s++cX l').length from by omega)];rw[hb,List.take_left]
  ·rename_i q;rw[h] at q;exact absurd rfl (q _ _)
def pV(m:Int):Bool:=decide (224<=m/\m<=239)
def nu(b:List UInt8):Bool:=match ofM b with
 | .ok l e=>decide (e=b.length)&&(l.any (λs=>s.bW==218)&&l.all λs=>!pV s.bW)
 |_=>false
def nA:List UInt8:=[69,120,105,102,0,0]
def fL:List UInt8:=[73,67,67,95,80,82,79,70,73,76,69,0]
def iK(x:dr):Except Int (List UInt8):=
 if iM x≠0 then .error (iM x) else if 65533<6+gP (eS x) then .error 7 else .ok (nA++eC (eS x) db)
def Qh(b:List UInt8):Option dr:=
 if 65533<b.length then none else if nA.isPrefixOf b=true then(match uo (b.drop 6) db with| .ok (t,_)=>xE t| .error _=>none) else none
theorem Dh{x:dr}{b:List UInt8}(h:iK x=.ok b)(hm:qX x 65000):Qh b=some x/\nA.isPrefixOf b=true/\b.length<=65533/\b=nA++eC (eS x) db/\uo (eC (eS x) db) db=.ok (eS x,ff (eS x)):=by
 unfold iK at h;split at h
 ·cases h
 ·rename_i h1;have h1:=qA.1 h1;split at h
  ·cases h
  ·rename_i h2;injection h with h;have hh:=YY h1 hm;have hw:=PF (s8 h1).1 JT (by decide) (by simp[eS]) hh (by omega);have hl:b.length<=65533:=by rw[<-h,aS,(wm hh)];have:nA.length=6:=rfl;omega
   refine⟨?_,(by rw[<-h];rw[qB];exact sK _ _),hl,h.symm,hw⟩;unfold Qh;rw[aq (by omega),<-h];have:(nA++eC (eS x) db).drop 6=eC (eS x) db:=rfl;rw[this,hw];exact TQ h1
def gw(b:List UInt8):List (List UInt8):=if b.length=0 then[] else[fL++1::1::b]
structure oS where
 aG:dr
 cj:List UInt8
 core:List UInt8
 cM:List UInt8
 at_:Nat
 cC:Nat
def Dv(b:List UInt8):List bK:=match ofM b with
 | .ok l _=>l
 |_=>[]
def ky(x:oS)(aT:List UInt8):List bK:=
 ⟨216,[],[]⟩::⟨225,aT,[]⟩::((if x.cM.length=0 then[] else[⟨226,x.cM,[]⟩])++((gw x.cj).map (λc=>⟨226,c,[]⟩)++(Dv x.core).tail))
theorem Dw{b:List UInt8}(h:nu b=true):∃r,ofM b=.ok (⟨216,[],[]⟩::r) b.length/\Dv b=⟨216,[],[]⟩::r/\ju r=true/\cX (⟨216,[],[]⟩::r)=b/\(∃s∈r,s.bW=218)/\∀s∈r,pV s.bW=false:=by
 unfold nu at h;split at h
 ·rename_i l e q;simp at h;obtain⟨h1,⟨s,hs,hm⟩,h3⟩:=h;obtain⟨a,b1,c,r,hr,hmid⟩:=TP q;subst hr;refine⟨r,by rw[q,h1],by unfold Dv;rw[q],hmid,by rw[c,h1,mW],?_,λs hs=>h3 s (by grind)⟩
  grind
 grind
theorem KR{s:bK}{l:List bK}(h:mP s=true)(hl:ju l=true):ju (s::l)=true:=by
 cases l with
 |nil=>cases hl
 |cons s' l=>simp[ju,h,hl]
theorem Mz{m:Int}{d:List UInt8}(hm:m=225\/m=226)(h:d.length<=65533):mP ⟨m,d,[]⟩=true:=by
 unfold mP;rcases hm with rfl|rfl
 ·simp;exact⟨rfl,h⟩
 ·simp;exact⟨rfl,h⟩
theorem QH{b c:List UInt8}(hb:b.length<=65519)(h:c∈gw b):c.length<=65533:=by
 unfold gw at h;split at h
 ·grind
 ·rw[nV.1 h];have:fL.length=12:=rfl
  grind
theorem Sa{x:oS}{aT:List UInt8}(hc:nu x.core=true)(hcam:aT.length<=65533)(hi:x.cj.length<=65519)(hm:x.cM.length<=65533):mL (ky x aT)=true:=by
 obtain⟨r,-,h1,h2,-⟩:=Dw hc;unfold ky;rw[h1];refine KR (Mz (.inl rfl) hcam) ?_;have k:ju ((gw x.cj).map (λc=>⟨226,c,[]⟩)++r)=true:=by
  have hl:=λc=>QH (c:=c) hi;generalize gw x.cj=cs at hl⊢;induction cs with
  |nil=>grind
  |cons c cs ih=>exact KR (Mz (.inr rfl) (hl c (by simp))) (ih λc hc=>hl c (by grind))
 split
 ·grind
 ·exact KR (Mz (.inr rfl) hm) k
def fm(x:oS)(aT:List UInt8):List UInt8:=cX (ky x aT)
structure zt(x:oS)(aT:List UInt8):Prop where
 app:iK x.aG=.ok aT
 rows:qX x.aG 65000
 cj:x.cj.length<=65519
 core:nu x.core=true
 cM:x.cM.length=0\/(gz.isPrefixOf x.cM=true/\x.cM.length<=65533)
theorem alQ(l:List UInt8)(o:Int):iT l 1 o=l:=by
 unfold iT;split
 ·refine rC λi=>?_;by_cases h:i<l.length
  ·rw[CN _ _ _ _ h,ay h];simp[Nat.mod_one,h]
  ·rw[kL (by rw[pG];omega),kL (by omega)]
 ·rfl
theorem EW{n:Nat}(h:2<=n/\16*n<=65536):bO 7 ((16*n:Nat):Int)=16*n:=by
 have e:jf 7 ((16*n:Nat):Int)=((16*n:Nat):Int):=by unfold jf;rw[aq (by omega),show(kindOf 7).1 =1 from rfl];omega
 unfold bO;rw[e,ay (by omega)];omega
theorem abF(o:Int){n:Nat}(h:2<=n/\16*n<=65536)(e:Nat):∃E,∀l:List cP,l.length=n->eA o e [⟨45056,7,4,[48,49,48,48]⟩,⟨45057,4,1,eP l.length 4⟩,⟨45058,7,((16*l.length:Nat):Int),l.flatMap (eI o)⟩]=E:=
 ⟨_,λl hl=>by simp only[hl,eA,show bO 7 4=0 from rfl,show bO 4 1=0 from rfl,dM,EW h];rw[aq (by omega)]⟩
theorem abG(o:Int){n:Nat}(h:2<=n/\16*n<=65536)(e:Nat)(l:List cP)(hl:l.length=n):gA o e [⟨45056,7,4,[48,49,48,48]⟩,⟨45057,4,1,eP l.length 4⟩,⟨45058,7,((16*l.length:Nat):Int),l.flatMap (eI o)⟩]=dN e++l.flatMap (eI o):=by
 simp only[hl,gA,show bO 7 4=0 from rfl,show bO 4 1=0 from rfl,dM,EW h];rw[aq (by omega),dW]
 congr 1
 exact alQ _ o
theorem abD(o:Int){n:Nat}(h:2<=n/\16*n<=65536)(view:List aK):∃A B,∀l:List cP,l.length=n->eC (dE o l view) gu=A++(l.flatMap (eI o)++B):=by
 obtain⟨E,hE⟩:=abF o h (aJ 8+(6+12*3));have hend:∀(l:List cP),l.length=n->bB 8 (fe o l)=aJ (aJ 8+(6+12*3))+16*n:=by intro l hl;unfold fe bB ej;simp only[bH,bX,List.length_nil,cd,dM,cf,hl,show bO 7 4=0 from rfl,show bO 4 1=0 from rfl,EW h];rw[aq (by omega)]
 suffices H:∃X Y,∀l:List cP,l.length=n->eC (dE o l view) gu=X++(dN (aJ 8+(6+12*3))++(l.flatMap (eI o)++Y)) by obtain⟨X,Y,H⟩:=H;exact⟨X++dN (aJ 8+(6+12*3)),Y,λl hl=>by rw[H l hl,dV]⟩
 refine⟨(if o=1 then[73,73] else[77,77])++(aY 42 2 o++(aY 8 4 o++(dN 8++kP o (gF E) (qf 8 (fe o (List.replicate n ⟨0,0,0,0,0⟩)) (if view.length=0 then[] else[.mk view .nil []]))))),chainB o gu 1 (aJ (aJ 8+(6+12*3))+16*n) (if view.length=0 then[] else[.mk view .nil []]),λl hl=>?_⟩;unfold eC dE;have hd:=hend l hl;have hd':=hend (List.replicate n ⟨0,0,0,0,0⟩) (by simp);simp only[chainB,qf,hd,hd'];unfold fe;simp only[jo,jT,iA,gZ,ej,bH,bX,List.length_nil,cd,dM,dW,dV];rw[hE l hl,abG o h _ l hl];simp only[dV];rfl
theorem abx(o:Int){n:Nat}(h:2<=n/\16*n<=65536)(view:List aK):∃N,∀l:List cP,l.length=n->gP (dE o l view)=N:=by
 refine⟨ef (aJ (aJ 8+(6+12*3))+16*n) (if view.length=0 then[] else[.mk view .nil []]),λl hl=>?_⟩;unfold gP dE;rw[ef]
 congr 1
 unfold fe bB ej;simp only[bH,bX,List.length_nil,cd,dM,cf,hl,show bO 7 4=0 from rfl,show bO 4 1=0 from rfl,EW h];rw[aq (by omega)]
theorem Sg{o:Int}{l:List cP}{view:List aK}{b:List UInt8}(h:iP o l view=.ok b):b=gz++eC (dE o l view) gu/\2<=l.length/\16*l.length<=65536/\l.all kC=true:=by
 unfold iP at h
 repeat(split at h;· cases h)
 injection h with h;exact⟨h.symm,by omega,by omega,by simp_all⟩
namespace Lt
section
open Tryz
def ints(t:Nat):Bool:=[3,36].any (Nat.beq t)
theorem abR:∀t,ints t=true->CW Tryz.prog t:=by
 intro t h;have h:t∈([3,36]:List Nat):=by unfold ints at h;rw[List.any_eq_true] at h;obtain⟨x,hx,e⟩:=h;rw[bV e];exact hx
 simp only[cQ,mV,mZ] at h;rcases h with rfl|rfl
 ·exact⟨⟨_,Tryz.underlying3⟩,Tryz.t3,Ap Tryz.type3,by kernel_rfl⟩
 ·exact⟨⟨_,Tryz.underlying36⟩,Tryz.t36,Ap Tryz.type36,by kernel_rfl⟩
structure TE where
 t:Nat
 i:jm
 h:P0 Tryz.prog t i
noncomputable def tx{t:Nat}{n:TypeInfo}{d:TypeDesc}(h:Tryz.prog.types[t]? =some n)(u:Tryz.prog.underlying t=some d):TE:=
 ⟨t,⟨d,n.size,n.bytes,n.zero,false,[]⟩,u,⟨n,Ap h,rfl,rfl,λ_ h=>h⟩,λh=>by cases h⟩
noncomputable def tn{t:Nat}{n:TypeInfo}{d:TypeDesc}(h:Tryz.prog.types[t]? =some n)(u:Tryz.prog.underlying t=some d):TE:=
 ⟨t,⟨d,n.size,n.bytes,none,false,[]⟩,u,⟨n,Ap h,rfl,rfl,λ_ h=>by cases h⟩,λh=>by cases h⟩
noncomputable def tf{t:Nat}{n:TypeInfo}{d:TypeDesc}(h:Tryz.prog.types[t]? =some n)(u:Tryz.prog.underlying t=some d)(e:Tryz.prog.eqGuardType Tryz.prog.depth t=false)(s:Tryz.prog.stoodInHeld t=false:=by kernel_rfl)
 (f:JZ ints n.size d=true:=by kernel_rfl):TE:=
 ⟨t,⟨d,n.size,n.bytes,n.zero,true,[]⟩,u,⟨n,Ap h,rfl,rfl,λ_ h=>h⟩,λ_=>⟨e,s,aa3 abR f⟩⟩
structure FE where
 n:Nat
 f:Func
 h:Tryz.prog.funcs[n]? =some f/\(f.name== "runtime.NumGoroutine")=false/\f.body.isSome=true
noncomputable def fx{n:Nat}{f:Func}(h:Tryz.prog.funcs[n]? =some f)(k:(f.name== "runtime.NumGoroutine")=false:=by kernel_rfl)(b:f.body.isSome=true:=by kernel_rfl):FE:=⟨n,f,h,k,b⟩
noncomputable def tl:List TE:=[tx type0 underlying0,tx type1 underlying1,tx type3 underlying3,tx type4 underlying4,tx type5 underlying5,tx type9 underlying9,tx type20 underlying20,tx type22 underlying22,tx type24 underlying24,tx type25 underlying25,tx type26 underlying26,tx type28 underlying28,tx type30 underlying30,tx type35 underlying35,tx type36 underlying36,tx type37 underlying37,tx type41 underlying41,tx type43 underlying43,tx type44 underlying44,tx type47 underlying47,tx type48 underlying48,tx type50 underlying50,tx type52 underlying52,tx type53 underlying53,tx type56 underlying56,tx type57 underlying57,tx type70 underlying70,tx type72 underlying72,tx type73 underlying73,tx type77 underlying77,tx type78 underlying78,tx type83 underlying83,tx type84 underlying84,tf type97 underlying97 eqGuardType97,tx type98 underlying98,tx type99 underlying99,tx type103 underlying103,tx type105 underlying105,tx type107 underlying107,tx type109 underlying109,tx type112 underlying112,tx type113 underlying113,tx type115 underlying115,tx type117 underlying117,tx type119 underlying119,tx type121 underlying121,tx type123 underlying123,tx type125 underlying125,tx type128 underlying128,tx type129 underlying129,tx type132 underlying132,tx type134 underlying134,tx type136 underlying136,tx type138 underlying138,tx type142 underlying142,tx type159 underlying159,tx type160 underlying160,tx type163 underlying163,tx type166 underlying166,tx type167 underlying167,tx type168 underlying168,tx type173 underlying173,tx type174 underlying174,tx type176 underlying176,tx type179 underlying179,tx type181 underlying181,tx type182 underlying182,tx type185 underlying185,tx type186 underlying186,tx type189 underlying189,tx type192 underlying192,tx type194 underlying194,tx type198 underlying198,tx type199 underlying199,tx type203 underlying203,tx type205 underlying205,tx type207 underlying207,tx type209 underlying209,tx type210 underlying210,tx type212 underlying212,tx type215 underlying215,tx type217 underlying217,tx type218 underlying218,tx type219 underlying219,tx type221 underlying221,tx type223 underlying223,tx type229 underlying229,tx type230 underlying230,tx type232 underlying232,tx type233 underlying233,tx type245 underlying245,tx type259 underlying259,tx type261 underlying261,tx type266 underlying266,tx type269 underlying269,tf type271 underlying271 eqGuardType271,tx type272 underlying272,tx type273 underlying273,tx type275 underlying275,tx type278 underlying278,tx type280 underlying280,tx type283 underlying283,tx type286 underlying286,tx type288 underlying288,tx type289 underlying289,tx type291 underlying291,tx type293 underlying293,tx type295 underlying295,tx type300 underlying300,tx type301 underlying301,tx type303 underlying303,tf type304 underlying304 eqGuardType304,tf type307 underlying307 eqGuardType307,tx type311 underlying311,tf type314 underlying314 eqGuardType314,tx type325 underlying325,tx type327 underlying327,tf type331 underlying331 eqGuardType331,tx type334 underlying334,tx type340 underlying340,tx type346 underlying346,tx type348 underlying348,tx type349 underlying349,tx type352 underlying352,tx type354 underlying354,tx type356 underlying356,tx type361 underlying361,tx type365 underlying365,tx type366 underlying366,tx type368 underlying368,tx type377 underlying377,tf type385 underlying385 eqGuardType385,tx type386 underlying386,tx type388 underlying388,tx type394 underlying394,tx type395 underlying395,tx type397 underlying397,tx type399 underlying399,tx type400 underlying400,tf type402 underlying402 eqGuardType402,tx type404 underlying404,tf type406 underlying406 eqGuardType406,tx type413 underlying413,tf type415 underlying415 eqGuardType415,tx type417 underlying417,tx type418 underlying418,tx type422 underlying422,tx type424 underlying424,tx type425 underlying425,tx type426 underlying426,tx type429 underlying429,tx type433 underlying433,tx type435 underlying435,tx type437 underlying437,tx type438 underlying438,tf type440 underlying440 eqGuardType440,tx type441 underlying441,tx type443 underlying443,tx type446 underlying446,tx type456 underlying456,tx type458 underlying458,tx type460 underlying460,tf type463 underlying463 eqGuardType463,tf type464 underlying464 eqGuardType464,tf type465 underlying465 eqGuardType465,tx type467 underlying467,tx type472 underlying472,tx type473 underlying473,tx type479 underlying479,tx type481 underlying481,tx type482 underlying482,tx type483 underlying483,tx type486 underlying486,tx type493 underlying493,tx type498 underlying498,tx type502 underlying502,tx type506 underlying506,tx type517 underlying517,tx type522 underlying522,tx type524 underlying524,tx type545 underlying545]
noncomputable def fl:List FE:=[fx func14,fx func18,fx func19,fx func20,fx func22,fx func23,fx func24,fx func25,fx func26,fx func29,fx func30,fx func31,fx func37,fx func40,fx func41,fx func42,fx func43,fx func44,fx func45,fx func53,fx func54,fx func57,fx func58,fx func59,fx func60,fx func61,fx func62,fx func63,fx func64,fx func65,fx func66,fx func67,fx func68,fx func70,fx func74,fx func75,fx func76,fx func77,fx func78,fx func79,fx func80,fx func81,fx func87,fx func90,fx func91,fx func92,fx func93,fx func94,fx func95,fx func96,fx func97,fx func98,fx func99,fx func104,fx func105,fx func106,fx func107,fx func108,fx func109,fx func110,fx func111,fx func112,fx func113,fx func114,fx func115,fx func116,fx func117,fx func118,fx func119,fx func120,fx func121,fx func122,fx func123,fx func124,fx func125,fx func126,fx func127,fx func128,fx func129,fx func130,fx func131,fx func132,fx func133,fx func134,fx func135,fx func136,fx func138,fx func139,fx func140,fx func141,fx func142,fx func143,fx func144,fx func145,fx func148,fx func149,fx func150,fx func154,fx func155,fx func156,fx func157,fx func158,fx func159,fx func160,fx func161,fx func162,fx func163,fx func164,fx func165,fx func166,fx func167,fx func168,fx func169,fx func170,fx func171,fx func172,fx func173,fx func174,fx func175,fx func176,fx func177,fx func178,fx func179,fx func180,fx func181,fx func182,fx func183,fx func184,fx func185,fx func186,fx func187,fx func188,fx func189,fx func190,fx func191,fx func192,fx func193,fx func194,fx func195,fx func196,fx func197,fx func198,fx func199,fx func200,fx func201,fx func202,fx func203,fx func204,fx func207,fx func208,fx func209,fx func210,fx func216,fx func217,fx func218,fx func219,fx func220,fx func221,fx func222,fx func223,fx func224,fx func225,fx func226,fx func227,fx func228,fx func229,fx func230,fx func231,fx func232,fx func233,fx func234,fx func235,fx func236,fx func237,fx func238,fx func239,fx func240,fx func241,fx func242,fx func243,fx func244,fx func245,fx func246,fx func247,fx func248,fx func249,fx func250,fx func251,fx func252,fx func253,fx func254,fx func255,fx func256,fx func257,fx func258,fx func259,fx func260,fx func261,fx func262,fx func263,fx func264,fx func265,fx func266,fx func267,fx func268,fx func269,fx func270,fx func271,fx func272,fx func273,fx func274,fx func275,fx func276,fx func277,fx func278,fx func279,fx func280,fx func281,fx func286,fx func293,fx func294,fx func295,fx func299,fx func300,fx func301,fx func302,fx func303,fx func304,fx func305,fx func306,fx func307,fx func308,fx func309,fx func310,fx func311,fx func312,fx func313,fx func314,fx func315,fx func316,fx func317,fx func318,fx func319,fx func320,fx func321,fx func322,fx func323,fx func324,fx func325,fx func326,fx func327,fx func328,fx func329,fx func330,fx func331,fx func332,fx func333,fx func334,fx func335,fx func336,fx func337,fx func338,fx func339,fx func340,fx func341,fx func342,fx func343,fx func344,fx func345,fx func346,fx func347,fx func348,fx func349,fx func350,fx func351,fx func352,fx func353,fx func354,fx func355,fx func361,fx func362,fx func363,fx func364,fx func365,fx func366,fx func367,fx func368,fx func369,fx func370,fx func371,fx func372,fx func373,fx func374,fx func375,fx func376,fx func377,fx func378,fx func379,fx func380,fx func381,fx func382,fx func383,fx func384,fx func385,fx func386,fx func387,fx func388,fx func389,fx func390,fx func391,fx func392,fx func393,fx func394,fx func395,fx func396,fx func397,fx func398,fx func399,fx func400,fx func401,fx func402,fx func403,fx func404,fx func405,fx func406,fx func407,fx func408,fx func409,fx func410,fx func411,fx func412,fx func413,fx func414,fx func415,fx func416,fx func417,fx func418,fx func419,fx func428,fx func429,fx func430,fx func431,fx func434,fx func435,fx func436,fx func437,fx func438,fx func439,fx func440,fx func441,fx func442,fx func443,fx func444,fx func445,fx func446,fx func447,fx func448,fx func449,fx func450,fx func451,fx func452,fx func453,fx func454,fx func455,fx func456,fx func457,fx func458,fx func459,fx func460,fx func461,fx func462,fx func463,fx func464,fx func465,fx func466,fx func467,fx func468,fx func469,fx func470,fx func471,fx func472,fx func473,fx func474,fx func478,fx func479,fx func480,fx func481,fx func482,fx func483,fx func484,fx func485,fx func486,fx func487,fx func488,fx func489,fx func490,fx func491,fx func492,fx func494,fx func495,fx func496,fx func497,fx func498,fx func499]
noncomputable def alF:TT:=tJ (tl.map λe=>(e.t,e.i))
noncomputable def alE:FT:=tJ (fl.map λe=>(e.n,e.f))
noncomputable def mR:ew:=⟨alF,alE⟩
theorem pE:iJ Tryz.prog mR:=alG rfl rfl
 (λp hp=>by obtain⟨e,_,rfl⟩:=List.mem_map.1 hp;exact e.h) (λp hp=>by obtain⟨e,_,rfl⟩:=List.mem_map.1 hp;exact e.h)
def qfs:List Nat:=[397,317,193,181,254,255,249,239,94,267,144,130,262,398,367,81,369,318,317,142,246,269,443,258,458,231,429,444,200,178,241,312,313,240,388,330,307,389,245,162,226,300,224,167,31,148,492,210,147,474,89,414,415,470,417,71,82,102,91]
noncomputable instance:QF:=⟨λn=>List.any qfs (Nat.beq n)⟩
theorem mixed:Tryz.prog.follows .mixedOrders=true:=Tryz.checked.mixed
end
abbrev bG(m:Nat->Nat->Option Value):=PW (aL m)
abbrev PQ(P:Program)(g:FuncId)(us:List Value)(pv:Value):Prop:=wM P g us λm v=>aL m pv v
theorem cL.mk{P:Program}{g:FuncId}{avt:List VT}{rvt:VT}{Sh:Fn (VT.eZ avt) (Option (bL rvt.ks))}
 (H:∀ls r,iz (VT.eZ avt) Sh ls=some r->fj ls->∀us,fJ avt ls=some (us,[])->fj (gL rvt.ks r)/\∃pv,jV rvt (gL rvt.ks r)=some (pv,[])/\PQ P g us pv):cL P g avt rvt Sh:=λls r e lo us hu m args' w K A=>by
 obtain⟨h1,pv,h2,h3⟩:=H ls r e lo us hu;exact(h3 m args' w K A).mono λx w' ⟨v,a,b,c⟩=>⟨v,a,b,pv,h2,h1,c⟩
def Kz:Value->Bool
 | .func (.via _ _ 7 _) _ _=>true
 |_=>false
theorem Ef{w:World}{b i:Nat}{v:Value}(ht:Kz v=false)(h:fG w b i=some v):w.cell? ⟨b,i,none⟩=some v:=by
 unfold fG at h;split at h
 ·cases h;cases ht
 grind
abbrev gm(v:Value):Prop:=bd [v]=true
theorem bG.length{m:Nat->Nat->Option Value}{xs ys:List Value}(h:bG m xs ys):xs.length=ys.length:=h.1
theorem bG.get{m:Nat->Nat->Option Value}{xs ys:List Value}(h:bG m xs ys){i:Nat}{x:Value}(e:xs[i]? =some x):∃y,ys[i]? =some y/\aL m x y:=PW.get h e
theorem aL.TH{m:Nat->Nat->Option Value}{v v':Value}(h:aL m v v'):Kz v'=false:=by cases h<;>rfl
theorem aL.fn0{m:Nat->Nat->Option Value}{f:FuncId}:aL m (.func (.func f) #[] #[]) (.func (.func f) #[] #[]):=.fn rfl (λi x y h=>by simp at h) rfl λi x y h=>by simp at h
theorem aL.row{m:Nat->Nat->Option Value}{n c:Nat}{cs ys:List Value}{a:Addr}(r:bG m cs ys)(hm:∀(i:Nat) y,ys[i]? =some y->m a.block (a.off+i)=some y)(hs:a.spot=none)(hn:n<=c)(ho:bd cs=true):aL m (ae n cs) (.slice (some a) n c):=.kZ r.1 r.2 hm hs hn ho
theorem aL.K2{m:Nat->Nat->Option Value}{xs ys:List Value}(h:bG m xs ys):aL m (.agg ⟨xs⟩) (.agg ⟨ys⟩):=.agg h.1 h.2
def rq:List Value->Option (List Int)
 |[]=>some []
 | .int .u8 b::l=>ob (rq l) λxs=>some (b::xs)
 |_=>none
theorem Y9:∀{l:List Value}{xs:List Int},rq l=some xs->xs.length=l.length/\∀i,i<xs.length->l[i]? =some (.int .u8 (xs.getD i 0))
 |[],_,e=>by cases e;exact⟨rfl,λi h=>by simp at h⟩
 |v::l,xs,e=>by
  unfold rq at e;split at e
  ·rename_i q;cases q
  ·rename_i b l' q;cases q;replace e:=ax e;obtain⟨ys,h1,e⟩:=e;cases e;obtain⟨k1,k2⟩:=Y9 h1;refine⟨by simp[k1],λi h=>?_⟩;cases i with
   |zero=>simp
   |succ i=>simp at h;simpa using k2 i h
  ·cases e
def jS{β:Type}(x:Value)(K:List Int->Option β):Option β:=match x with
 | .func (.via n _ 0 true) cs _=>cond (Nat.ble n cs.toList.length) (ob (rq (cs.toList.take n)) K) none
 |_=>none
theorem wX{β:Type}{m:Nat->Nat->Option Value}{w:World}(hm:Kn m w){x v:Value}{K:List Int->Option β}{b:β}(e:jS x K=some b)(h:aL m x v):
 ∃(xs:List Int),K xs=some b/\((∃a c,v=.slice (some a) xs.length c/\xs.length<=c/\∀i,i<xs.length->w.cell? (a.add i)=some (.int .u8 (xs.getD i 0)))\/(xs=[]/\∃c,v=.slice none 0 c)):=by
 unfold jS at e;split at e
 case h_2=>cases e
 rename_i n p cs ys;obtain⟨e1,e2⟩:=aX e;clear e;have e1:=dX e1;replace e2:=ax e2;obtain⟨xs,h1,h2⟩:=e2;obtain⟨k1,k2⟩:=Y9 h1;have hl:xs.length=n:=by rw[k1,dk];omega
 refine⟨xs,h2,?_⟩;cases h with
 |kZ r1 r2 q hs hn ho=>
  have r:bG m cs.toList _:=⟨r1,r2⟩;rename_i c a zs;subst hl;refine .inl ⟨a,c,rfl,hn,λi hi=>?_⟩;have h3:=k2 i hi;have h4:cs.toList[i]? =some (.int .u8 (xs.getD i 0)):=by rw[<-h3,zo hi]
  obtain⟨y,y1,y2⟩:=r.get h4;cases y2;have h5:=Ef rfl (hm _ _ _ (q i _ y1));rw[<-h5];obtain⟨blk,off,sp⟩:=a;have hs:sp=none:=hs;subst hs;unfold Addr.add;split
  ·rename_i h0;subst h0;rfl
  ·rfl
 |@fV c a=>
  have:xs=[]:=kK hl;subst this;rcases a with _|a
  ·exact .inr ⟨rfl,c,rfl⟩
  ·exact .inl ⟨a,c,rfl,ia _,λi hi=>by simp at hi⟩
end Lt
section
open Go.RowKit Go.Shelf
variable{n:Nat} {P:Program}
def iS(fn:FuncId)(tmps:Array Value)(ps:Array Tmp)(assign body:Code)(D:Nat)(st:LoopState):Loop:={state:=st,pending:=none,fn,tmps,params:=ps,assign,body,defers:=D}
theorem Ft{l D:Nat}{fn:FuncId}{tmps:Array Value}{ps:Array Tmp}{assign body:Code}{args:Array Value}{W:World}{R:World->Prop}(hl:W.heap[l]? =some (.loop (iS fn tmps ps assign body D .ready)))(hps:args.size=ps.size)
 (h:assign.wpIn (Fence.wide.inRound l) n P (Exit.then (λa' Wa=>Wa.heap[l]? =some (.loop (iS fn tmps ps assign body D .ready))/\
  body.wpIn (Fence.wide.inRound l) n P (Exit.then (λ_ W3=>W3.heap[l]? =some (.loop (iS fn tmps ps assign body D .busy))/\R (W3.putObj l (.loop (iS fn tmps ps assign body D .ready)))) (λ_ _ _=>False)) a' (Wa.putObj l (.loop (iS fn tmps ps assign body D .busy)))) (λ_ _ _=>False))
  {tmps:=(ps.zip args).foldl (λt (p,v)=>t.setIfInBounds p v) tmps,defers:=[]} W):
 YieldAt Fence.wide n P l args W λe W'=>e=.returned (.bool true)/\R W':=by
 refine⟨fn,_,assign,body,run_yield (P:=P) (args:=args) hl hps,roundIn_of_wpIn trivial (wpIn_mono h ?_)⟩
 rintro (_|_|_|_|_|_) a' Wa q
 case normal=>
  obtain⟨q1,q2⟩:=q;refine⟨_,run_beginRound q1 rfl,wpIn_mono q2 ?_⟩
  rintro (_|_|_|_|_|_) a3 W3 r
  case normal=>exact⟨_,_,run_endRound none r.1,rfl,r.2⟩
  all_goals exact r.elim
 all_goals exact q.elim
theorem Bc{g:Operand}{ps:Array Tmp}{assign body:Code}{Q:Exit->Act->World->Prop}{a:Act}{w:World}{gf:Nat}{lb:Array Value}(hg:a.eval g=.func (.func gf) #[] lb)(eg:∀args w,(callFunc gf args).run P w=.ok (.enter gf args) w)
 (h:∀fn W1,W1=(w.alloc (.deferred (some []))).alloc (.loop (iS fn a.tmps ps assign body w.heap.size .ready))->
  Calls P gf (#[.func (.yield (w.heap.size+1)) #[] #[]]++lb) W1 λe W2=>(∃v,e=.returned v)/\W2.heap[w.heap.size+1]? =some (.loop (iS fn a.tmps ps assign body w.heap.size .ready))/\
   Q .normal {a with defers:={target:=.collected w.heap.size,args:=#[]}::a.defers} (W2.putObj (w.heap.size+1) (.loop (iS fn a.tmps ps assign body w.heap.size .exhausted)))):
 (Code.rangeFunc g ps assign body).wpIn Fence.wide n P Q a w:=by
 refine wpIn_rangeFunc ?_;intro fn _;obtain⟨W1,hW⟩:∃W1,W1=(w.alloc (.deferred (some []))).alloc (.loop (iS fn a.tmps ps assign body w.heap.size .ready)):=⟨_,rfl⟩;refine⟨w.heap.size+1,_,W1,{target:=.fn (.func gf) lb,args:=#[.func (.yield (w.heap.size+1)) #[] #[]]},W1,gf,#[.func (.yield (w.heap.size+1)) #[] #[]]++lb,W1,hW▸run_enterLoop_outer _ _ _ _ _,?_,λ_ _=>trivial,?_,?_,?_⟩
 ·simp only[resolve,hg];simp[go_sem]
 ·simp[invoke,go_sem,eg]
 ·intro q;exact absurd q (by simp[Fence.wide])
 ·refine callsIn_wide.2 ((h fn W1 hW).mono ?_)
  rintro e W2 ⟨⟨v,rfl⟩,h1,h2⟩
  exact⟨none,_,run_endLoop h1 (by simp[iS]),h2⟩
end
end Go.Proofs.YtcfjfbeadhnknaaGreatDoor

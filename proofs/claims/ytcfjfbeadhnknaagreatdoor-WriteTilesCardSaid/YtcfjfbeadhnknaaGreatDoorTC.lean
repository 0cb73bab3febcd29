import Derived.Recover
import Derived.Still
import Derived.Laws.BitsLemmas
import Derived.Test.YtcfjfbeadhnknaaGreatDoorChecked
import Derived.KernelRfl
import Derived.Eval
import Derived.Test.YtcfjfbeadhnknaaGreatDoorTB
namespace Go.Proofs.YtcfjfbeadhnknaaGreatDoor
set_option linter.unusedVariables false
set_option linter.unusedSimpArgs false
set_option linter.unusedSectionVars false
set_option linter.constructorNameAsVariable false
set_option maxRecDepth 100000
namespace Lt
section
set_option linter.unusedVariables false
set_option linter.unusedSimpArgs false
set_option linter.unusedSectionVars false
set_option linter.constructorNameAsVariable false
def wg(P:Program)(g:FuncId)(us:List Value)(R:(Nat->Nat->Option Value)->Value->Prop):Prop:=∀(m:Nat->Nat->Option Value)(args':Array Value)(w:World),Kn m w->PW (aJ m) us args'.toList->
 Calls P g args' w λe w'=>∃v',e=.returned v'/\RowKit.Below w.heap.size w w'/\R (cN m w w') v'
def cg(P:Program)(g:FuncId)(avt:List VT)(rvt:VT)(Sh:Fn (VT.fP avt) (Option (bL rvt.ks))):Prop:=
 ∀ls r,iz (VT.fP avt) Sh ls=some r->fg ls->∀us,fL avt ls=some (us,[])->wg P g us λm v=>∃pv,jN rvt (gH rvt.ks r)=some (pv,[])/\fg (gH rvt.ks r)/\aJ m pv v
theorem eI.below{w w':World}(h:eI (λ_=>False) w w'):RowKit.Below w.heap.size w w':=⟨h.os,h.tape,h.output,h.size,λb hb=>h.block b hb id⟩
theorem eI.JE{w w':World}(h:RowKit.Below w.heap.size w w'):eI (λ_=>False) w w':=⟨h.os,h.tape,h.output,h.size,λb hb _=>h.block b hb⟩
theorem Mem.start{m:Nat->Nat->Option Value}{w:World}(K:Kn m w){n:Nat}{dJ:List Deferred}{F:Nat->Prop}:Mem ⟨w,λ_=>False,m,0,λ_=>none,n,dJ⟩ ⟨λ_=>none,m⟩ (hG .nil) F w:=
 ⟨λid so h=>(oY h).elim,λi j so so' o o' n n' h=>(oY h).elim,λ_ _=>rfl,K,λb i v _ ⟨id,so,o,n,h,_⟩=>oY h,eI.refl _ _,λb ⟨id,so,o,n,h,_⟩=>(oY h).elim,λb i v h=>.inl h,λk hk=>(Nat.not_lt_zero k hk).elim,λ_ _ _ h=>h⟩
theorem Mem.Uv{m:Nat->Nat->Option Value}{w w':World}(K:Kn m w){an n:Nat}{nm:Nat->Option (Option (Nat×Nat)×Nat)}{dJ:List Deferred}{F:Nat->Prop}{σ:Ren}{h:Tr SO}(M:Mem ⟨w,λ_=>False,m,an,nm,n,dJ⟩ σ (hG h) F w'):Seen σ (cN m w w') h w':=by
 refine⟨λb i v q=>?_,M.obj,λid so ho o n hn i v hv=>?_⟩
 ·unfold cN
  rcases M.lQ b i v q with k|k|k
  ·rw[au (mz (K b i v k))];exact k
  ·exact k.elim
  ·rw[ai (Nat.not_lt.2 k)];exact M.lit b i v q
 ·rcases M.owned o.1 ⟨id,so,o,_,ho,hn,rfl⟩ with k|k
  ·exact k.elim
  ·unfold cN
   rw[ai (Nat.not_lt.2 k)];exact hv
theorem Vt:∀{svs:List SV}{n:Nat}{T:Tr SV}{t:Nat}{sv:SV},(ov svs n T).get t=some sv->(∃i,t=n+i/\svs[i]? =some sv)\/T.get t=some sv
 |[],n,T,t,sv,h=>.inr h
 |x::svs,n,T,t,sv,h=>by
  rcases Vt (svs:=svs) h with⟨i,h1,h2⟩|h
  ·exact .inl ⟨i+1,by omega,h2⟩
  ·rw[Tr.fE] at h
   split at h
   ·rename_i q;cases h;exact .inl ⟨0,q,rfl⟩
   ·exact .inr h
theorem BJ{σ:Ren}{svs:List SV}{args:Array Value}(d:eP σ svs args.toList){dJ:List Deferred}:Ev σ (ov svs 0 .nil) {tmps:=args,defers:=dJ}:=λt sv h=>by
 rcases Vt h with⟨i,rfl,hi⟩|h
 ·obtain⟨y,h1,h2⟩:=d.get hi
  rw[mc] at h1
  simp only[Act.eval,gI,qa,h1,qj]
  exact h2
 ·rw[Tr.get_nil] at h;cases h
theorem sL{σ:Ren}{tm:Tr SV}{args:Array Value}{k:Nat}{dJ dfs':List Deferred}(R:Ev σ tm {tmps:=args,defers:=dJ}):Ev σ tm {tmps:=args++Array.replicate k undef,defers:=dfs'}:=λt sv h=>by
 have e:(args++Array.replicate k undef).getD t undef=args.getD t undef:=by
  simp only[qa,Array.getElem?_append,Array.getElem?_replicate]
  split
  ·rfl
  ·rename_i q
   rw[Array.getElem?_eq_none (Nat.not_lt.1 q)]
   split<;>rfl
 have:=R t sv h
 simp only[Act.eval] at this⊢
 rwa[e]
section
noncomputable def WC{β:Type}[QF](C:Ctx β)(N:Nat)(avt:List VT)(body:Code)(ls:List bo):Option β:=
 ob (vF avt ls) λq=>dn C N [] [.code body] ⟨ov q.1 0 .nil,.nil,0⟩
noncomputable def Oy[QF](w:Nat)(X:ew)(pt:(β:Type)->FuncId->Option (cx β))(fn:Func)(avt:List VT)(rvt:VT)(lv jv:Nat->Option cK)(un:Nat->Bool):Fn (VT.fP avt) (Option (bL rvt.ks)):=
 lM (VT.fP avt) (WC {X:=X,pt:=pt _,n:=avt.length+(fn.ntmps -avt.length),rs:=fn.results.toList,lv:=lv,jv:=jv,un:=un,df:=false,fuel:=w,an:=0,hU:=λsv st=>zp st rvt sv (dec rvt.ks),lO:=λ_ _=>bC 52} 100000 avt (fn.body.getD .skip))
def jn(P:Program)(pt:(β:Type)->FuncId->Option (cx β)):Prop:=∀β,mV P (pt β)
theorem ga{P:Program}:jn P (λ_ _=>none):=λ_ g e h=>by cases h
theorem zf{β:Type}{P:Program}{C:Ctx β}{fn:Func}{g:FuncId}{B:Bs}{b:β}{args:Array Value}{w:World}{R:Ending->World->Prop}(hf:P.funcs[g]? =some fn)(hb:fn.body=some (fn.body.getD .skip))(hd:C.df=false)(hB:B.dJ=[])
 (G:mT P [.code (fn.body.getD .skip)] (tX P C fn B b) {tmps:=args++Array.replicate (fn.ntmps -args.size) undef,defers:=[]} w)
 (k:∀{σ:Ren}{st:St}{sv:SV}{a:Act}{w':World}{v:Value},dt B σ st a w'->DV σ sv v->(C.hU sv st=some b->R (.returned v) w')/\(C.lO sv st=some b->R (.panicked [pe v]) w')):Calls P g args w R:=by
 refine calls_of_wp hf hb (wp_mono (λb k cs=>G b k cs) λx a w' q=>?_)
 cases x with
 |panic ch=>
  obtain⟨σ,st,sv,v,r,kp,rfl,d⟩:=q
  exact⟨r.dJ.trans hB,(k r d).2 kp⟩
 |normal=>
  obtain⟨σ,st,sv,r,kr,q⟩:=q
  rw[hd] at q
  obtain⟨v,q1,q2⟩:=q
  exact⟨r.dJ.trans hB,v,q1,(k r q2).1 kr⟩
 |ret=>
  obtain⟨σ,st,sv,r,kr,q⟩:=q
  rw[hd] at q
  obtain⟨v,q1,q2⟩:=q
  exact⟨r.dJ.trans hB,v,q1,(k r q2).1 kr⟩
 |_=>exact q.elim
theorem jP[QF]{P:Program}{X:ew}(OK:iH P X)(mx:P.follows .mixedOrders=true){pt:(β:Type)->FuncId->Option (cx β)}(PT:jn P pt){g:FuncId}{fn:Func}{avt:List VT}{rvt:VT}{lv jv:Nat->Option cK}{un:Nat->Bool}{w:Nat}{Sh:Fn (VT.fP avt) (Option (bL rvt.ks))}
 (hF:X.F.get g=some fn) (hb:fn.body=some (fn.body.getD .skip)) (hS:Sh=Oy w X pt fn avt rvt lv jv un):cg P g avt rvt Sh:=by
 intro ls r e lo us hu m args' w0 K A
 subst hS
 have e1:=mX _ _ _ _ e
 obtain⟨⟨svs,rest⟩,h1,e2⟩:=ar e1
 obtain⟨_,q1,_⟩:=wH avt ls _ _ _ _ lo hu h1
 have hl:args'.size=avt.length:=by rw[<-Ig _ _ _ _ hu,<-Array.length_toList];exact A.1.symm
 refine zf (B:=⟨w0,λ_=>False,m,0,λ_=>none,avt.length+(fn.ntmps -avt.length),[]⟩) (OK.F _ _ hF).1 hb rfl rfl (sF OK mx (PT _) rfl rfl rfl _ _ _ _ _ e2 (λr hr=>by cases hr) (σ:=⟨λ_=>none,m⟩) ⟨by simp[hl],rfl,sL (BJ (q1 A) (dJ:=[])),Mem.start K⟩) λR d=>⟨λkr=>?_,λkp=>by cases kp⟩
 obtain⟨ls',f1,f3⟩:=IP _ _ _ _ kr
 obtain⟨pv,g1,g3⟩:=f3 []
 rw[dX,<-pI _ _ _ f1] at g1
 obtain⟨z1,z2⟩:=g3 (Mem.Uv K R.mem) d
 rw[<-pI _ _ _ f1] at z2
 exact⟨_,rfl,R.mem.base.below,pv,g1,z2,z1⟩
end
theorem Mem.kn{B:Bs}{σ:Ren}{G A:Nat->SO->Prop}{F:Nat->Prop}{w:World}(M:Mem B σ G F w):Kn (km σ A w) w:=λb i v h=>by
 unfold km at h
 split at h
 ·exact h
 ·exact M.lit b i v h
section
variable{β:Type}
def Io(avt:List VT)(rvt:VT)(Sh:Fn (VT.fP avt) (Option (bL rvt.ks))):cx β:=λst args K=>
 cond (pY rvt)
  (rj st avt args λls=>ob (iz (VT.fP avt) Sh ls) λr=>ob (GL rvt (gH rvt.ks r)) λq=>K false q.1 st)
  (rj {st with h:=(iX 1000 (SV.jR args) .nil st.h).1 } avt args λls=>ob (iz (VT.fP avt) Sh ls) λr=>ob (GL rvt (gH rvt.ks r)) λq=>K false q.1 {st with h:=(iX 1000 (SV.jR args) .nil st.h).2 })
theorem XJ{P:Program}{g:FuncId}{avt:List VT}{rvt:VT}{Sh:Fn (VT.fP avt) (Option (bL rvt.ks))}(F:cg P g avt rvt Sh):mh P g (Io (β:=β) avt rvt Sh):=by
 intro st args K b e
 unfold Io at e
 cases hs:pY rvt with
 |true=>
  rw[hs] at e
  obtain⟨ls,h1,h3⟩:=uE _ _ _ _ e
  obtain⟨r,k1,h1⟩:=ar h1
  obtain⟨⟨sv,rest⟩,k2,h1⟩:=ar h1
  obtain⟨us,p1,p3⟩:=h3 []
  rw[dX] at p1
  refine⟨false,sv,st,h1,rfl,aK _,λ{B σ Fr w} _ M args' d=>?_⟩
  obtain⟨A,lo⟩:=p3 (M.seen λ_ _ h=>h) d
  refine Calls.mono (F ls r k1 lo us p1 _ args' w M.kn A) λx w' ⟨v',e1,Bl,pv,g1,g2,g3⟩=>?_
  obtain⟨_,q,_⟩:=Ii _ _ _ _ _ _ g2 g1 k2
  exact⟨σ,v',e1,Ext.refl _,q (Ut _ _ _ _ hs g1 _ _ _ g3),(M.same (.JE Bl)).less (λ_ _ h=>h) λ_ h=>h.1⟩
 |false=>
  rw[hs] at e
  obtain⟨m1,m2⟩:=wY 1000 (SV.jR args) .nil st.h (λid so q=>by rw[Tr.get_nil] at q;cases q) (λid so q=>⟨q,Tr.get_nil _⟩)
  generalize hA:(iX 1000 (SV.jR args) .nil st.h).1 =A at e m1 m2
  generalize hB:(iX 1000 (SV.jR args) .nil st.h).2 =Bh at e m1 m2
  obtain⟨ls,h1,h3⟩:=uE _ _ _ _ e
  obtain⟨r,k1,h1⟩:=ar h1
  obtain⟨⟨sv,rest⟩,k2,h1⟩:=ar h1
  obtain⟨us,p1,p3⟩:=h3 []
  rw[dX] at p1
  refine⟨false,sv,{st with h:=Bh},h1,rfl,aK _,λ{B σ Fr w} _ M args' d=>?_⟩
  obtain⟨E,M1⟩:=M.zu (A:=hG A) (G':=hG Bh) (λi s h=>(m1 i s h).1) (λi s h=>⟨s,(m2 i s h).1,λs' q=>by have:=(m2 i s h).2;rw[show A.get i=some s' from q] at this;cases this⟩) λE i s h=>(M.obj i s (m2 i s h).1).mono E λ_ _ _=>rfl
  obtain⟨A',lo⟩:=p3 (M.seen λi s h=>(m1 i s h).1) d
  have K:Kn (km σ (hG A) w) w:=M.kn
  refine Calls.mono (F ls r k1 lo us p1 _ args' w K A') λx w' ⟨v',e1,Bl,pv,g1,g2,g3⟩=>?_
  obtain⟨_,q,_⟩:=Ii _ _ _ _ _ _ g2 g1 k2
  have M2:=M1.lits (.JE Bl) (m:=cN (km σ (hG A) w) w w') K.mono (K.new Bl) λb i v h=>by
   unfold cN at h
   split at h
   ·exact .inl h
   ·rename_i z;exact .inr (Nat.not_lt.1 z)
  exact⟨⟨σ.nm,cN (km σ (hG A) w) w w'⟩,v',e1,E.trans ⟨λ_ _ h=>h,K.mono⟩,q g3,M2.less (λ_ _ h=>h) λ_ h=>h.1⟩
end
mutual
def fits(st:St):VT->SV->Bool
 | .i k,.i k' _=>decide (k=k')
 | .b,.b _=>true
 | .s,.s _=>true
 | .v,.v _=>true
 | .v,.nl=>true
 | .v,.ni=>true
 | .v,.gr _ _=>true
 | .v,.sl _ _ _ _=>true
 | .agg ts,.agg l=>uC st ts l
 | .aH ts,.aH l=>uC st ts l
 | .fn f ts,.fn f' l=>Nat.beq f f'&&uC st ts l
 | .em b,.em b'=>b==b'
 | .nf,.v .nilFunc=>true
 | .lp _,.lp _=>true
 | .lp ts,.ptr id off=>match st.h.get id with
  |some (.cells c _)=>uC st ts (c.drop off)
  |_=>false
 |_,_=>false
def uC(st:St):List VT->List SV->Bool
 |[],[]=>true
 |t::ts,x::xs=>fits st t x&&uC st ts xs
 |_,_=>false
end
def Ks(pt:(β:Type)->FuncId->Option (cx β))(g:FuncId)(avt:List VT)(rvt:VT)(Sh:Fn (VT.fP avt) (Option (bL rvt.ks))):(β:Type)->FuncId->Option (cx β):=
 λβ f=>cond (Nat.beq f g) (some λst args K=>cond (uC st avt args) (Io avt rvt Sh st args K) (ob (pt β f) λe=>e st args K)) (pt β f)
theorem cG{P:Program}{pt:(β:Type)->FuncId->Option (cx β)}(PT:jn P pt){g:FuncId}{avt:List VT}{rvt:VT}{Sh:Fn (VT.fP avt) (Option (bL rvt.ks))}(F:cg P g avt rvt Sh):jn P (Ks pt g avt rvt Sh):=by
 intro β f e h
 unfold Ks at h
 cases hb:Nat.beq f g with
 |true=>
  rw[hb] at h
  have hg:=bU hb
  subst hg
  cases h
  intro st args K b k
  cases hf:uC st avt args with
  |true=>
   simp[hf] at k
   exact XJ F st args K b k
  |false=>
   simp[hf] at k
   obtain⟨e0,h0,k⟩:=ar k
   exact PT β f e0 h0 st args K b k
 |false=>
  rw[hb] at h
  exact PT β f e h
theorem IL{P:Program}{g:FuncId}{Sh0:Fn (VT.fP [.v]) (Option (bL (VT.ks .v)))}(F:cg P g [.v] .v Sh0)(Fz:cg P g [.em false] .v (some (ae 0 [])))(Fn:cg P g [.em true] .v (some (ae 0 []))):
 cg P g [.v] .v (λx=>aq x λn=>cond (Nat.beq n 0) (some (ae 0 [])) (Sh0 x)):=by
 intro ls r e lo us hu
 have hls:∃x,ls=[.v x]:=by
  cases ls with
  |nil=>cases e
  |cons l ls=>
   cases l with
   |v x=>
    cases ls with
    |nil=>simp
    |cons _ _=>cases hu
   |_=>cases e
 obtain⟨x,rfl⟩:=hls
 have e:(aq x λn=>cond (Nat.beq n 0) (some (ae 0 [])) (Sh0 x))=some r:=e
 unfold aq at e
 split at e
 ·rename_i n p f cs ys hxx
  replace e:cond (Nat.beq n 0) (some (ae 0 [])) (iz (VT.fP [.v]) Sh0 [.v (.func (.via n p f true) cs ys)])=some r:=e
  cases hn:Nat.beq n 0 with
  |false=>rw[hn] at e;exact F _ r e lo us hu
  |true=>
   have hn:=bU hn
   subst hn
   cases e
   cases hu
   intro m args' w K A
   obtain⟨y,l,h1,h2,h3⟩:=A.inv
   have h3:=h3.eA
   subst h3
   have key:∃a c,y=.slice a 0 c:=by cases h2<;>exact⟨_,_,rfl⟩
   obtain⟨a,c,rfl⟩:=key
   cases a with
   |none=>exact Fn [] (ae 0 []) rfl fg.nil [CQ true] rfl m args' w K (by rw[h1];exact .cons .Aa .nil)
   |some a=>exact Fz [] (ae 0 []) rfl fg.nil [CQ false] rfl m args' w K (by rw[h1];exact .cons .B4 .nil)
 ·cases e
end
section
set_option linter.unusedVariables false
set_option linter.unusedSimpArgs false
set_option linter.unusedSectionVars false
set_option linter.constructorNameAsVariable false
variable{β:Type}
structure HT where
 n:Nat
 ti:cK
 an:Nat
 to:cK
theorem zZ{t:cK}{ls:List bo}{st:St}(e:ib t ls=some st):st.sx=t.sx:=by
 obtain⟨p,h1,e⟩:=ar e
 obtain⟨q,h2,e⟩:=ar e
 grind
def tJ(t:cK):VT:=match t.Gz with
 |(_,v)::_=>v
 |[]=>.b
def D7:Nat->VT->Bool
 |0,_=>false
 |f+1,t=>match t with
  | .agg l=>l.all (D7 f)
  | .aH l=>l.all (D7 f)
  | .i _=>true
  | .b=>true
  | .s=>true
  | .v=>true
  |_=>false
def wP:Nat->SV->List Nat
 |0,_=>[]
 |f+1,x=>match x with
  | .agg l=>l.flatMap (wP f)
  | .aH l=>l.flatMap (wP f)
  | .gr id _=>[id]
  |_=>[]
def tM(h:Tr SO):List Nat->Tr SO
 |[]=>.nil
 |i::l=>match h.get i with
  |some s=>(tM h l).set i s
  |none=>tM h l
def ur(h:Tr SO):List Nat->Tr SO
 |[]=>h
 |i::l=>(ur h l).del i
theorem BP{h:Tr SO}{i:Nat}{s:SO}:∀{l:List Nat},(tM h l).get i=some s->h.get i=some s/\i∈l
 |[],q=>by
  have q:(Tr.nil:Tr SO).get i=some s:=q
  rw[Tr.get_nil] at q;cases q
 |j::l,q=>by
  unfold tM at q
  split at q
  ·rename_i s' hs
   rw[Tr.fE] at q
   by_cases z:i=j
   ·grind
   ·rw[ai z] at q
    have:=BP q
    simp_all
  ·have:=BP q
   grind
theorem CL{h:Tr SO}{i:Nat}{s:SO}:∀{l:List Nat},(ur h l).get i=some s->h.get i=some s/\i∉l
 |[],q=>⟨q,by simp⟩
 |j::l,q=>by
  have q:((ur h l).del j).get i=some s:=q
  rw[Tr.rk] at q
  by_cases z:i=j
  ·grind
  ·rw[ai z] at q
   have:=CL q
   grind
def u9(h:Tr SO):Nat->SV->Option SV
 |0,_=>none
 |f+1,x=>match x with
  | .agg l=>ob (sN (u9 h f) l) λp=>some (.agg p)
  | .aH l=>ob (sN (u9 h f) l) λp=>some (.aH p)
  | .i k n=>some (.i k n)
  | .b q=>some (.b q)
  | .s q=>some (.s q)
  |x=>ob (gv h 1 x) λu=>some (.v u)
def rz(t:VT)(sv:SV)(st:St)(K:SV->St->Option β):Option β:=match t,sv with
 | .aH ts,.aH l=>cond (D7 5 (.aH ts)&&!(wP 5 (.aH l)).isEmpty) (ob (u9 (tM st.h (wP 5 (.aH l))) 5 (.aH l)) λp=>K p {st with h:=ur st.h (wP 5 (.aH l))}) (K (.aH l) st)
 | .v,.gr id E=>ob (u9 (tM st.h [id]) 1 (.gr id E)) λp=>K p {st with h:=ur st.h [id]}
 |_,sv=>K sv st
theorem K4{σ:Ren}{m:Nat->Nat->Option Value}{h:Tr SO}{w:World}(S:Seen σ m h w):∀(f:Nat)(x x':SV)(v:Value),u9 h f x=some x'->DV σ x v->DV ⟨σ.nm,m⟩ x' v
 |0,x,p,v,e,_=>by cases e
 |f+1,x,p,v,e,d=>by
  unfold u9 at e
  split at e
  ·obtain⟨q,h1,e⟩:=ar e
   cases e
   cases d with
   |agg hl ds=>have q:=uF (λx u v=>K4 S f x u v) h1 ⟨hl,ds⟩;exact .agg q.1 q.2
  ·obtain⟨q,h1,e⟩:=ar e
   cases e
   cases d with
   |aH hl ds=>have q:=uF (λx u v=>K4 S f x u v) h1 ⟨hl,ds⟩;exact .aH q.1 q.2
  ·cases e;cases d;exact .i _ _
  ·cases e;cases d;exact .b _
  ·cases e;cases d;exact .s _
  ·obtain⟨u,h1,e⟩:=ar e
   cases e
   obtain⟨a,b⟩:=nS S 1 _ _ _ h1 d
   exact .v a b
theorem Ep{t:VT}{sv:SV}{st:St}{K:SV->St->Option β}{b:β}(e:rz t sv st K=some b):
 ∃sv2 st2,K sv2 st2=some b/\∀{B:Bs}{σ:Ren}{w:World}{v:Value},DV σ sv v->iP B σ st.h st.sx w->∃σ',DV σ' sv2 v/\iP B σ' st2.h st2.sx w:=by
 have key:∀{ids:List Nat}{f:Nat}{p:SV},u9 (tM st.h ids) f sv=some p->∀{B:Bs}{σ:Ren}{w:World}{v:Value},DV σ sv v->iP B σ st.h st.sx w->∃σ',DV σ' p v/\iP B σ' (ur st.h ids) st.sx w:=λ{ids f p} h B σ w v d M=>
  ⟨_,K4 (M.seen λi s h=>(BP h).1) _ _ _ _ h d,(M.zu (A:=hG (tM st.h ids)) (G':=hG (ur st.h ids)) (λi s h=>(BP h).1) (λi s h=>⟨s,(CL h).1,λs' q=>(CL h).2 (BP q).2⟩) λE i s h=>(M.obj i s (CL h).1).mono E λ_ _ _=>rfl).2⟩
 unfold rz at e
 split at e
 ·rename_i ts l
  generalize wP 5 (.aH l)=ids at e
  cases hc:D7 5 (.aH ts)&&!ids.isEmpty with
  |false=>rw[hc] at e;exact⟨_,_,e,λd M=>⟨_,d,M⟩⟩
  |true=>
   rw[hc] at e
   obtain⟨p,h1,f⟩:=ar e
   exact⟨_,_,f,key h1⟩
 ·obtain⟨p,h1,f⟩:=ar e
  exact⟨_,_,f,key h1⟩
 ·exact⟨_,_,e,λd M=>⟨_,d,M⟩⟩
def B8(P:Program)(g:FuncId)(n an:Nat)(st so:St)(p:Bool):Prop:=∀{B:Bs}{σ:Ren}{w:World}(args':Array Value),args'.size=n->B.an=an->Ev σ st.tm ⟨args',[]⟩->iP B σ st.h st.sx w->
 Calls P g args' w λx w'=>∃σ' v,x=End p v/\(∀sv,so.tm.get 0=some sv->DV σ' sv v)/\iP B σ' so.h so.sx w'
def lI(P:Program)(g:FuncId)(T:HT)(Sh:Fn T.ti.ks (Option (bL T.to.ks))):Prop:=
 ∀ls r st so,iz T.ti.ks Sh ls=some r->ib T.ti ls=some st->ib T.to (gH T.to.ks r)=some so->B8 P g T.n T.an st so false
theorem Mem.nd{B:Bs}{σ:Ren}{G:Nat->SO->Prop}{F:Nat->Prop}{w:World}{n:Nat}{dJ:List Deferred}(M:Mem B σ G F w):Mem {B with n:=n,dJ:=dJ} σ G F w:=⟨M.obj,M.inj,M.fresh,M.lit,M.free,M.base,M.owned,M.lQ,M.ke,M.nk⟩
theorem xk{B:Bs}{to:cK}{sv:SV}{st so:St}{K:List bo->Option β}{b:β}{L:List bo}(e:kL B.an to ⟨Tr.nil.set 0 sv,st.h,st.sx⟩ K=some b)(hL:∀ls,K ls=some b->L=ls)(hso:ib to L=some so){σ:Ren}{w:World}{v:Value}(d:DV σ sv v)(M:iP B σ st.h st.sx w):
 ∃σ',(∀sv,so.tm.get 0=some sv->DV σ' sv v)/\iP B σ' so.h so.sx w:=by
 obtain⟨ls,q1,st',q2,_,q4⟩:=uw e
 rw[hL _ q1,q2] at hso
 cases hso
 obtain⟨σ',z1,z2⟩:=q4 (σ:=σ) (a:=⟨#[v],[]⟩) (w:=w) (λt x h=>by
  rw[Tr.fE] at h
  split at h
  ·rename_i q;subst q;cases h;exact d
  ·rw[Tr.get_nil] at h;cases h) M
 exact⟨σ',λx h=>z1 0 x h,z2⟩
noncomputable def Ox[QF](w:Nat)(X:ew)(pt:(β:Type)->FuncId->Option (cx β))(fn:Func)(T:HT)(lv jv:Nat->Option cK)(un:Nat->Bool):Fn T.ti.ks (Option (bL T.to.ks)):=
 lM T.ti.ks λls=>ob (ib T.ti ls) λst=>dn {X:=X,pt:=pt _,n:=T.n+(fn.ntmps -T.n),rs:=fn.results.toList,lv:=lv,jv:=jv,un:=un,df:=false,fuel:=w,an:=T.an,hU:=λsv st=>rz (tJ T.to) sv st λsv st=>kL T.an T.to ⟨Tr.nil.set 0 sv,st.h,st.sx⟩ (dec T.to.ks),lO:=λ_ _=>bC 52} 100000 [] [.code (fn.body.getD .skip)] st
theorem sM[QF]{P:Program}{X:ew}(OK:iH P X)(mx:P.follows .mixedOrders=true){pt:(β:Type)->FuncId->Option (cx β)}(PT:jn P pt){g:FuncId}{fn:Func}{T:HT}{lv jv:Nat->Option cK}{un:Nat->Bool}{w:Nat}{Sh:Fn T.ti.ks (Option (bL T.to.ks))}
 (hF:X.F.get g=some fn) (hb:fn.body=some (fn.body.getD .skip)) (hS:Sh=Ox w X pt fn T lv jv un):lI P g T Sh:=by
 intro ls r st so e hst hso B σ w0 args' hn ha ev M
 subst hS
 have e1:=mX _ _ _ _ e
 obtain⟨st1,g1,e2⟩:=ar e1
 rw[hst] at g1
 cases g1
 refine zf (B:={B with n:=T.n+(fn.ntmps -T.n),dJ:=[]}) (OK.F _ _ hF).1 hb rfl rfl (sF OK mx (PT _) rfl rfl ha _ _ _ _ _ e2 (λr hr=>by cases hr) ⟨by simp[hn],rfl,sL ev,M.nd⟩) λR d=>⟨λkr=>?_,λkp=>by cases kp⟩
 obtain⟨sv2,st2,k1,k2⟩:=Ep (t:=tJ T.to) (K:=λsv st=>kL T.an T.to ⟨Tr.nil.set 0 sv,st.h,st.sx⟩ (dec T.to.ks)) kr
 obtain⟨σ2,d2,M2⟩:=k2 d R.mem.nd
 obtain⟨σ3,z1,z2⟩:=xk (B:=B) (by rw[ha];exact k1) (λls q=>pI _ _ _ q) hso d2 M2
 exact⟨σ3,_,rfl,z1,z2⟩
mutual
def o9(f:Nat->Nat):SV->SV
 | .ptr id off=>.ptr (f id) off
 | .sl id off n c=>.sl (f id) off n c
 | .gr id E=>.gr (f id) E
 | .agg l=>.agg (tb f l)
 | .aH l=>.aH (tb f l)
 | .fn g l=>.fn g (tb f l)
 | .fF t x=>.fF t (o9 f x)
 | .em b=>.em b
 | .ni=>.ni
 | .mp id=>.mp (f id)
 | .i k n=>.i k n
 | .b x=>.b x
 | .s x=>.s x
 | .v x=>.v x
 | .nl=>.nl
 | .lp c=>.lp c
def tb(f:Nat->Nat):List SV->List SV
 |[]=>[]
 |x::xs=>o9 f x::tb f xs
end
def Ee(f:Nat->Nat):SO->SO
 | .cells c t=>.cells (tb f c) t
 | .arr c t=>.arr c t
 | .grow E c t=>.grow E c t
 | .mp es=>.mp (es.map λe=>(e.1,o9 f e.2))
theorem TX{f:Nat->Nat}:∀l:List SV,tb f l=l.map (o9 f)
 |[]=>rfl
 |x::l=>by unfold tb;rw[TX l];rfl
theorem Ef{σ':Ren}{f:Nat->Nat}{l:List SV}{ys:List Value}(hl:l.length=ys.length)(ih:∀(i:Nat) x y,l[i]? =some x->ys[i]? =some y->DV σ' (o9 f x) y):eP σ' (tb f l) ys:=by
 rw[TX]
 refine⟨by simp[hl],λi x y a b=>?_⟩
 rw[List.getElem?_map] at a
 obtain⟨x',a1,rfl⟩:=Option.map_eq_some_iff.1 a
 exact ih i x' y a1 b
theorem KO{σ σ':Ren}{f:Nat->Nat}(hl:σ'.lit=σ.lit)(e:∀k x,σ.nm k=some x->σ'.nm (f k)=some x){x:SV}{v:Value}(d:DV σ x v):DV σ' (o9 f x) v:=by
 induction d with
 |i=>exact .i _ _
 |b=>exact .b _
 |s=>exact .s _
 |v h h1=>exact .v (hl▸h) h1
 |nl=>exact .nl
 |agg kl _ ih=>have q:=Ef kl ih;exact .agg q.1 q.2
 |aH kl _ ih=>have q:=Ef kl ih;exact .aH q.1 q.2
 |ptr h=>exact .ptr (e _ _ h)
 |lp h=>exact .lp (hl▸h)
 |sl h hn=>exact .sl (e _ _ h) hn
 |jw h=>exact .jw (e _ _ h)
 |gr h hc hn=>exact .gr (e _ _ h) hc hn
 |fn kl _ ih=>have q:=Ef kl ih;exact .fn q.1 q.2
 |fF _ ih=>exact .fF ih
 |em h=>exact .em (hl▸h)
 |ni=>exact .ni
 |mp h=>exact .mp (e _ _ h)
theorem adR{σ σ':Ren}{f:Nat->Nat}(hl:σ'.lit=σ.lit)(e:∀k x,σ.nm k=some x->σ'.nm (f k)=some x){w:World}{k:Nat}{so:SO}(d:DO σ w k so):DO σ' w (f k) (Ee f so):=by
 cases so with
 |cells c t=>obtain⟨o,n,vs,a,b,c⟩:=d;exact⟨o,n,vs,e _ _ a,b,Ef c.1 λi x y h1 h2=>KO hl e (c.2 i x y h1 h2)⟩
 |arr c t=>obtain⟨o,n,vs,a,b,c⟩:=d;exact⟨o,n,vs,e _ _ a,b,hl▸c⟩
 |grow E c t=>
  obtain⟨a,p,g⟩:=d
  refine⟨a,p,?_⟩
  rcases g with⟨g,h⟩|⟨o,n,cs,g,h⟩
  ·exact .inl ⟨e _ _ g,h⟩
  ·exact .inr ⟨o,n,cs,e _ _ g,hl▸h⟩
 |mp es=>
  obtain⟨o,n,es',ck,a,b,c⟩:=d
  refine⟨o,n,es',ck,e _ _ a,b,by simp[c.1],λi x y h1 h2=>?_⟩
  rw[List.getElem?_map] at h1
  obtain⟨x',h3,rfl⟩:=Option.map_eq_some_iff.1 h1
  have q:=c.2 i x' y h3 h2
  exact⟨q.1,KO hl e q.2⟩
def mE(an sx:Nat)(m:Mp)(k:Nat):Nat:=cond (Nat.blt k an) (match dP k m with
 |some (some a)=>a
 |_=>0) (sx+k)
def rp(h:Tr SO):Mp->Bool
 |[]=>true
 |(_,some a)::m=>(match h.get a with|some _=>rp h m|none=>false)
 |(_,none)::m=>rp h m
def sw(m:Mp):Nat->Bool
 |0=>true
 |n+1=>(match dP n m with|some (some _)=>sw m n|_=>false)
def rb:Mp->Tr SO->Tr SO
 |[],h=>h
 |(_,some a)::m,h=>rb m (h.del a)
 |(_,none)::m,h=>rb m h
def qB(f:Nat->Nat)(s:Tr SO):List (Nat×OT)->Tr SO->Tr SO
 |[],h=>h
 |(k,_)::l,h=>match s.get k with
  |some so=>(qB f s l h).set (f k) (Ee f so)
  |none=>qB f s l h
def Pf(T:HT)(Sh:Fn T.ti.ks (Option (bL T.to.ks))):cx β:=λst args K=>
 cond (Nat.beq args.length T.n) (uv [] T.ti ⟨ov args 0 .nil,st.h,st.sx⟩ λls m=>
  cond (rp st.h m&&sw m T.an) (ob (iz T.ti.ks Sh ls) λr=>ob (ib T.to (gH T.to.ks r)) λso=>ob (so.tm.get 0) λsv=>
   K false (o9 (mE T.an st.sx m) sv) ⟨st.tm,qB (mE T.an st.sx m) so.h T.to.pP (rb m st.h),st.sx+T.to.sx⟩) none) none
theorem uO{h:Tr SO}:∀{m:Mp},rp h m=true->∀k a,dP k m=some (some a)->∃so,h.get a=some so
 |[],_,k,a,e=>by cases e
 |(j,x)::m,hl,k,a,e=>by
  rw[qx] at e
  cases x with
  |none=>
   by_cases q:j=k
   ·grind
   ·rw[ai q] at e;exact uO (m:=m) hl k a e
  |some y=>
   unfold rp at hl
   split at hl
   ·rename_i so hso
    by_cases q:j=k
    ·grind
    ·rw[ai q] at e;exact uO hl k a e
   grind
theorem wo{m:Mp}:∀{n:Nat},sw m n=true->∀k,k<n->∃a,dP k m=some (some a)
 |0,_,k,h=>by omega
 |n+1,e,k,h=>by
  unfold sw at e
  split at e
  ·rename_i a ha
   by_cases q:k=n
   ·grind
   ·exact wo e k (by omega)
  grind
def Db(a:Nat):Mp->Prop
 |[]=>False
 |(_,x)::m=>x=some a\/Db a m
theorem H8:∀{m:Mp}{h:Tr SO}{id:Nat}{so:SO},(rb m h).get id=some so->h.get id=some so/\¬Db id m
 |[],h,id,so,e=>⟨e,λh=>h⟩
 |(j,none)::m,h,id,so,e=>by
  obtain⟨a,b⟩:=H8 (m:=m) e
  exact⟨a,λq=>by
   rcases q with q|q
   ·grind
   ·exact b q⟩
 |(j,some x)::m,h,id,so,e=>by
  obtain⟨a,b⟩:=H8 (m:=m) e
  rw[Tr.rk] at a
  by_cases q:id=x
  ·grind
  ·rw[ai q] at a
   exact⟨a,λw=>by
    rcases w with w|w
    ·grind
    ·exact b w⟩
theorem Qg:∀{m:Mp}{k a:Nat},dP k m=some (some a)->Db a m
 |[],k,a,e=>by cases e
 |(j,x)::m,k,a,e=>by
  rw[qx] at e
  by_cases q:j=k
  ·rw[au q] at e;cases e;exact .inl rfl
  ·rw[ai q] at e;exact .inr (Qg e)
theorem KB{f:Nat->Nat}{s:Tr SO}:∀{l:List (Nat×OT)}{h:Tr SO}{id:Nat}{so:SO},(qB f s l h).get id=some so->h.get id=some so\/∃k x,id=f k/\s.get k=some x/\so=Ee f x
 |[],h,id,so,e=>.inl e
 |(k,t)::l,h,id,so,e=>by
  unfold qB at e
  split at e
  ·rename_i x hx
   rw[Tr.fE] at e
   by_cases q:id=f k
   ·grind
   ·rw[ai q] at e;exact KB e
  ·exact KB e
theorem zi{P:Program}{g:FuncId}{an n:Nat}{pP:List (Nat×OT)}{st:St}{args:List SV}{m:Mp}{stT so:St}{sv:SV}{pb:Bool}(hlen:args.length=n)(hinj:kU m)(hsx:∀id x,dP id m=some x->id<stT.sx)
 (h4:∀{σ:Ren}{a:Act}{w:World},Ev σ (ov args 0 .nil) a->(∀id so,st.h.get id=some so->DO σ w id so)->Ev (σm σ m) stT.tm a/\∀id so,stT.h.get id=some so->DO (σm σ m) w id so/\(dP id m=some none\/∃a so',dP id m=some (some a)/\st.h.get a=some so'))
 (L:∀k a,dP k m=some (some a)->∃so,st.h.get a=some so) (A:∀k,k<an->∃a,dP k m=some (some a)) (k3:so.tm.get 0=some sv) (Fg:B8 P g n an stT so pb)
 {B:Bs} {σ:Ren} {F:Nat->Prop} {w:World} (hF:∀id,st.sx<=id->id<st.sx+so.sx->F id) (M:Mem B σ (hG st.h) F w) (args':Array Value) (d:eP σ args args'.toList):
 Calls P g args' w λx w'=>∃σ' v,x=End pb v/\Ext σ σ'/\DV σ' (o9 (mE an st.sx m) sv) v/\Mem B σ' (hG (qB (mE an st.sx m) so.h pP (rb m st.h))) (lN F st.sx (st.sx+so.sx)) w':=by
 let G':Nat->SO->Prop:=λid x=>st.h.get id=some x/\Db id m
 have sG:∀id x,G' id x->hG st.h id x:=λ_ _ h=>h.1
 obtain⟨ev,ob⟩:=h4 (σ:=σ) (a:=⟨args',[]⟩) (w:=w) (BJ d) M.obj
 have MT:iP ⟨w,Own σ G',σ.lit,an,(σm σ m).nm,0,[]⟩ (σm σ m) stT.h stT.sx w:=(M.C3 sG).map hinj hsx (λid x h=>⟨(ob id x h).1,(ob id x h).2.imp_right λ⟨a,s,h1,h2⟩=>⟨a,s,h1,h2,Qg h1⟩⟩) (eI.refl _ _) (λb q=>.inl q) (λ_ _ _ q=>.inl q) (λ_ _ _ q=>q) λ_ _ _ q=>q
 refine Calls.mono (Fg args' (by rw[<-hlen,d.1,Array.length_toList]) rfl ev MT) λx w' ⟨σ2,v,e1,dv,M2⟩=>?_
 generalize hf:mE an st.sx m=f
 let σn:Ren:=⟨λid=>if st.sx<=id/\id<st.sx+so.sx then σ2.nm (id -st.sx) else σ.nm id,σ2.lit⟩
 have E:Ext σ σn:=⟨λid x e=>by
  show(if _ then _ else _)=_
  rw[ai λq=>by rw[M.fresh id (hF id q.1 q.2)] at e;cases e]
  exact e,M2.nk⟩
 have n1:∀k x,σ2.nm k=some x->σn.nm (f k)=some x:=λk x e=>by
  rcases ir k an with hk|hk
  ·obtain⟨a,ha⟩:=A k hk
   obtain⟨s0,hs0⟩:=L k a ha
   have fk:f k=a:=by
    rw[<-hf]
    unfold mE
    rw[show Nat.blt k an=true from B5 hk,aB,ha]
   have hy:∃y,σ.nm a=some y:=(M.obj a s0 hs0).nm.elim (λq=>⟨_,q⟩) λ⟨_,_,q,_⟩=>⟨_,q⟩
   obtain⟨y,hy⟩:=hy
   have:=M2.ke k hk y ((σm_some ha).trans hy)
   rw[e] at this
   cases this
   rw[fk]
   exact E.nm _ _ hy
  ·have lt:k<so.sx:=Nat.not_le.1 λq=>by rw[M2.fresh k q] at e;cases e
   have fk:f k=st.sx+k:=by
    rw[<-hf]
    unfold mE
    rw[show Nat.blt k an=false from Bool.eq_false_iff.2 λq=>by have:=eQ q;omega]
    rfl
   rw[fk]
   show(if _ then _ else _)=_
   rw[au ⟨by omega,by omega⟩,show st.sx+k -st.sx=k by omega]
   exact e
 have back:∀{k y o n},so.h.get k=some y->σn.nm (f k)=some (some o,n)->σ2.nm k=some (some o,n):=λ{k y o n} h1 h2=>by
  rcases(M2.obj k y h1).nm with q|⟨_,_,q,_⟩<;>rw[n1 _ _ q] at h2<;>cases h2
  exact q
 have M3:Mem (AB w (Own σ G') σ.lit) σn (λid x=>∃k y,id=f k/\so.h.get k=some y/\x=Ee f y) (lN F st.sx (st.sx+so.sx)) w':=by
  refine⟨λid x ⟨k,y,h1,h2,h3⟩=>?_,λi j s s' o o' n n' ⟨k,y,h1,h2,_⟩ ⟨k',y',h1',h2',_⟩ p p' q=>?_,λid h=>?_,M2.lit,λb i v q ⟨id,x,o,n,⟨k,y,h1,h2,_⟩,p,r⟩=>?_,M2.base,λb ⟨id,x,o,n,⟨k,y,h1,h2,_⟩,p,r⟩=>?_,M2.lQ,λk hk=>(Nat.not_lt_zero k hk).elim,M2.nk⟩
  ·rw[h1,h3]
   exact adR (σ:=σ2) (σ':=σn) rfl n1 (M2.obj k y h2)
  ·rw[h1] at p⊢;rw[h1'] at p'⊢
   rw[M2.inj _ _ _ _ _ _ _ _ h2 h2' (back h2 p) (back h2' p') q]
  ·show(if _ then _ else _)=_
   rw[ai h.2]
   exact M.fresh id h.1
  ·rw[h1] at p
   exact M2.free b i v q ⟨k,y,o,n,h2,back h2 p,r⟩
  ·rw[h1] at p
   exact M2.owned b ⟨k,y,o,n,h2,back h2 p,r⟩
 refine⟨σn,v,e1,E,KO (σ:=σ2) (σ':=σn) rfl n1 (dv sv k3),(M.frame sG E M3).less (λid x h=>?_) λ_ h=>h⟩
 rcases KB h with q|q
 ·have⟨q1,q2⟩:=H8 q
  exact .inr ⟨q1,λs' z=>q2 z.2⟩
 ·exact .inl q
theorem XI{P:Program}{g:FuncId}{T:HT}{Sh:Fn T.ti.ks (Option (bL T.to.ks))}(F:lI P g T Sh):mh P g (Pf (β:=β) T Sh):=by
 intro st args K b e
 obtain⟨hlen,e⟩:=aY e
 obtain⟨ls,m,h1,_,hinj,hsx,stT,h2,h3,h4⟩:=CX (λi j a q=>by cases q) e
 obtain⟨hl,h1⟩:=aY h1
 rw[bt] at hl
 obtain⟨r,k1,h1⟩:=ar h1
 obtain⟨so,k2,h1⟩:=ar h1
 obtain⟨sv,k3,h1⟩:=ar h1
 have sx:=zZ k2
 rw[<-sx] at h1
 exact⟨false,_,_,h1,rfl,Nat.le_add_right _ _,λhF M args' d=>zi (bU hlen) hinj (by rw[h3];exact hsx) h4 (uO hl.1) (wo hl.2) k3 (F ls r stT so k1 h2 k2) hF M args' d⟩
def PH(T:HT)(st:St)(args:List SV):Bool:=cond (Nat.beq args.length T.n) ((uv (β:=Unit) [] T.ti ⟨ov args 0 .nil,st.h,st.sx⟩ λ_ m=>cond (rp st.h m&&sw m T.an) (some ()) none).isSome) false
def Kt(pt:(β:Type)->FuncId->Option (cx β))(g:FuncId)(T:HT)(Sh:Fn T.ti.ks (Option (bL T.to.ks))):(β:Type)->FuncId->Option (cx β):=
 λβ f=>cond (Nat.beq f g) (some λst args K=>cond (PH T st args) (Pf T Sh st args K) (ob (pt β f) λe=>e st args K)) (pt β f)
theorem lA{P:Program}{pt:(β:Type)->FuncId->Option (cx β)}(PT:jn P pt){g:FuncId}{T:HT}{Sh:Fn T.ti.ks (Option (bL T.to.ks))}(F:lI P g T Sh):jn P (Kt pt g T Sh):=by
 intro β f e h
 unfold Kt at h
 cases hb:Nat.beq f g with
 |true=>
  rw[hb] at h
  have hg:=bU hb
  subst hg
  cases h
  intro st args K b k
  cases hf:PH T st args with
  |true=>
   simp[hf] at k
   exact XI F st args K b k
  |false=>
   simp[hf] at k
   obtain⟨e0,h0,k⟩:=ar k
   exact PT β f e0 h0 st args K b k
 |false=>
  rw[hb] at h
  exact PT β f e h
def pM{α:Type}(z:α)(F:α->α)(n:Nat):α:=Nat.rec z (λ_ r=>F r) n
theorem X8{P:Program}{g:FuncId}{T:HT}:lI P g T (kB T.ti.ks):=λ_ _ _ _ e=>(yL _ _ _ e).elim
theorem Ya{P:Program}{g:FuncId}{avt:List VT}{rvt:VT}:cg P g avt rvt (kB (VT.fP avt)):=λ_ _ e=>(yL _ _ _ e).elim
theorem PM{P:Program}{g:FuncId}{T:HT}{F:Fn T.ti.ks (Option (bL T.to.ks))->Fn T.ti.ks (Option (bL T.to.ks))}(h:∀r,lI P g T r->lI P g T (F r))(n:Nat):lI P g T (pM (kB T.ti.ks) F n):=by
 induction n with
 |zero=>exact X8
 |succ n ih=>exact h _ ih
theorem X9{P:Program}{g:FuncId}{avt:List VT}{rvt:VT}{F:Fn (VT.fP avt) (Option (bL rvt.ks))->Fn (VT.fP avt) (Option (bL rvt.ks))}(h:∀r,cg P g avt rvt r->cg P g avt rvt (F r))(n:Nat):cg P g avt rvt (pM (kB (VT.fP avt)) F n):=by
 induction n with
 |zero=>exact Ya
 |succ n ih=>exact h _ ih
end
section
set_option linter.unusedVariables false
set_option linter.unusedSimpArgs false
set_option linter.unusedSectionVars false
set_option linter.constructorNameAsVariable false
variable{β:Type}
structure PT where
 n:Nat
 ti:cK
 an:Nat
 to:cK
 tp:cK
def PT.out(T:PT)(p:Bool):cK:=cond p T.tp T.to
def sd(P:Program)(g:FuncId)(T:PT)(Sh:Fn T.ti.ks (Option (bL T.to.ks⊕bL T.tp.ks))):Prop:=
 ∀ls r st,iz T.ti.ks Sh ls=some r->ib T.ti ls=some st->∀(p:Bool)(l:List bo) so,(match r with| .inl a=>p=false/\l=gH T.to.ks a| .inr a=>p=true/\l=gH T.tp.ks a)->ib (T.out p) l=some so->B8 P g T.n T.an st so p
noncomputable def Oz[QF](w:Nat)(X:ew)(pt:(β:Type)->FuncId->Option (cx β))(fn:Func)(T:PT)(lv jv:Nat->Option cK)(un:Nat->Bool):Fn T.ti.ks (Option (bL T.to.ks⊕bL T.tp.ks)):=
 lM T.ti.ks λls=>ob (ib T.ti ls) λst=>dn {X:=X,pt:=pt _,n:=T.n+(fn.ntmps -T.n),rs:=fn.results.toList,lv:=lv,jv:=jv,un:=un,df:=false,fuel:=w,an:=T.an,hU:=λsv st=>rz (tJ T.to) sv st λsv st=>kL T.an T.to ⟨Tr.nil.set 0 sv,st.h,st.sx⟩ λls=>ob (dec T.to.ks ls) λa=>some (.inl a),lO:=λsv st=>kL T.an T.tp ⟨Tr.nil.set 0 sv,st.h,st.sx⟩ λls=>ob (dec T.tp.ks ls) λa=>some (.inr a)} 100000 [] [.code (fn.body.getD .skip)] st
theorem PN[QF]{P:Program}{X:ew}(OK:iH P X)(mx:P.follows .mixedOrders=true){pt:(β:Type)->FuncId->Option (cx β)}(PTO:jn P pt){g:FuncId}{fn:Func}{T:PT}{lv jv:Nat->Option cK}{un:Nat->Bool}{w:Nat}{Sh:Fn T.ti.ks (Option (bL T.to.ks⊕bL T.tp.ks))}
 (hF:X.F.get g=some fn) (hb:fn.body=some (fn.body.getD .skip)) (hS:Sh=Oz w X pt fn T lv jv un):sd P g T Sh:=by
 intro ls r st e hst p l so hr hso B σ w0 args' hn ha ev M
 subst hS
 have e1:=mX _ _ _ _ e
 obtain⟨st1,g1,e2⟩:=ar e1
 rw[hst] at g1
 cases g1
 refine zf (B:={B with n:=T.n+(fn.ntmps -T.n),dJ:=[]}) (OK.F _ _ hF).1 hb rfl rfl (sF OK mx (PTO _) rfl rfl ha _ _ _ _ _ e2 (λr hr=>by cases hr) ⟨by simp[hn],rfl,sL ev,M.nd⟩) λR d=>⟨λkr=>?_,λkp=>?_⟩
 ·obtain⟨sv2,st2,k1,k2⟩:=Ep (β:=bL T.to.ks⊕bL T.tp.ks) (t:=tJ T.to) (K:=λsv st=>kL T.an T.to ⟨Tr.nil.set 0 sv,st.h,st.sx⟩ λls=>ob (dec T.to.ks ls) λa=>some (.inl a)) kr
  obtain⟨σ2,d2,M2⟩:=k2 d R.mem.nd
  replace k1:kL T.an T.to ⟨Tr.nil.set 0 sv2,st2.h,st2.sx⟩ (λls=>ob (dec T.to.ks ls) λa=>some (Sum.inl a))=some r:=k1
  cases r with
  |inl a=>
   obtain⟨rfl,rfl⟩:=hr
   obtain⟨σ3,z1,z2⟩:=xk (B:=B) (by rw[ha];exact k1) (λls q=>by obtain⟨a',q1,q2⟩:=ar q;cases q2;exact pI _ _ _ q1) hso d2 M2
   exact⟨σ3,_,rfl,z1,z2⟩
  |inr a=>
   obtain⟨ls',q1,_⟩:=uw (B:=B) (by rw[ha];exact k1)
   obtain⟨a',_,q2⟩:=ar q1
   cases q2
 ·replace kp:kL T.an T.tp ⟨Tr.nil.set 0 _,_,_⟩ (λls=>ob (dec T.tp.ks ls) λa=>some (Sum.inr a))=some r:=kp
  cases r with
  |inl a=>
   obtain⟨ls',q1,_⟩:=uw (B:=B) (by rw[ha];exact kp)
   obtain⟨a',_,q2⟩:=ar q1
   cases q2
  |inr a=>
   obtain⟨rfl,rfl⟩:=hr
   obtain⟨σ3,z1,z2⟩:=xk (B:=B) (by rw[ha];exact kp) (λls q=>by obtain⟨a',q1,q2⟩:=ar q;cases q2;exact pI _ _ _ q1) hso d R.mem.nd
   exact⟨σ3,_,rfl,z1,z2⟩
def dc{α γ δ:Type}(r:α⊕γ)(f:α->δ)(g:γ->δ):δ:=match r with
 | .inl a=>f a
 | .inr a=>g a
def Pg(T:PT)(Sh:Fn T.ti.ks (Option (bL T.to.ks⊕bL T.tp.ks))):cx β:=λst args K=>
 cond (Nat.beq args.length T.n) (uv [] T.ti ⟨ov args 0 .nil,st.h,st.sx⟩ λls m=>
  cond (rp st.h m&&sw m T.an) (ob (iz T.ti.ks Sh ls) λr=>dc r
   (λa=>ob (ib T.to (gH T.to.ks a)) λso=>ob (so.tm.get 0) λsv=>K false (o9 (mE T.an st.sx m) sv) ⟨st.tm,qB (mE T.an st.sx m) so.h T.to.pP (rb m st.h),st.sx+T.to.sx⟩)
   (λa=>ob (ib T.tp (gH T.tp.ks a)) λso=>ob (so.tm.get 0) λsv=>K true (o9 (mE T.an st.sx m) sv) ⟨st.tm,qB (mE T.an st.sx m) so.h T.tp.pP (rb m st.h),st.sx+T.tp.sx⟩)) none) none
theorem XK{P:Program}{g:FuncId}{T:PT}{Sh:Fn T.ti.ks (Option (bL T.to.ks⊕bL T.tp.ks))}(F:sd P g T Sh):mh P g (Pg (β:=β) T Sh):=by
 intro st args K b e
 obtain⟨hlen,e⟩:=aY e
 obtain⟨ls,m,h1,_,hinj,hsx,stT,h2,h3,h4⟩:=CX (λi j a q=>by cases q) e
 obtain⟨hl,h1⟩:=aY h1
 rw[bt] at hl
 obtain⟨r,k1,h1⟩:=ar h1
 cases r with
 |inl a=>
  obtain⟨so,k2,h1⟩:=ar h1
  obtain⟨sv,k3,h1⟩:=ar h1
  have sx:=zZ k2
  rw[<-sx] at h1
  exact⟨false,_,_,h1,rfl,Nat.le_add_right _ _,λhF M args' d=>zi (bU hlen) hinj (by rw[h3];exact hsx) h4 (uO hl.1) (wo hl.2) k3 (F ls _ stT k1 h2 false _ so ⟨rfl,rfl⟩ k2) hF M args' d⟩
 |inr a=>
  obtain⟨so,k2,h1⟩:=ar h1
  obtain⟨sv,k3,h1⟩:=ar h1
  have sx:=zZ k2
  rw[<-sx] at h1
  exact⟨true,_,_,h1,rfl,Nat.le_add_right _ _,λhF M args' d=>zi (bU hlen) hinj (by rw[h3];exact hsx) h4 (uO hl.1) (wo hl.2) k3 (F ls _ stT k1 h2 true _ so ⟨rfl,rfl⟩ k2) hF M args' d⟩
def C1(T:PT)(st:St)(args:List SV):Bool:=cond (Nat.beq args.length T.n) ((uv (β:=Unit) [] T.ti ⟨ov args 0 .nil,st.h,st.sx⟩ λ_ m=>cond (rp st.h m&&sw m T.an) (some ()) none).isSome) false
def Ku(pt:(β:Type)->FuncId->Option (cx β))(g:FuncId)(T:PT)(Sh:Fn T.ti.ks (Option (bL T.to.ks⊕bL T.tp.ks))):(β:Type)->FuncId->Option (cx β):=
 λβ f=>cond (Nat.beq f g) (some λst args K=>cond (C1 T st args) (Pg T Sh st args K) (ob (pt β f) λe=>e st args K)) (pt β f)
theorem pS{P:Program}{pt:(β:Type)->FuncId->Option (cx β)}(PTO:jn P pt){g:FuncId}{T:PT}{Sh:Fn T.ti.ks (Option (bL T.to.ks⊕bL T.tp.ks))}(F:sd P g T Sh):jn P (Ku pt g T Sh):=by
 intro β f e h
 unfold Ku at h
 cases hb:Nat.beq f g with
 |true=>
  rw[hb] at h
  have hg:=bU hb
  subst hg
  cases h
  intro st args K b k
  cases hf:C1 T st args with
  |true=>
   simp[hf] at k
   exact XK F st args K b k
  |false=>
   simp[hf] at k
   obtain⟨e0,h0,k⟩:=ar k
   exact PTO β f e0 h0 st args K b k
 |false=>
  rw[hb] at h
  exact PTO β f e h
theorem Yd{P:Program}{g:FuncId}{T:PT}:sd P g T (kB T.ti.ks):=λ_ _ _ e=>(yL _ _ _ e).elim
theorem Yb{P:Program}{g:FuncId}{T:PT}{F:Fn T.ti.ks (Option (bL T.to.ks⊕bL T.tp.ks))->Fn T.ti.ks (Option (bL T.to.ks⊕bL T.tp.ks))}(h:∀r,sd P g T r->sd P g T (F r))(n:Nat):sd P g T (pM (kB T.ti.ks) F n):=by
 induction n with
 |zero=>exact Yd
 |succ n ih=>exact h _ ih
end
section
set_option linter.unusedVariables false
set_option linter.unusedSimpArgs false
set_option linter.unusedSectionVars false
set_option linter.constructorNameAsVariable false
variable{β:Type}
def Qx:List Operand->Bool
 |[]=>true
 |_=>false
def KF(o:Oper)(n:Nat)(K:Nat->Option β):Option β:=match o.op with
 | .call c=>match c.callee with
  | .builtin .recover=>match o.guard with
   |none=>cond (Qx c.args.toList) (match o.dst with|some d=>cond (Nat.blt d n) (K d) none|none=>none) none
   |some _=>none
  |_=>none
 |_=>none
theorem adB{o:Oper}{n:Nat}{K:Nat->Option β}{b:β}(e:KF o n K=some b):∃d,K d=some b/\o.dst=some d/\Nat.blt d n=true/\o.guard=none/\∃c,o.op=.call c/\c.callee=.builtin .recover/\c.args.toList=[]:=by
 unfold KF at e
 split at e
 ·rename_i c hop
  split at e
  ·rename_i hc
   split at e
   ·rename_i hg
    obtain⟨e1,e⟩:=aY e
    split at e
    ·rename_i d hd
     obtain⟨e2,e⟩:=aY e
     refine⟨d,e,hd,e2,hg,c,hop,hc,?_⟩
     generalize c.args.toList=l at e1
     cases l with
     |nil=>rfl
     |cons _ _=>cases e1
    grind
   grind
  grind
 grind
def H9(o:Oper)(K:Nat->Option β):Option β:=match o.op with
 | .defer c=>match c.callee with
  | .value (.tmp t)=>match o.guard,o.dst with
   |none,none=>cond (Qx c.args.toList) (K t) none
   |_,_=>none
  |_=>none
 |_=>none
theorem Xs{o:Oper}{K:Nat->Option β}{b:β}(e:H9 o K=some b):∃t,K t=some b/\o.dst=none/\o.guard=none/\∃c,o.op=.defer c/\c.callee=.value (.tmp t)/\c.args.toList=[]:=by
 unfold H9 at e
 split at e
 ·rename_i c hop
  split at e
  ·rename_i t hc
   split at e
   ·rename_i hg hd
    obtain⟨e1,e⟩:=aY e
    refine⟨t,e,hd,hg,c,hop,hc,?_⟩
    generalize c.args.toList=l at e1
    cases l with
    |nil=>rfl
    |cons _ _=>cases e1
   grind
  grind
 grind
def Dy(q:Option SV)(r:Option β):Option β:=match q with
 |none=>r
 |some _=>bC 60
theorem Jz{q:Option SV}{r:Option β}{b:β}(e:Dy q r=some b):q=none/\r=some b:=by
 cases q with
 |none=>exact⟨rfl,e⟩
 |some _=>cases e
section
variable[QF]
noncomputable def uo(C:Ctx β)(gn:Func)(lvg jvg:Nat->Option cK)(ung:Nat->Bool)(caps:List SV)(rv:SV)(st:St)(K:St->Option β):Option β:=match gn.body with
 |some (.seq (.region _ ops false) rest)=>match ops.toList with
  |o::os=>cond (Nat.ble C.an st.sx) (KF o (caps.length+(gn.ntmps -caps.length)) λd=>
   xA C.X C.pt (caps.length+(gn.ntmps -caps.length)) ops os ⟨(ov caps 0 .nil).set d rv,st.h,st.sx⟩ λq st1=>Dy q
    (dn {C with n:=caps.length+(gn.ntmps -caps.length),rs:=[],lv:=lvg,jv:=jvg,un:=ung,df:=true,an:=st.sx,hU:=λ_ st2=>K ⟨st.tm,st2.h,st2.sx⟩,lO:=λ_ _=>bC 62} 100000 [] [.code rest] st1)) (bC 61)
  |[]=>bC 63
 |_=>bC 64
noncomputable def wK(C:Ctx β)(st:St):Option β:=uA C.X.T st C.rs (zm C.hU st)
noncomputable def CO(C:Ctx β)(g:FuncId)(gn:Func)(lvg jvg:Nat->Option cK)(ung:Nat->Bool)(body:Code)(st:St):Option β:=match body with
 | .seq (.region _ ops0 false) (.seq (.region _ ops1 false) rest)=>xA C.X C.pt C.n ops0 ops0.toList st λq st1=>Dy q (match ops1.toList with
  |[o1,o2]=>match o1.guard with
   |none=>CP C.n o1 (Aj C.X C.pt st1 o1 λq st2=>Dy q (H9 o2 λt=>ob (st2.tm.get t) λfv=>match fv with
    | .fn g' caps=>cond (Nat.beq g' g&&(Nat.blt g' 65536&&Nat.ble C.an st2.sx)) (dn {C with df:=true,an:=st2.sx,hU:=λ_ st3=>uo C gn lvg jvg ung caps .ni st3 (wK C),lO:=λrv st3=>uo C gn lvg jvg ung caps rv st3 (wK C)} 100000 [] [.code rest] st2) (bC 65)
    |_=>bC 66))
   |some _=>bC 68
  |_=>bC 69)
 |_=>bC 67
end
theorem Mem.Om{B:Bs}{σ:Ren}{h:Tr SO}{sx:Nat}{w:World}(M:iP B σ h sx w){n:Nat}{dJ:List Deferred}:iP ⟨B.w,B.own,σ.lit,sx,σ.nm,n,dJ⟩ σ h sx w:=
 ⟨M.obj,M.inj,M.fresh,M.lit,M.free,M.base,M.owned,λ_ _ _ q=>.inl q,λ_ _ _ q=>q,λ_ _ _ q=>q⟩
theorem Mem.V9{B:Bs}{σ σ':Ren}{h:Tr SO}{sx:Nat}{w w':World}{G:Nat->SO->Prop}{F:Nat->Prop}(M:iP B σ h sx w)(ha:B.an<=sx){n:Nat}{dJ:List Deferred}(M':Mem ⟨B.w,B.own,σ.lit,sx,σ.nm,n,dJ⟩ σ' G F w'):Ext σ σ'/\Mem B σ' G F w':=by
 have E:Ext σ σ':=⟨λid x e=>M'.ke id (Nat.not_le.1 λq=>by rw[M.fresh id q] at e;cases e) x e,M'.nk⟩
 refine⟨E,M'.obj,M'.inj,M'.fresh,M'.lit,M'.free,M'.base,M'.owned,λb i v q=>?_,λk hk x hx=>E.nm _ _ (M.ke k hk x hx),λb i v q=>E.lit b i v (M.nk b i v q)⟩
 rcases M'.lQ b i v q with k|k
 ·exact M.lQ b i v k
 ·exact .inr k
theorem DW{P:Program}{ops:Array Oper}{Q:Exit->Act->List Frame->World->Prop}{cs:List Frame}(hQ:∀a w,¬Q .outgrown a cs w):∀(l:List Nat){a:Act}{w:World},wpOps P ops (λe a w=>Q e a cs w) l a w->wpOpsS P ops Q l a cs w
 |[],a,w,h=>h
 |i::l,a,w,h=>by
  unfold wpOps at h
  unfold wpOpsS
  split at h
  ·rename_i ho
   simp only[ho]
   exact DW hQ l h
  ·rename_i o ho
   simp only[ho]
   split at h
   ·rename_i hw
    simp only[hw,dL]
    rcases h with h|⟨_,a',w',q⟩
    ·have h:=Oper.wp_mono (K':=λa w=>wpOpsS P ops Q l a cs w) (λa w h=>DW hQ l h) h
     unfold Oper.wp at h
     split
     ·rename_i w' hr
      rw[hr] at h
      exact h.elim
     ·exact h
    ·exact(hQ _ _ q).elim
   ·rename_i hw
    simp only[hw]
    exact DW hQ l h
section
variable[QF]
theorem WY{P:Program}{C:Ctx β}(OK:iH P C.X)(mx:P.follows .mixedOrders=true)(PT:mV P C.pt){g:FuncId}{gn:Func}(hG:C.X.F.get g=some gn)(hres:gn.results.toList=[]){lvg jvg:Nat->Option cK}{ung:Nat->Bool}{caps:List SV}{cv:Array Value}{rv:SV}{st:St}{K:St->Option β}{b:β}
 (e:uo C gn lvg jvg ung caps rv st K=some b) {B:Bs} (ha:B.an=C.an) {σ:Ren} {a:Act} {w:World} {u:FrameMode} (hm:(u=.returning/\rv=.ni)\/∃v,u=.panicking [pe v]/\DV σ rv v) (R:dt B σ st a w) (d:eP σ caps cv.toList):
 CallsD P g cv u w λe u' w'=>∃v,e=.returned v/\settle u'=.returning/\∃st',K st'=some b/\∃σ',dt B σ' st' a w':=by
 unfold uo at e
 split at e
 case h_2=>cases e
 rename_i id ops rest hb
 split at e
 case h_2=>cases e
 rename_i o os hops
 obtain⟨han,e⟩:=aY e
 have han:=dY han
 obtain⟨dR,e,hdst,hlt,hgd,c,hop,hcal,harg⟩:=adB e
 have hlen:cv.size=caps.length:=by rw[<-Array.length_toList];exact d.1.symm
 have ho:ops[0]? =some o:=by rw[<-mc,hops];rfl
 have hrg:List.range ops.size=0::List.range' 1 os.length:=by
  rw[List.range_eq_range',show ops.size=os.length+1 by rw[<-Array.length_toList,hops];rfl,List.range'_succ]
 refine callsD_of_wpS (OK.F _ _ hG).1 hb λc₀ cs hu=>wpS_seq (wpS_region ?_)
 rw[hrg]
 let a0:Act:={tmps:=cv++Array.replicate (gn.ntmps -cv.size) undef,defers:=[]}
 have hsz:a0.tmps.size=caps.length+(gn.ntmps -caps.length):=by simp[a0,hlen]
 obtain⟨q,st1,e1,G⟩:=AU OK PT os 1 (λi o' hi=>by rw[<-mc,hops,Nat.add_comm];exact hi) _ _ _ e
 obtain⟨rfl,e2⟩:=Jz e1
 have run:(execOp a0.eval o).run P w=.ok .recover w:=by
  have:c.args=#[]:=by simpa using harg
  unfold execOp resolve
  simp only[hop,hcal,this]
  rfl
 have key:∀(y:Value)(u':FrameMode),settle u'=.returning->DV σ rv y->wpOpsS P ops (Exit.thenS (rest.wpS P (bodyPostS P gn c₀ cs λe u' w'=>∃v,e=.returned v/\settle u'=.returning/\∃st',K st'=some b/\∃σ',dt B σ' st' a w')) (bodyPostS P gn c₀ cs λe u' w'=>∃v,e=.returned v/\settle u'=.returning/\∃st',K st'=some b/\∃σ',dt B σ' st' a w')) (List.range' 1 os.length) (a0.put o.dst y) ({c₀ with mode:=u'}::cs) w:=by
  intro y u' hu' dy
  let B2:Bs:=⟨B.w,B.own,σ.lit,st.sx,σ.nm,caps.length+(gn.ntmps -caps.length),[]⟩
  refine DW (λa w q=>by obtain⟨_,_,h,_⟩:=q;cases h) _ (G (B:=B2) (σ:=σ) rfl ⟨by rw[hdst];simp[Act.put,hsz,B2],by rw[hdst];rfl,?_,R.mem.Om⟩ _ ?_)
  ·rw[hdst]
   exact(sL (BJ d (dJ:=[]))).put (Ext.refl _) (d:=some dR) (λk hk=>by cases hk;show dR<a0.tmps.size;rw[hsz];exact eQ hlt) dy
  ·intro σ1 a1 w1 R1
   refine wpS_of_wp (wp_mono (λb k cs=>(sF (fn:=gn) (B:=B2) (C:={C with n:=caps.length+(gn.ntmps -caps.length),rs:=[],lv:=lvg,jv:=jvg,un:=ung,df:=true,an:=st.sx,hU:=λ_ st2=>K ⟨st.tm,st2.h,st2.sx⟩,lO:=λ_ _=>bC 62}) OK mx PT hres rfl rfl _ _ _ _ _ e2 (λr hr=>by cases hr) R1) b k cs) λx a2 w2 q=>?_)
   have fin2:(∃σ2 st2 sv,dt B2 σ2 st2 a2 w2/\K ⟨st.tm,st2.h,st2.sx⟩=some b/\sv=SV.aH [])->a2.defers=[]/\∃u2,({c₀ with mode:=u'}:Frame)::cs={c₀ with mode:=u2}::cs/\∃v,(results gn a2.tmps).run P w2=.ok v w2/\∃v2,Ending.returned v=.returned v2/\settle u2=.returning/\∃st',K st'=some b/\∃σ',dt B σ' st' a w2:=λ⟨σ2,st2,_,r,kr,_⟩=>by
    obtain⟨E,M⟩:=R.mem.V9 (ha▸han) r.mem
    refine⟨r.dJ,u',rfl,.tuple #[],?_,_,rfl,hu',_,kr,σ2,R.size,R.dJ,λt sv h=>(R.ev t sv h).mono E,M⟩
    have:gn.results=#[]:=by simpa using hres
    simp[results,this]
   cases x with
   |normal=>exact fin2 q
   |ret=>exact fin2 q
   |panic ch=>obtain⟨_,_,_,_,_,kp,_⟩:=q;cases kp
   |_=>exact q.elim
 unfold wpOpsS
 have hw:Region.wanted o (yielded ops a0.tmps)=true:=by unfold Region.wanted;rw[hgd]
 simp only[ho]
 rw[au hw]
 rcases hm with⟨rfl,rfl⟩|⟨v,rfl,dv⟩
 ·have hr:recoverD (c₀::cs)=none:=by unfold recoverD;simp only[hu]
  have hc:({c₀ with mode:=.returning}:Frame)=c₀:=by rw[<-hu]
  have:=key .nilIface .returning rfl .ni
  rw[hc] at this
  rw[show(execOp ({tmps:=cv++Array.replicate (gn.ntmps -cv.size) undef,defers:=[]}:Act).eval o).run P w=.ok .recover w from run]
  simp only[hr]
  exact this
 ·have hr:recoverD (c₀::cs)=some (v,{c₀ with mode:=.panicking [{v:=v,recovered:=true}]}::cs):=by unfold recoverD;simp only[hu,pe]
  rw[show(execOp ({tmps:=cv++Array.replicate (gn.ntmps -cv.size) undef,defers:=[]}:Act).eval o).run P w=.ok .recover w from run]
  simp only[hr]
  exact key v _ rfl dv
theorem OZ{P:Program}{C:Ctx β}(OK:iH P C.X)(mx:P.follows .mixedOrders=true)(PT:mV P C.pt){f:FuncId}{fn:Func}(hF:P.funcs[f]? =some fn){body:Code}(hb:fn.body=some body)(hrs:fn.results.toList=C.rs)(hdf:C.df=false){g:FuncId}{gn:Func}(hG:C.X.F.get g=some gn)(hres:gn.results.toList=[]){lvg jvg:Nat->Option cK}{ung:Nat->Bool}{st:St}{b:β}
 (e:CO C g gn lvg jvg ung body st=some b) {B:Bs} (hn:B.n=C.n) (ha:B.an=C.an) (hB:B.dJ=[]) {σ:Ren} {args:Array Value} {w:World} (R:dt B σ st {tmps:=args++Array.replicate (fn.ntmps -args.size) undef,defers:=[]} w) {Rp:Ending->World->Prop}
 (k:∀{σ:Ren}{st:St}{sv:SV}{a:Act}{w':World}{v:Value},dt B σ st a w'->DV σ sv v->C.hU sv st=some b->Rp (.returned v) w'):Calls P f args w Rp:=by
 unfold CO at e
 split at e
 case h_2=>cases e
 rename_i id0 ops0 id1 ops1 rest
 obtain⟨q,st1,e1,G1⟩:=AU OK PT ops0.toList 0 (λi o ho=>by rw[gI,<-mc];exact ho) _ _ _ e
 obtain⟨rfl,e2⟩:=Jz e1
 split at e2
 case h_2=>cases e2
 rename_i o1 o2 hops
 split at e2
 case h_2=>cases e2
 rename_i hg1
 obtain⟨e3,hd1⟩:=O5 e2
 obtain⟨q,sv,st2,e4,hx,ht,D⟩:=Ka OK PT e3
 obtain⟨rfl,e5⟩:=Jz e4
 have ht:st2.tm=ku st1.tm o1.dst sv:=by rcases ht with h|h;exact h.2;cases h.1
 obtain⟨t,e6,hd2,hg2,c,hop,hcal,harg⟩:=Xs e5
 obtain⟨fv,hfv,e7⟩:=ar e6
 split at e7
 case h_2=>cases e7
 rename_i g' caps
 obtain⟨hq,e8⟩:=aY e7
 simp only[bt] at hq
 have hgg:=bU hq.1
 have hsm:=eQ hq.2.1
 have han:=dY hq.2.2
 subst hgg
 have ho1:ops1[0]? =some o1:=by rw[<-mc,hops];rfl
 have ho2:ops1[1]? =some o2:=by rw[<-mc,hops];rfl
 have hrg1:List.range ops1.size=[0,1]:=by
  rw[show ops1.size=2 by rw[<-Array.length_toList,hops];rfl];rfl
 have leave:∀{σ:Ren}{st:St}{a:Act}{w:World},wK C st=some b->dt B σ st a w->Leaves P fn a.tmps Rp [] .returning w:=λ{σ st a w} h R=>by
  obtain⟨σ',st',sv,R',kr,q⟩:=II (fn:=fn) OK.T hrs (st:=st) (b:=b) (by rw[hdf];exact h) R
  rw[hdf] at q
  obtain⟨v,q1,q2⟩:=q
  exact⟨v,q1,k R' q2 kr⟩
 have G:mT P [.code (.seq (.region id0 ops0 false) (.seq (.region id1 ops1 false) rest))] (λe a w=>bodyPostD P fn Rp e a w) {tmps:=args++Array.replicate (fn.ntmps -args.size) undef,defers:=[]} w:=by
  refine .step (T':=[.code (.region id0 ops0 false),.code (.seq (.region id1 ops1 false) rest)]) (λ_ _ _=>step_seq) (.code (wp_region ?_))
  rw[(show List.range ops0.size=List.range' 0 ops0.toList.length from by rw[List.range_eq_range'];simp)]
  refine G1 hn R _ λσ1 a1 w1 R1=>?_
  refine .step (T':=[.code (.region id1 ops1 false),.code rest]) (λ_ _ _=>step_seq) (.code (wp_region ?_))
  rw[hrg1,wpOps_cons]
  have hw1:Region.wanted o1 (yielded ops1 a1.tmps)=true:=by unfold Region.wanted;rw[hg1]
  unfold wpOp
  simp only[ho1,hw1,dL]
  refine .inl (D a1 R1.ev (λ_ h _=>h) R1.mem _ _ λσ2 v w2 E dv M=>?_)
  have R2:dt B σ2 st2 (a1.put o1.dst v) w2:=by
   have:=R1.put E (iP.next hx M) (λk hk=>by rw[hn];exact hd1 k hk) dv
   rwa[<-ht] at this
  generalize a1.put o1.dst v=a2 at R2
  have hw2:Region.wanted o2 (yielded ops1 a2.tmps)=true:=by unfold Region.wanted;rw[hg2]
  have dfv:=R2.ev t _ hfv
  generalize hfx:a2.eval (.tmp t)=fx at dfv
  cases dfv with
  |fn hl hr=>
  rename_i cv
  rw[IM hsm] at hfx
  have dcv:eP σ2 caps cv:=⟨hl,hr⟩
  let d:Deferred:={target:=.fn (.func g') ⟨cv⟩,args:=#[]}
  have run:(execOp a2.eval o2).run P w2=.ok (.defer d) w2:=by
   have:c.args=#[]:=by simpa using harg
   unfold execOp resolve
   simp[hop,hcal,this,hfx,Deferred.ofValue,d]
  rw[wpOps_cons]
  unfold wpOp
  simp only[ho2,hw2,dL]
  refine .inl ?_
  unfold Oper.wp
  rw[run,Oper.upon_defer,hd2,R2.dJ,hB]
  show mT P [.code rest] _ {tmps:=a2.tmps,defers:=[d]} w2
  let B2:Bs:=⟨B.w,B.own,σ2.lit,st2.sx,σ2.nm,B.n,[d]⟩
  have inv:∀w,(invoke d.target d.args).run P w=.ok (.enter g' ⟨cv⟩) w:=λw=>by
   obtain⟨f1,f2,f3⟩:=OK.F _ _ hG
   have h4:gn.body.isNone=false:=by cases hb:gn.body with
    |none=>rw[hb] at f3;cases f3
    |some b=>rfl
   unfold invoke callFunc
   simp only[d,cX,run_program,eG,f1,f2,h4,kC,gQ,eH]
   simp
  have dn2:=sF (fn:=fn) (B:=B2) (C:={C with df:=true,an:=st2.sx,hU:=λ_ st3=>uo C gn lvg jvg ung caps .ni st3 (wK C),lO:=λrv st3=>uo C gn lvg jvg ung caps rv st3 (wK C)}) OK mx PT hrs hn rfl _ _ _ _ _ e8 (λr hr=>by cases hr) (σ:=σ2) (a:={tmps:=a2.tmps,defers:=[d]}) (w:=w2) ⟨R2.size,rfl,R2.ev,R2.mem.Om⟩
  have last:∀{u:FrameMode}{σ3:Ren}{st3:St}{rv:SV}{a3:Act}{w3:World},u≠.run->(u=.returning/\rv=.ni)\/(∃v,u=.panicking [pe v]/\DV σ3 rv v)->uo C gn lvg jvg ung caps rv st3 (wK C)=some b->dt B2 σ3 st3 a3 w3->Leaves P fn a3.tmps Rp a3.defers u w3:=by
   intro u σ3 st3 rv a3 w3 hu hm kr R3
   obtain⟨E3,M3⟩:=R2.mem.V9 (ha▸han) R3.mem
   rw[R3.dJ]
   have Rx:dt B σ3 st3 {tmps:=a3.tmps,defers:=[]} w3:=⟨R3.size,hB.symm,R3.ev,M3⟩
   refine leaves_cons hu (inv w3) (CallsD.mono (WY OK mx PT hG hres kr ha hm Rx (show eP σ3 caps (⟨cv⟩:Array Value).toList from dcv.mono E3)) λx u' w' ⟨v,h1,h2,st',h3,σ',R'⟩=>?_)
   subst h1
   show Leaves P fn a3.tmps Rp [] (settle u') w'
   rw[h2]
   exact leave (a:={tmps:=a3.tmps,defers:=[]}) h3 R'
  intro b0 k0 cs0
  obtain⟨x,a3,w3,q,arr⟩:=dn2 b0 k0 cs0
  refine⟨x,a3,w3,?_,arr⟩
  cases x with
  |normal=>obtain⟨σ3,st3,sv3,R3,kr,_⟩:=q;exact last (by simp) (.inl ⟨rfl,rfl⟩) kr R3
  |ret=>obtain⟨σ3,st3,sv3,R3,kr,_⟩:=q;exact last (by simp) (.inl ⟨rfl,rfl⟩) kr R3
  |panic ch=>obtain⟨σ3,st3,sv3,v3,R3,kr,rfl,dv3⟩:=q;exact last (by simp) (.inr ⟨v3,rfl,dv3⟩) kr R3
  |_=>exact q.elim
 exact calls_of_wp_defers hF hb λb k cs=>G b k cs
end
end
section
set_option linter.unusedVariables false
set_option linter.unusedSimpArgs false
set_option linter.unusedSectionVars false
set_option linter.constructorNameAsVariable false
variable[QF]
noncomputable def WD{β:Type}(C:Ctx β)(g:FuncId)(gn:Func)(lvg jvg:Nat->Option cK)(ung:Nat->Bool)(avt:List VT)(body:Code)(ls:List bo):Option β:=
 ob (vF avt ls) λq=>CO C g gn lvg jvg ung body ⟨ov q.1 0 .nil,.nil,0⟩
noncomputable def WG(w:Nat)(X:ew)(pt:(β:Type)->FuncId->Option (cx β))(fn:Func)(g:FuncId)(gn:Func)(avt:List VT)(rvt:VT)(lv jv:Nat->Option cK)(un:Nat->Bool)(lvg jvg:Nat->Option cK)(ung:Nat->Bool):Fn (VT.fP avt) (Option (bL rvt.ks)):=
 lM (VT.fP avt) (WD {X:=X,pt:=pt _,n:=avt.length+(fn.ntmps -avt.length),rs:=fn.results.toList,lv:=lv,jv:=jv,un:=un,df:=false,fuel:=w,an:=0,hU:=λsv st=>zp st rvt sv (dec rvt.ks),lO:=λ_ _=>none} g gn lvg jvg ung avt (fn.body.getD .skip))
theorem X6{P:Program}{X:ew}(OK:iH P X)(mx:P.follows .mixedOrders=true){pt:(β:Type)->FuncId->Option (cx β)}(PT:jn P pt){f:FuncId}{fn:Func}{g:FuncId}{gn:Func}{avt:List VT}{rvt:VT}{lv jv:Nat->Option cK}{un:Nat->Bool}{lvg jvg:Nat->Option cK}{ung:Nat->Bool}{w:Nat}{Sh:Fn (VT.fP avt) (Option (bL rvt.ks))}
 (hF:X.F.get f=some fn) (hb:fn.body=some (fn.body.getD .skip)) (hG:X.F.get g=some gn) (hres:gn.results.toList=[]) (hS:Sh=WG w X pt fn g gn avt rvt lv jv un lvg jvg ung):cg P f avt rvt Sh:=by
 intro ls r e lo us hu m args' w0 K A
 subst hS
 have e1:=mX _ _ _ _ e
 obtain⟨⟨svs,rest⟩,h1,e2⟩:=ar e1
 obtain⟨_,q1,_⟩:=wH avt ls _ _ _ _ lo hu h1
 have hl:args'.size=avt.length:=by rw[<-Ig _ _ _ _ hu,<-Array.length_toList];exact A.1.symm
 refine OZ (B:=⟨w0,λ_=>False,m,0,λ_=>none,avt.length+(fn.ntmps -avt.length),[]⟩) OK mx (PT _) (OK.F _ _ hF).1 hb rfl rfl hG hres e2 rfl rfl rfl (σ:=⟨λ_=>none,m⟩) ⟨by simp[hl],rfl,sL (BJ (q1 A) (dJ:=[])),Mem.start K⟩ λR d kr=>?_
 obtain⟨ls',f1,f3⟩:=IP _ _ _ _ kr
 obtain⟨pv,g1,g3⟩:=f3 []
 rw[dX,<-pI _ _ _ f1] at g1
 obtain⟨z1,z2⟩:=g3 (Mem.Uv K R.mem) d
 rw[<-pI _ _ _ f1] at z2
 exact⟨_,rfl,R.mem.base.below,pv,g1,z2,z1⟩
noncomputable def WE(w:Nat)(X:ew)(pt:(β:Type)->FuncId->Option (cx β))(fn:Func)(g:FuncId)(gn:Func)(T:HT)(lv jv:Nat->Option cK)(un:Nat->Bool)(lvg jvg:Nat->Option cK)(ung:Nat->Bool):Fn T.ti.ks (Option (bL T.to.ks)):=
 lM T.ti.ks λls=>ob (ib T.ti ls) λst=>CO {X:=X,pt:=pt _,n:=T.n+(fn.ntmps -T.n),rs:=fn.results.toList,lv:=lv,jv:=jv,un:=un,df:=false,fuel:=w,an:=T.an,hU:=λsv st=>kL T.an T.to ⟨Tr.nil.set 0 sv,st.h,st.sx⟩ (dec T.to.ks),lO:=λ_ _=>bC 52} g gn lvg jvg ung (fn.body.getD .skip) st
theorem X7{P:Program}{X:ew}(OK:iH P X)(mx:P.follows .mixedOrders=true){pt:(β:Type)->FuncId->Option (cx β)}(PT:jn P pt){f:FuncId}{fn:Func}{g:FuncId}{gn:Func}{T:HT}{lv jv:Nat->Option cK}{un:Nat->Bool}{lvg jvg:Nat->Option cK}{ung:Nat->Bool}{w:Nat}{Sh:Fn T.ti.ks (Option (bL T.to.ks))}
 (hF:X.F.get f=some fn) (hb:fn.body=some (fn.body.getD .skip)) (hG:X.F.get g=some gn) (hres:gn.results.toList=[]) (hS:Sh=WE w X pt fn g gn T lv jv un lvg jvg ung):lI P f T Sh:=by
 intro ls r st so e hst hso B σ w0 args' hn ha ev M
 subst hS
 have e1:=mX _ _ _ _ e
 obtain⟨st1,g1,e2⟩:=ar e1
 rw[hst] at g1
 cases g1
 refine OZ (B:={B with n:=T.n+(fn.ntmps -T.n),dJ:=[]}) OK mx (PT _) (OK.F _ _ hF).1 hb rfl rfl hG hres e2 rfl ha rfl ⟨by simp[hn],rfl,sL ev,M.nd⟩ λR d kr=>?_
 obtain⟨σ3,z1,z2⟩:=xk (B:=B) (by rw[ha];exact kr) (λls q=>pI _ _ _ q) hso d R.mem.nd
 exact⟨σ3,_,rfl,z1,z2⟩
end
section
set_option linter.unusedVariables false
set_option linter.unusedSimpArgs false
set_option linter.unusedSectionVars false
set_option linter.constructorNameAsVariable false
theorem CG{a b:Bool}(h:cond a b false=true):a=true/\b=true:=mY h
theorem zA{P:Program}{t:Nat}{inf:TypeInfo}(h:P.types[t]? =some inf):P.info? t=some inf:=by
 unfold Tables.info?
 grind
def B9(P:Program)(t:Nat):Prop:=(∃k,P.underlying t=some (.int k))/\∃inf,P.info? t=some inf/\inf.size=1
def C2:List Field->Nat->(Nat->Bool)->Bool
 |[],_,_=>true
 |f::fs,n,ints=>cond (f.name== "_") false (cond (Nat.beq f.offset n) (cond (ints f.type) (C2 fs (n+1) ints) false) false)
theorem PJ{P:Program}{ints:Nat->Bool}(hi:∀t,ints t=true->B9 P t):∀(fs:List Field)(n:Nat),C2 fs n ints=true->∀(i:Nat)(f:Field),fs[i]? =some f->f.name≠ "_"/\f.offset=n+i/\B9 P f.type
 |[],n,_,i,f,h=>by grind
 |g::fs,n,e,i,f,h=>by
  unfold C2 at e
  cases hn:(g.name== "_") with
  |true=>grind
  |false=>
   simp only[hn] at e
   obtain⟨e1,e2⟩:=CG e
   obtain⟨e3,e4⟩:=CG e2
   cases i with
   |zero=>
    simp_all
   |succ i=>
    obtain⟨a,b,c⟩:=PJ hi fs (n+1) e4 i f (by grind)
    grind
def IJ(ints:Nat->Bool)(n:Nat):TypeDesc->Bool
 | .struct fs=>cond (Nat.beq fs.toList.length n) (C2 fs.toList 0 ints) false
 | .array len e=>cond (Nat.beq len n) (ints e) false
 |_=>false
theorem X2{P:Program}{ints:Nat->Bool}(hi:∀t,ints t=true->B9 P t){n:Nat}{d:TypeDesc}(h:IJ ints n d=true):yB P n d:=by
 unfold IJ at h
 split at h
 ·rename_i fs
  obtain⟨h1,h2⟩:=CG h
  have:=bU h1
  refine⟨by simpa using this,λi f hf=>?_⟩
  obtain⟨a,b,c⟩:=PJ hi _ _ h2 i f (by grind)
  exact⟨a,by omega,c⟩
 ·rename_i len e
  obtain⟨h1,h2⟩:=CG h
  exact⟨bU h1,hi _ h2⟩
 grind
def sX{α:Type}:List (Nat×α)->Tr α
 |[]=>.nil
 |(n,x)::l=>(sX l).set n x
theorem Ab{α:Type}:∀{l:List (Nat×α)}{n:Nat}{x:α},(sX l).get n=some x->(n,x)∈l
 |[],n,x,h=>by rw[sX,Tr.get_nil] at h;cases h
 |(m,y)::l,n,x,h=>by
  rw[sX,Tr.fE] at h
  by_cases e:n=m
  ·grind
  ·rw[ai e] at h;exact mO _ (Ab h)
structure N8(P:Program)(t:Nat)(i:ja):Prop where
 under:P.underlying t=some i.desc
 info:∃inf,P.info? t=some inf/\inf.size=i.size/\inf.bytes=i.bytes/\∀z,i.zero=some z->inf.zero=some z
 flat:i.flat=true->P.eqGuardType P.depth t=false/\P.stoodInHeld t=false/\yB P i.size i.desc
theorem ag0{P:Program}{T:TT}{F:FT}{lT:List (Nat×ja)}{lF:List (Nat×Func)}(eT:T=sX lT)(eF:F=sX lF)(hT:∀p∈lT,N8 P p.1 p.2)(hF:∀p∈lF,P.funcs[p.1]? =some p.2 /\(p.2.name== "runtime.NumGoroutine")=false/\p.2.body.isSome=true):iH P ⟨T,F⟩:=by
 subst eT eF
 exact⟨⟨λt i h=>(hT _ (Ab h)).under,λt i h=>(hT _ (Ab h)).info,λt i h=>(hT _ (Ab h)).flat⟩,λf fn h=>hF _ (Ab h)⟩
end
section
set_option linter.unusedVariables false
set_option linter.unusedSimpArgs false
set_option linter.unusedSectionVars false
set_option linter.constructorNameAsVariable false
variable{β:Type}
theorem C8{x:SV}{id:Nat}(h:id∈SV.ids x):∀{l:List SV},x∈l->id∈SV.jR l
 |y::l,hx=>by
  unfold SV.jR
  rcases cQ.1 hx with rfl|hx
  ·exact List.mem_append_left _ h
  ·exact List.mem_append_right _ (C8 h hx)
theorem DV.via{σ σ':Ren}(hl:σ'.lit=σ.lit){x:SV}{v:Value}(d:DV σ x v):(∀id∈SV.ids x,∀z,σ.nm id=some z->σ'.nm id=some z)->DV σ' x v:=by
 have sub:∀{l:List SV}{i:Nat}{x:SV}{p:Nat->Prop},(∀id∈SV.jR l,p id)->l[i]? =some x->∀id∈SV.ids x,p id:=λh e id q=>h id (C8 q (nD e))
 induction d with
 |i=>exactλ_=>.i _ _
 |b=>exactλ_=>.b _
 |s=>exactλ_=>.s _
 |v h h1=>exactλ_=>.v (hl▸h) h1
 |nl=>exactλ_=>.nl
 |agg kl _ ih=>exactλp=>.agg kl λi x y a b=>ih i x y a b (sub (by unfold SV.ids at p;exact p) a)
 |aH kl _ ih=>exactλp=>.aH kl λi x y a b=>ih i x y a b (sub (by unfold SV.ids at p;exact p) a)
 |ptr h=>exactλp=>.ptr (p _ (by unfold SV.ids;simp) _ h)
 |lp h=>exactλ_=>.lp (hl▸h)
 |sl h hn=>exactλp=>.sl (p _ (by unfold SV.ids;simp) _ h) hn
 |jw h=>exactλp=>.jw (p _ (by unfold SV.ids;simp) _ h)
 |gr h hc hn=>exactλp=>.gr (p _ (by unfold SV.ids;simp) _ h) hc hn
 |fn kl _ ih=>exactλp=>.fn kl λi x y a b=>ih i x y a b (sub (by unfold SV.ids at p;exact p) a)
 |fF _ ih=>exactλp=>.fF (ih (by unfold SV.ids at p;exact p))
 |em h=>exactλ_=>.em (hl▸h)
 |ni=>exactλ_=>.ni
 |mp h=>exactλp=>.mp (p _ (by unfold SV.ids;simp) _ h)
def BK(p:Nat->Bool):SO->Bool
 | .cells c _=>(SV.jR c).all p
 | .mp es=>es.all λe=>(SV.ids e.2).all p
 |_=>true
theorem DO.via{σ σ':Ren}(hl:σ'.lit=σ.lit){w:World}{id:Nat}{so:SO}(d:DO σ w id so){p:Nat->Bool}(h:∀id,p id=true->∀z,σ.nm id=some z->σ'.nm id=some z)(hi:p id=true)(hs:BK p so=true):DO σ' w id so:=by
 have e:=h id hi
 cases so with
 |cells c t=>
  obtain⟨o,n,vs,a,b,c⟩:=d
  exact⟨o,n,vs,e _ a,b,c.1,λi x y h1 h2=>(c.2 i x y h1 h2).via hl λk hk=>h k (iq.1 hs k (C8 hk (nD h1)))⟩
 |arr c t=>obtain⟨o,n,vs,a,b,c⟩:=d;exact⟨o,n,vs,e _ a,b,hl▸c⟩
 |grow E c t=>
  obtain⟨a,q,g⟩:=d
  refine⟨a,q,?_⟩
  rcases g with⟨g,k⟩|⟨o,n,cs,g,k⟩
  ·exact .inl ⟨e _ g,k⟩
  ·exact .inr ⟨o,n,cs,e _ g,hl▸k⟩
 |mp es=>
  obtain⟨o,n,es',ck,a,b,c⟩:=d
  exact⟨o,n,es',ck,e _ a,b,c.1,λi x y h1 h2=>have q:=c.2 i x y h1 h2;⟨q.1,q.2.via hl λk hk=>h k (iq.1 (iq.1 hs x (nD h1)) k hk)⟩⟩
def qZ(f:Nat->SO->Bool):Tr SO->Nat->Nat->Bool
 | .nil,_,_=>true
 | .node v l r,a,b=>(match v with|some x=>f b x|none=>true)&&(qZ f l (2*a) (a+b)&&qZ f r (2*a) (2*a+b))
theorem Ht{f:Nat->SO->Bool}:∀(p:jm){t:Tr SO}{a b:Nat}{x:SO},qZ f t a b=true->walk p t=some x->f (a*p.num+b) x=true
 |p,.nil,a,b,x,h,e=>by rw[GU] at e;cases e
 | .z,.node v l r,a,b,x,h,e=>by
  unfold qZ at h
  rw[bt] at h
  cases v with
  |none=>cases e
  |some y=>
   have e:some y=some x:=e
   cases e
   rw[show a*jm.z.num+b=b by unfold jm.num;omega]
   exact h.1
 | .l p,.node v l r,a,b,x,h,e=>by
  unfold qZ at h
  rw[bt,bt] at h
  have:=Ht p h.2.1 (show walk p l=some x from e)
  rw[show a*(jm.l p).num+b=2*a*p.num+(a+b) by show a*(2*p.num+1)+b=_;rw[Nat.mul_add,<-Nat.mul_assoc,mR a 2];omega]
  exact this
 | .r p,.node v l r,a,b,x,h,e=>by
  unfold qZ at h
  rw[bt,bt] at h
  have:=Ht p h.2.2 (show walk p r=some x from e)
  rw[show a*(jm.r p).num+b=2*a*p.num+(2*a+b) by show a*(2*p.num+2)+b=_;rw[Nat.mul_add,<-Nat.mul_assoc,mR a 2];omega]
  exact this
theorem Ol{f:Nat->SO->Bool}{t:Tr SO}(h:qZ f t 1 0=true){n:Nat}{x:SO}(e:t.get n=some x):f n x=true:=by
 have:=Ht (rG n) h e
 rwa[show(rG n).num=n from As _ _ (kF _),Nat.one_mul,Nat.add_zero] at this
def pO(h:Tr SO)(i:Nat):Bool:=match h.get i with
 |some _=>true
 |none=>false
def uL(h:Tr SO)(sx i:Nat):Bool:=Nat.ble sx i||pO h i
section
variable[QF]
noncomputable def Qm(X:ew)(pt:(β:Type)->FuncId->Option (cx β))(fn:Func)(lv jv:Nat->Option cK)(un:Nat->Bool)(w n sx:Nat):Ctx (Bool×SV×St):=
 {X:=X,pt:=pt _,n:=n+(fn.ntmps -n),rs:=fn.results.toList,lv:=lv,jv:=jv,un:=un,df:=false,fuel:=w,an:=sx,hU:=λsv st=>some (false,sv,st),lO:=λsv st=>some (true,sv,st)}
noncomputable def inl(X:ew)(pt:(β:Type)->FuncId->Option (cx β))(fn:Func)(lv jv:Nat->Option cK)(un:Nat->Bool)(w:Nat):cx β:=λst args K=>
 cond (qZ (λi so=>Nat.blt i st.sx&&BK (pO st.h) so) st.h 1 0&&(SV.jR args).all (pO st.h))
  (ob (dn (Qm X pt fn lv jv un w args.length st.sx) 100000 [] [.code (fn.body.getD .skip)] ⟨ov args 0 .nil,st.h,st.sx⟩) λr=>
   cond (Nat.ble st.sx r.2.2.sx&&(qZ (λi so=>uL st.h st.sx i&&BK (uL st.h st.sx) so) r.2.2.h 1 0&&(SV.ids r.2.1).all (uL st.h st.sx)))
    (K r.1 r.2.1 ⟨st.tm,r.2.2.h,r.2.2.sx⟩) (bC 81)) (bC 82)
theorem YM{P:Program}{X:ew}(OK:iH P X)(mx:P.follows .mixedOrders=true){pt:(β:Type)->FuncId->Option (cx β)}(PT:jn P pt){g:FuncId}{fn:Func}(hF:X.F.get g=some fn)(hb:fn.body=some (fn.body.getD .skip)){lv jv:Nat->Option cK}{un:Nat->Bool}{w:Nat}:mh P g (inl (β:=β) X pt fn lv jv un w):=by
 intro st args K b e
 obtain⟨c0,e⟩:=aY e
 obtain⟨⟨p,sv,st'⟩,e1,e⟩:=ar e
 obtain⟨c1,e⟩:=aY e
 simp only[bt] at c0 c1
 obtain⟨c2,c3⟩:=c0
 obtain⟨c4,c5,c6⟩:=c1
 have hx:st.sx<=st'.sx:=dY c4
 refine⟨p,sv,_,e,rfl,hx,λ{B σ F w0} hN M args' d=>?_⟩
 have lv0:∀{id so},st.h.get id=some so->pO st.h id=true:=λh=>by unfold pO;rw[h]
 have lt0:∀{id so},st.h.get id=some so->id<st.sx/\BK (pO st.h) so=true:=λh=>by
  have:=Ol c2 h
  rw[bt] at this
  exact⟨eQ this.1,this.2⟩
 let σ0:Ren:=⟨λid=>if pO st.h id then σ.nm id else none,σ.lit⟩
 have to0:∀id,pO st.h id=true->∀z,σ.nm id=some z->σ0.nm id=some z:=λid h z hz=>by show(if _ then _ else _)=_;rw[au h];exact hz
 have of0:∀{id z},σ0.nm id=some z->σ.nm id=some z:=λ{id z} h=>by
  replace h:(if pO st.h id then σ.nm id else none)=some z:=h
  split at h
  ·exact h
  ·cases h
 have DX:∀b,Own σ0 (hG st.h) b->Own σ (hG st.h) b:=λb ⟨i,s,o,n,a,p,q⟩=>⟨i,s,o,n,a,of0 p,q⟩
 let B2:Bs:=⟨w0,Own σ (hG st.h),σ.lit,st.sx,σ0.nm,args.length+(fn.ntmps -args.length),[]⟩
 have fr0:∀id,st.sx<=id->σ0.nm id=none:=λid h=>by
  show(if _ then _ else _)=_
  rw[ai]
  intro q
  unfold pO at q
  split at q
  ·rename_i s hs
   have:=(lt0 hs).1
   omega
  ·cases q
 have M0:iP B2 σ0 st.h st.sx w0:=⟨λid so h=>(M.obj id so h).via (σ:=σ) (σ':=σ0) rfl to0 (lv0 h) (lt0 h).2,λi j s s' o o' n n' a a' p p' q=>M.inj _ _ _ _ _ _ _ _ a a' (of0 p) (of0 p') q,fr0,M.lit,λb i v h q=>M.free b i v h (DX b q),eI.refl _ _,λb q=>.inl (DX b q),λ_ _ _ q=>.inl q,λ_ _ _ q=>q,λ_ _ _ q=>q⟩
 have dv0:eP σ0 args args'.toList:=⟨d.1,λi x y h1 h2=>(d.2 i x y h1 h2).via (σ:=σ) (σ':=σ0) rfl λid hid=>to0 id (iq.1 c3 id (C8 hid (nD h1)))⟩
 have hl:args'.size=args.length:=by rw[<-Array.length_toList];exact d.1.symm
 have fin:∀{σ':Ren}{a:Act}{w':World}{v:Value},dt B2 σ' st' a w'->DV σ' sv v->∃σn v',End p v=End p v'/\Ext σ σn/\DV σn sv v'/\Mem B σn (hG st'.h) (lN F st.sx st'.sx) w':=by
  intro σ' a w' v R dv
  let σn:Ren:=⟨λid=>if st.sx<=id/\id<st'.sx then σ'.nm id else σ.nm id,σ'.lit⟩
  have E:Ext σ σn:=⟨λid x e=>by
   show(if _ then _ else _)=_
   rw[ai λq=>by rw[M.fresh id (hN id q.1 q.2)] at e;cases e]
   exact e,R.mem.nk⟩
  have key:∀id,uL st.h st.sx id=true->∀z,σ'.nm id=some z->σn.nm id=some z:=λid h z hz=>by
   by_cases q:st.sx<=id
   ·have:id<st'.sx:=Nat.not_le.1 λq=>by rw[R.mem.fresh id q] at hz;cases hz
    show(if _ then _ else _)=_
    rw[au ⟨q,this⟩];exact hz
   ·unfold uL at h
    rw[rW] at h
    rcases h with h|h
    ·exact absurd (dY h) q
    ·have ex:∃so,st.h.get id=some so:=by
      unfold pO at h
      split at h
      ·rename_i s hs;exact⟨s,hs⟩
      ·cases h
     obtain⟨so,hso⟩:=ex
     have hy:∃y,σ.nm id=some y:=(M.obj id so hso).nm.elim (λq=>⟨_,q⟩) λ⟨_,_,q,_⟩=>⟨_,q⟩
     obtain⟨y,hy⟩:=hy
     have:=R.mem.ke id (Nat.not_le.1 q) y (to0 id h y hy)
     rw[hz] at this
     cases this
     exact E.nm _ _ hy
  have kp:∀{id so},st'.h.get id=some so->uL st.h st.sx id=true/\BK (uL st.h st.sx) so=true:=λh=>by
   have:=Ol c5 h
   rwa[bt] at this
  have back:∀{id so o n},st'.h.get id=some so->σn.nm id=some (some o,n)->σ'.nm id=some (some o,n):=λ{id so o n} h1 h2=>by
   rcases(R.mem.obj id so h1).nm with q|⟨_,_,q,_⟩<;>rw[key _ (kp h1).1 _ q] at h2<;>cases h2
   exact q
  have M3:Mem (AB w0 (Own σ (hG st.h)) σ.lit) σn (hG st'.h) (lN F st.sx st'.sx) w':=
   ⟨λid so h=>(R.mem.obj id so h).via (σ:=σ') (σ':=σn) rfl key (kp h).1 (kp h).2,λi j s s' o o' n n' a a' p p' q=>R.mem.inj _ _ _ _ _ _ _ _ a a' (back a p) (back a' p') q,λid h=>by
    show(if _ then _ else _)=_
    rw[ai h.2];exact M.fresh id h.1,R.mem.lit,λb i v h ⟨i',s,o,n,a,p,q⟩=>R.mem.free b i v h ⟨i',s,o,n,a,back a p,q⟩,R.mem.base,λb ⟨i',s,o,n,a,p,q⟩=>R.mem.owned b ⟨i',s,o,n,a,back a p,q⟩,R.mem.lQ,λk hk=>(Nat.not_lt_zero k hk).elim,R.mem.nk⟩
  exact⟨σn,v,rfl,E,dv.via (σ:=σ') (σ':=σn) rfl λid h=>key id (iq.1 c6 id h),(M.frame (λ_ _ h=>h) E M3).less (λ_ _ h=>.inl h) λ_ h=>h⟩
 refine zf (C:=Qm X pt fn lv jv un w args.length st.sx) (B:=B2) (b:=(p,sv,st')) (OK.F _ _ hF).1 hb rfl rfl (sF OK mx (PT _) rfl rfl rfl _ _ _ _ _ e1 (λr hr=>by cases hr) ⟨by simp[hl,B2],rfl,sL (BJ dv0 (dJ:=[])),M0⟩) λR dv=>⟨λkr=>?_,λkp=>?_⟩
 ·cases kr;exact fin R dv
 ·cases kp;exact fin R dv
noncomputable def Kv(pt pi:(β:Type)->FuncId->Option (cx β))(g:FuncId)(X:ew)(fn:Func)(lv:Nat->Option cK)(un:Nat->Bool)(w:Nat):(β:Type)->FuncId->Option (cx β):=
 λβ f=>cond (Nat.beq f g) (some (inl X pi fn lv (λ_=>none) un w)) (pt β f)
theorem adx{P:Program}{X:ew}(OK:iH P X)(mx:P.follows .mixedOrders=true){pt pi:(β:Type)->FuncId->Option (cx β)}(PT:jn P pt)(PI:jn P pi){g:FuncId}{fn:Func}(hF:X.F.get g=some fn)(hb:fn.body=some (fn.body.getD .skip)){lv:Nat->Option cK}{un:Nat->Bool}{w:Nat}:jn P (Kv pt pi g X fn lv un w):=by
 intro β f e h
 unfold Kv at h
 cases hq:Nat.beq f g with
 |true=>
  rw[hq] at h
  obtain rfl:=bU hq
  cases h
  exact YM OK mx PI hF hb
 |false=>rw[hq] at h;exact PT β f e h
end
def KU(e:Nat×Nat×List Nat×Nat):Value:=.func (.func 0) #[.agg #[.int .i64 e.1,.int .i64 e.2.1]] #[.agg #[ae e.2.2.1.length (e.2.2.1.map λt=>.int .i64 (Int.ofNat t)),.int .i64 e.2.2.2]]
def xu(l:List (Nat×Nat×List Nat×Nat)):Value:=.func (.method "") ⟨l.map KU⟩ #[]
end
section
set_option linter.unusedVariables false
set_option linter.unusedSimpArgs false
set_option linter.unusedSectionVars false
set_option linter.constructorNameAsVariable false
variable{β:Type}
def rH:SV->Bool
 | .aH (x::_)=>(match x with| .ptr _ _=>true|_=>false)
 |_=>false
def B7(P:Program)(g:FuncId)(T:PT)(Sh:Fn T.ti.ks (Option (bL T.to.ks⊕bL T.tp.ks))):Prop:=
 ∀ls r st,iz T.ti.ks Sh ls=some r->ib T.ti ls=some st->∀so,(match r with| .inl a=>ib T.to (gH T.to.ks a)=some so| .inr a=>ib T.tp (gH T.tp.ks a)=some so)->B8 P g T.n T.an st so false
noncomputable def WH[QF](w:Nat)(X:ew)(pt:(β:Type)->FuncId->Option (cx β))(fn:Func)(T:PT)(lv jv:Nat->Option cK)(un:Nat->Bool):Fn T.ti.ks (Option (bL T.to.ks⊕bL T.tp.ks)):=
 lM T.ti.ks λls=>ob (ib T.ti ls) λst=>dn {X:=X,pt:=pt _,n:=T.n+(fn.ntmps -T.n),rs:=fn.results.toList,lv:=lv,jv:=jv,un:=un,df:=false,fuel:=w,an:=T.an,hU:=λsv st=>cond (rH sv) (rz (tJ T.to) sv st λsv st=>kL T.an T.to ⟨Tr.nil.set 0 sv,st.h,st.sx⟩ λls=>ob (dec T.to.ks ls) λa=>some (.inl a)) (rz (tJ T.tp) sv st λsv st=>kL T.an T.tp ⟨Tr.nil.set 0 sv,st.h,st.sx⟩ λls=>ob (dec T.tp.ks ls) λa=>some (.inr a)),lO:=λ_ _=>none} 100000 [] [.code (fn.body.getD .skip)] st
theorem Ye[QF]{P:Program}{X:ew}(OK:iH P X)(mx:P.follows .mixedOrders=true){pt:(β:Type)->FuncId->Option (cx β)}(PTO:jn P pt){g:FuncId}{fn:Func}{T:PT}{lv jv:Nat->Option cK}{un:Nat->Bool}{w:Nat}{Sh:Fn T.ti.ks (Option (bL T.to.ks⊕bL T.tp.ks))}
 (hF:X.F.get g=some fn) (hb:fn.body=some (fn.body.getD .skip)) (hS:Sh=WH w X pt fn T lv jv un):B7 P g T Sh:=by
 intro ls r st e hst so hso B σ w0 args' hn ha ev M
 subst hS
 have e1:=mX _ _ _ _ e
 obtain⟨st1,g1,e2⟩:=ar e1
 rw[hst] at g1
 cases g1
 refine zf (B:={B with n:=T.n+(fn.ntmps -T.n),dJ:=[]}) (OK.F _ _ hF).1 hb rfl rfl (sF OK mx (PTO _) rfl rfl ha _ _ _ _ _ e2 (λr hr=>by cases hr) ⟨by simp[hn],rfl,sL ev,M.nd⟩) λ{σ1 s1 sv a1 w1 v1} R d=>⟨λkr=>?_,λkp=>by cases kp⟩
 cases hp:rH sv with
 |true=>
  replace kr:cond (rH sv) _ _=some r:=kr
  rw[hp] at kr
  obtain⟨sv2,st2,k1,k2⟩:=Ep (β:=bL T.to.ks⊕bL T.tp.ks) (t:=tJ T.to) (K:=λsv st=>kL T.an T.to ⟨Tr.nil.set 0 sv,st.h,st.sx⟩ λls=>ob (dec T.to.ks ls) λa=>some (.inl a)) kr
  obtain⟨σ2,d2,M2⟩:=k2 d R.mem.nd
  replace k1:kL T.an T.to ⟨Tr.nil.set 0 sv2,st2.h,st2.sx⟩ (λls=>ob (dec T.to.ks ls) λa=>some (Sum.inl a))=some r:=k1
  cases r with
  |inl a=>
   obtain⟨σ3,z1,z2⟩:=xk (B:=B) (by rw[ha];exact k1) (λls q=>by obtain⟨a',q1,q2⟩:=ar q;cases q2;exact pI _ _ _ q1) hso d2 M2
   exact⟨σ3,_,rfl,z1,z2⟩
  |inr a=>
   obtain⟨ls',q1,_⟩:=uw (B:=B) (by rw[ha];exact k1)
   obtain⟨a',_,q2⟩:=ar q1
   cases q2
 |false=>
  replace kr:cond (rH sv) _ _=some r:=kr
  rw[hp] at kr
  obtain⟨sv2,st2,k1,k2⟩:=Ep (β:=bL T.to.ks⊕bL T.tp.ks) (t:=tJ T.tp) (K:=λsv st=>kL T.an T.tp ⟨Tr.nil.set 0 sv,st.h,st.sx⟩ λls=>ob (dec T.tp.ks ls) λa=>some (.inr a)) kr
  obtain⟨σ2,d2,M2⟩:=k2 d R.mem.nd
  replace k1:kL T.an T.tp ⟨Tr.nil.set 0 sv2,st2.h,st2.sx⟩ (λls=>ob (dec T.tp.ks ls) λa=>some (Sum.inr a))=some r:=k1
  cases r with
  |inl a=>
   obtain⟨ls',q1,_⟩:=uw (B:=B) (by rw[ha];exact k1)
   obtain⟨a',_,q2⟩:=ar q1
   cases q2
  |inr a=>
   obtain⟨σ3,z1,z2⟩:=xk (B:=B) (by rw[ha];exact k1) (λls q=>by obtain⟨a',q1,q2⟩:=ar q;cases q2;exact pI _ _ _ q1) hso d2 M2
   exact⟨σ3,_,rfl,z1,z2⟩
def Ph(T:PT)(Sh:Fn T.ti.ks (Option (bL T.to.ks⊕bL T.tp.ks))):cx β:=λst args K=>
 cond (Nat.beq args.length T.n) (uv [] T.ti ⟨ov args 0 .nil,st.h,st.sx⟩ λls m=>
  cond (rp st.h m&&sw m T.an) (ob (iz T.ti.ks Sh ls) λr=>dc r
   (λa=>ob (ib T.to (gH T.to.ks a)) λso=>ob (so.tm.get 0) λsv=>K false (o9 (mE T.an st.sx m) sv) ⟨st.tm,qB (mE T.an st.sx m) so.h T.to.pP (rb m st.h),st.sx+T.to.sx⟩)
   (λa=>ob (ib T.tp (gH T.tp.ks a)) λso=>ob (so.tm.get 0) λsv=>K false (o9 (mE T.an st.sx m) sv) ⟨st.tm,qB (mE T.an st.sx m) so.h T.tp.pP (rb m st.h),st.sx+T.tp.sx⟩)) none) none
theorem XL{P:Program}{g:FuncId}{T:PT}{Sh:Fn T.ti.ks (Option (bL T.to.ks⊕bL T.tp.ks))}(F:B7 P g T Sh):mh P g (Ph (β:=β) T Sh):=by
 intro st args K b e
 obtain⟨hlen,e⟩:=aY e
 obtain⟨ls,m,h1,_,hinj,hsx,stT,h2,h3,h4⟩:=CX (λi j a q=>by cases q) e
 obtain⟨hl,h1⟩:=aY h1
 rw[bt] at hl
 obtain⟨r,k1,h1⟩:=ar h1
 cases r with
 |inl a=>
  obtain⟨so,k2,h1⟩:=ar h1
  obtain⟨sv,k3,h1⟩:=ar h1
  have sx:=zZ k2
  rw[<-sx] at h1
  exact⟨false,_,_,h1,rfl,Nat.le_add_right _ _,λhF M args' d=>zi (bU hlen) hinj (by rw[h3];exact hsx) h4 (uO hl.1) (wo hl.2) k3 (F ls _ stT k1 h2 so k2) hF M args' d⟩
 |inr a=>
  obtain⟨so,k2,h1⟩:=ar h1
  obtain⟨sv,k3,h1⟩:=ar h1
  have sx:=zZ k2
  rw[<-sx] at h1
  exact⟨false,_,_,h1,rfl,Nat.le_add_right _ _,λhF M args' d=>zi (bU hlen) hinj (by rw[h3];exact hsx) h4 (uO hl.1) (wo hl.2) k3 (F ls _ stT k1 h2 so k2) hF M args' d⟩
def Tm(pt:(β:Type)->FuncId->Option (cx β))(g:FuncId)(T:PT)(Sh:Fn T.ti.ks (Option (bL T.to.ks⊕bL T.tp.ks))):(β:Type)->FuncId->Option (cx β):=
 λβ f=>cond (Nat.beq f g) (some λst args K=>cond (C1 T st args) (Ph T Sh st args K) (ob (pt β f) λe=>e st args K)) (pt β f)
theorem To{P:Program}{pt:(β:Type)->FuncId->Option (cx β)}(PTO:jn P pt){g:FuncId}{T:PT}{Sh:Fn T.ti.ks (Option (bL T.to.ks⊕bL T.tp.ks))}(F:B7 P g T Sh):jn P (Tm pt g T Sh):=by
 intro β f e h
 unfold Tm at h
 cases hb:Nat.beq f g with
 |true=>
  rw[hb] at h
  have hg:=bU hb
  subst hg
  cases h
  intro st args K b k
  cases hf:C1 T st args with
  |true=>
   simp[hf] at k
   exact XL F st args K b k
  |false=>
   simp[hf] at k
   obtain⟨e0,h0,k⟩:=ar k
   exact PTO β f e0 h0 st args K b k
 |false=>
  rw[hb] at h
  exact PTO β f e h
end
end Lt
section
set_option linter.unusedVariables false
set_option linter.unusedSimpArgs false
set_option linter.unusedSectionVars false
set_option linter.constructorNameAsVariable false
structure bE where
 bW:Int
 data:List UInt8
 scan:List UInt8
 deriving DecidableEq
def oe(m:Int):Bool:=decide (208<=m/\m<=215)
def iR(m:Int):Bool:=decide (m=216\/m=217)
def kZ(m:Int):Bool:=decide (192<=m/\m<=254)&&!oe m&&!iR m
def gh:List UInt8->Nat
 |[]=>0
 |b::t=>if b=255 then(match t with
  |[]=>0
  |c::_=>if c≠0/\oe c.toNat=false then 0 else gh t+1) else gh t+1
theorem EI:∀l,gh l<=l.length
 |[]=>aK _
 |b::t=>by
  have ih:=EI t
  unfold gh
  grind
inductive NY where
 |ok (l:List bE) (end_:Nat)
 |bad (at_:Nat) (e:Int)
 deriving DecidableEq
inductive Wo where
 |last (s:bE) (rest:List UInt8)
 |more (s:bE) (rest:List UInt8)
 |short
 |form (behind:Nat)
def kM(first:Bool):List UInt8->Wo
 |[]=>.short
 |[x]=>if x=255 then .short else .form 0
 |x::m::t=>
  if x≠255 then .form 0
  else if(first !=decide (m=216))||!(iR m.toNat||kZ m.toNat) then .form 0
  else if m=217 then .last ⟨217,[],[]⟩ t
  else if m=216 then .more ⟨216,[],[]⟩ t
  else match t with
   |a::b::_=>
    let n:=a.toNat*256+b.toNat
    if n<2 then .form 2
    else if t.length<n then .short
    else
     let r:=t.drop n
     let k:=if m=218 then gh r else 0
     .more ⟨m.toNat,(t.drop 2).take (n -2),r.take k⟩ (r.drop k)
   |_=>.short
def lU(L:Nat):Nat->Bool->List UInt8->NY
 |0,_,_=>.bad 0 0
 |f+1,first,r=>match kM first r with
  | .short=>.bad L 3
  | .form k=>.bad (L -r.length+k) 2
  | .last s t=>.ok [s] (L -t.length)
  | .more s t=>match lU L f false t with
   | .ok l e=>.ok (s::l) e
   |x=>x
def ofM(b:List UInt8):NY:=lU b.length (b.length+1) true b
def mI(s:bE):Bool:=kZ s.bW&&decide (s.data.length<=65533)&&(s.scan.isEmpty||(decide (s.bW=218)&&decide (gh s.scan=s.scan.length)))
def lL(s:bE)(m:Int):Bool:=decide (s.bW=m)&&s.data.isEmpty&&s.scan.isEmpty
def jh:List bE->Bool
 |[]=>false
 |[s]=>lL s 217
 |s::t=>mI s&&jh t
def mD:List bE->Bool
 |[]=>false
 |s::t=>lL s 216&&jh t
def cL(s:bE):List UInt8:=
 if iR s.bW then[255,UInt8.ofNat s.bW.toNat]
 else[255,UInt8.ofNat s.bW.toNat,UInt8.ofNat ((s.data.length+2)/256),UInt8.ofNat ((s.data.length+2)%256)]++s.data++s.scan
def cT(l:List bE):List UInt8:=l.flatMap cL
theorem kA(s:bE)(l:List bE):cT (s::l)=cL s++cT l:=rfl
theorem ZS:∀{l:List bE},jh l=true->∃(m:UInt8)(t:List UInt8),cT l=255::m::t/\m≠0/\oe m.toNat=false
 |[],h=>by cases h
 |s::t,h=>by
  have key:(192<=s.bW/\s.bW<=254/\oe s.bW=false):=by
   cases t with
   |nil=>
    simp[jh,lL] at h
    rw[h.1.1];decide
   |cons s' t=>
    simp[jh,mI,kZ,bt] at h
    exact⟨h.1.1.1.1.1.1,h.1.1.1.1.1.2,h.1.1.1.1.2⟩
  obtain⟨k1,k2,k3⟩:=key
  have hm:((UInt8.ofNat s.bW.toNat).toNat:Int)=s.bW:=by
   rw[vW];omega
  refine⟨UInt8.ofNat s.bW.toNat,?_⟩
  have e:∃t',cL s=255::UInt8.ofNat s.bW.toNat::t':=by
   unfold cL;split<;>simp_all
  obtain⟨t',e⟩:=e
  refine⟨t'++cT t,by rw[kA,e];rfl,?_,by rw[hm];exact k3⟩
  intro h0
  rw[h0] at hm
  simp at hm
  omega
theorem LN:∀(l:List UInt8)(m:UInt8)(t:List UInt8),gh l=l.length->m≠0->oe m.toNat=false->gh (l++255::m::t)=l.length
 |[],m,t,_,h1,h2=>by
  unfold gh
  simp_all
 |b::l,m,t,h,h1,h2=>by
  have hl:gh l=l.length/\(b=255->∃c r,l=c::r/\¬(c≠0/\oe c.toNat=false)):=by
   unfold gh at h
   grind
  have ih:=LN l m t hl.1 h1 h2
  rw[fo]
  unfold gh
  grind
theorem aep(x:List UInt8){s:bE}(h:lL s 217=true):kM false (cL s++x)=.last s x:=by
 obtain⟨m,d,c⟩:=s
 simp[lL] at h
 obtain⟨⟨rfl,rfl⟩,rfl⟩:=h
 rfl
theorem aeo(x:List UInt8){s:bE}(h:lL s 216=true):kM true (cL s++x)=.more s x:=by
 obtain⟨m,d,c⟩:=s
 simp[lL] at h
 obtain⟨⟨rfl,rfl⟩,rfl⟩:=h
 rfl
theorem aeq{s:bE}(h:mI s=true)(m:UInt8)(t:List UInt8)(h1:m≠0)(h2:oe m.toNat=false):kM false (cL s++255::m::t)=.more s (255::m::t):=by
 obtain⟨k,d,c⟩:=s
 simp[mI,kZ,bt,vP,rW,List.isEmpty_iff] at h
 obtain⟨⟨⟨⟨⟨a1,a2⟩,a3⟩,a4⟩,a5⟩,a6⟩:=h
 have hm:((UInt8.ofNat k.toNat).toNat:Int)=k:=by rw[vW];omega
 have n216:UInt8.ofNat k.toNat≠216:=by
  intro e;rw[e] at hm;rw[<-hm] at a4;exact absurd a4 (by decide)
 have n217:UInt8.ofNat k.toNat≠217:=by
  intro e;rw[e] at hm;rw[<-hm] at a4;exact absurd a4 (by decide)
 unfold cL
 rw[ai (by simp[a4])]
 simp
 dsimp only[kM]
 rw[ai (by simp)]
 have hh:kZ ((UInt8.ofNat k.toNat).toNat:Int)=true:=by rw[hm];simp[kZ,a1,a2,a3,a4]
 rw[(show((false !=decide (UInt8.ofNat k.toNat=216))||!(iR ((UInt8.ofNat k.toNat).toNat:Int)||kZ ((UInt8.ofNat k.toNat).toNat:Int)))=false from by rw[hh,fe n216];simp),ai (by simp),ai n217,ai n216]
 have hn:(UInt8.ofNat ((d.length+2)/256)).toNat*256+(UInt8.ofNat ((d.length+2)%256)).toNat=d.length+2:=by
  rw[vW,vW]
  omega
 rw[hn,ai (by omega),ai (by simp)]
 have e1:(UInt8.ofNat ((d.length+2)/256)::UInt8.ofNat ((d.length+2)%256)::(d++(c++255::m::t))).drop (d.length+2)=c++255::m::t:=by
  simp
 rw[e1]
 have e2:(if UInt8.ofNat k.toNat=218 then gh (c++255::m::t) else 0)=c.length:=by
  rcases a6 with rfl|⟨a6,a7⟩
  ·split
   ·exact LN [] m t rfl h1 h2
   ·rfl
  ·rw[au (by rw[a6];rfl),LN c m t a7 h1 h2]
 rw[e2]
 simp
 omega
theorem ahn{l:List bE}(h:jh l=true):l.length<=(cT l).length:=by
 induction l with
 |nil=>simp
 |cons s t ih=>
  rw[kA,aR,bY]
  have:1<=(cL s).length:=by unfold cL;split<;>simp<;>omega
  cases t with
  |nil=>grind
  |cons s' t=>
   have:=ih (by simp[jh] at h;exact h.2)
   omega
theorem RB(L:Nat)(x:List UInt8):∀(l:List bE)(f:Nat),jh l=true->l.length<f->lU L f false (cT l++x)=.ok l (L -x.length)
 |[],_,h,_=>by cases h
 |[s],f+1,h,_=>by
  have:cT [s]=cL s:=by simp[cT]
  rw[this]
  unfold lU
  rw[aep x h]
 |s::s'::t,f+1,h,hf=>by
  have h':=((bt _ _).mp h).2
  obtain⟨m,u,e,h1,h2⟩:=ZS h'
  have ih:=RB L x (s'::t) f h' (by grind)
  rw[kA,dD]
  unfold lU
  rw[e] at ih⊢
  rw[fo,fo] at ih⊢
  rw[aeq (((bt _ _).mp h).1) m (u++x) h1 h2]
  simp_all
 |_::_,0,_,hf=>by grind
theorem RF{l:List bE}(h:mD l=true)(x:List UInt8):ofM (cT l++x)=.ok l (cT l).length:=by
 cases l with
 |nil=>cases h
 |cons s t=>
  simp[mD] at h
  unfold ofM
  rw[kA,dD]
  unfold lU
  rw[aeo _ h.1]
  have hl:t.length<(cL s++(cT t++x)).length:=by
   have:=ahn h.2
   have:1<=(cL s).length:=by unfold cL;split<;>simp<;>omega
   grind
  simp only[RB _ x t _ h.2 hl]
  grind
end
section
set_option linter.unusedVariables false
set_option linter.unusedSimpArgs false
set_option linter.unusedSectionVars false
set_option linter.constructorNameAsVariable false
def gX(l:List UInt8):Nat:=l.foldl (λn b=>n*256+b.toNat) 0
def gN(l:List UInt8)(at_ size:Nat)(order:Int):List UInt8:=
 if order=1 then((l.drop at_).take size).reverse else(l.drop at_).take size
theorem DA(l:List UInt8)(b:UInt8):gX (l++[b])=gX l*256+b.toNat:=by
 unfold gX;rw[List.foldl_append];rfl
def BS(s:Int):Bool:=s==1||s==2||s==4
def fZ(s o:Int):Bool:=BS s&&(o==1||o==2)
def oP(l:List UInt8)(at_ size order:Int):Option Int:=
 if fZ size order=true/\0<=at_/\at_<=(l.length:Int) -size then some (gX (gN l at_.toNat size.toNat order)) else none
def ee(n:Nat):Nat->List UInt8
 |0=>[]
 |s+1=>ee (n/256) s++[UInt8.ofNat (n%256)]
theorem oK(s:Nat):∀n,(ee n s).length=s:=by
 induction s with
 |zero=>intro n;rfl
 |succ s ih=>intro n;simp[ee,ih]
def aW(n s:Nat)(order:Int):List UInt8:=if order=1 then(ee n s).reverse else ee n s
theorem er(n s:Nat)(o:Int):(aW n s o).length=s:=by unfold aW;split<;>simp[oK]
theorem wM{l:List UInt8}{p s:Nat}{order:Int}(hs:s=1\/s=2\/s=4)(ho:order=1\/order=2)(hp:p+s<=l.length):oP l p s order=some (gX (gN l p s order):Int):=by
 unfold oP
 rw[au ⟨by rcases hs with rfl|rfl|rfl<;>rcases ho with rfl|rfl<;>rfl,by omega,by omega⟩]
 simp
def aE(n:Nat):Nat:=n+n%2
def o7(n:Int)(s:Nat)(order:Int):Option (List UInt8):=if 0<=n/\n<((256^s:Nat):Int) then some (aW n.toNat s order) else none
def ij(l:List UInt8)(s m:Nat):List UInt8:=
 (List.range l.length).map λi=>if i<m then(l[i -i%s+(s -1 -i%s)]?).getD 0 else(l[i]?).getD 0
theorem pj(l:List UInt8)(s m:Nat):(ij l s m).length=l.length:=by simp[ij]
theorem BX(l:List UInt8)(s m i:Nat)(h:i<l.length):(ij l s m)[i]? =some (if i<m then(l[i -i%s+(s -1 -i%s)]?).getD 0 else(l[i]?).getD 0):=by
 simp[ij,h]
def iM(l:List UInt8)(s:Nat)(order:Int):List UInt8:=if order=1 then ij l s l.length else l
theorem vK(l:List UInt8)(s:Nat)(o:Int):(iM l s o).length=l.length:=by unfold iM;split<;>simp[pj]
def kindOf(t:Int):Int×Int×Int:=
 if t=1\/t=2\/t=7 then(1,1,1) else if t=3 then(2,2,1) else if t=4 then(4,4,1) else if t=5 then(8,4,3) else if t=6 then(1,1,2) else if t=8 then(2,2,2)
 else if t=9 then(4,4,2) else if t=10 then(8,4,4) else if t=11 then(4,4,5) else if t=12 then(8,8,5) else(0,0,0)
def ze(l:List UInt8):Bool:=(List.range l.length).all λi=>((l[i]?).getD 0==0)==(i+1==l.length)
def ej(ty aw:Int)(l:List UInt8):Bool:=
 decide ((kindOf ty).1 ≠0/\1<=aw/\aw<=65536/\(l.length:Int)=aw*(kindOf ty).1)&&(ty !=2||ze l)
theorem Di{t:Int}(h:t<1\/12<t):kindOf t=(0,0,0):=by
 unfold kindOf
 repeat(rw[ai (by omega)])
theorem Jk(t:Int)(h:(kindOf t).1 ≠0):∃s m:Nat,(kindOf t).2.1 =(s:Int)/\(kindOf t).1 =((m*s:Nat):Int)/\(s=1\/s=2\/s=4\/s=8):=by
 by_cases o:t<1\/12<t
 ·rw[Di o] at h;exact absurd rfl h
 ·have hc:t=1\/t=2\/t=3\/t=4\/t=5\/t=6\/t=7\/t=8\/t=9\/t=10\/t=11\/t=12:=by omega
  rcases hc with rfl|rfl|rfl|rfl|rfl|rfl|rfl|rfl|rfl|rfl|rfl|rfl
  ·exact⟨1,1,rfl,rfl,by omega⟩
  ·exact⟨1,1,rfl,rfl,by omega⟩
  ·exact⟨2,1,rfl,rfl,by omega⟩
  ·exact⟨4,1,rfl,rfl,by omega⟩
  ·exact⟨4,2,rfl,rfl,by omega⟩
  ·exact⟨1,1,rfl,rfl,by omega⟩
  ·exact⟨1,1,rfl,rfl,by omega⟩
  ·exact⟨2,1,rfl,rfl,by omega⟩
  ·exact⟨4,1,rfl,rfl,by omega⟩
  ·exact⟨4,2,rfl,rfl,by omega⟩
  ·exact⟨4,1,rfl,rfl,by omega⟩
  ·exact⟨8,1,rfl,rfl,by omega⟩
theorem Rh{ty aw:Int}{l:List UInt8}(h:ej ty aw l=true):∃s q:Nat,(kindOf ty).2.1 =(s:Int)/\l.length=q*s/\(s=1\/s=2\/s=4\/s=8):=by
 unfold ej at h
 rw[bt,bZ] at h
 obtain⟨⟨h1,h2,h3,h4⟩,-⟩:=h
 obtain⟨s,m,e1,e2,e3⟩:=Jk ty h1
 refine⟨s,aw.toNat*m,e1,?_,e3⟩
 rw[e2] at h4
 have:(l.length:Int)=((aw.toNat*m*s:Nat):Int):=by
  rw[h4,Nat.mul_assoc]
  push_cast
  rw[mf (by omega)]
 omega
end
section
set_option linter.unusedVariables false
set_option linter.unusedSimpArgs false
set_option linter.unusedSectionVars false
set_option linter.constructorNameAsVariable false
theorem JA(s:Nat):∀n,n<256^s->gX (ee n s)=n:=by
 induction s with
 |zero=>intro n h;simp at h;subst h;rfl
 |succ s ih=>
  intro n h
  show gX (ee (n/256) s++[UInt8.ofNat (n%256)])=n
  rw[DA,ih (n/256) (by rw[Nat.pow_succ] at h;omega),vW]
  omega
theorem Tf(pre l post:List UInt8)(s:Nat)(order:Int)(hl:l.length=s):gN (pre++(l++post)) pre.length s order=if order=1 then l.reverse else l:=by
 unfold gN
 rw[List.drop_left,<-hl,List.take_left]
theorem Z5(pre post:List UInt8)(n s:Nat)(order:Int)(h:n<256^s):gX (gN (pre++(aW n s order++post)) pre.length s order)=n:=by
 rw[Tf _ _ _ _ _ (er n s order)]
 unfold aW
 split
 ·rw[List.reverse_reverse,JA s n h]
 ·exact JA s n h
theorem get_at(pre post:List UInt8)(n s:Nat)(order:Int)(hs:s=1\/s=2\/s=4)(ho:order=1\/order=2)(h:n<256^s):oP (pre++(aW n s order++post)) pre.length s order=some (n:Int):=by
 rw[wM hs ho (by simp[er]),Z5 _ _ _ _ _ h]
theorem JB:∀(l:List UInt8),gX l<256^l.length:=by
 intro l
 induction h:l.length generalizing l with
 |zero=>rw[qS] at h;subst h;decide
 |succ k ih=>
  have cF:l≠[]:=by intro e;subst e;simp at h
  have e:=List.dropLast_concat_getLast cF
  rw[<-e,DA]
  have:=ih l.dropLast (by simp[h])
  have hb:=(l.getLast cF).toNat_lt
  rw[Nat.pow_succ]
  omega
theorem Ow:∀(k:Nat)(l:List UInt8),l.length=k->ee (gX l) k=l:=by
 intro k
 induction k with
 |zero=>intro l h;rw[qS] at h;subst h;rfl
 |succ k ih=>
  intro l h
  have cF:l≠[]:=by intro e;subst e;simp at h
  have e:=List.dropLast_concat_getLast cF
  have hb:=(l.getLast cF).toNat_lt
  conv=>lhs;rw[<-e,DA]
  show ee ((gX l.dropLast*256+(l.getLast cF).toNat)/256) k++[UInt8.ofNat ((gX l.dropLast*256+(l.getLast cF).toNat)%256)]=l
  have e1:(gX l.dropLast*256+(l.getLast cF).toNat)/256=gX l.dropLast:=by omega
  have e2:(gX l.dropLast*256+(l.getLast cF).toNat)%256=(l.getLast cF).toNat:=by omega
  rw[e1,e2,ih _ (by simp[h]),UInt8.ofNat_toNat]
  exact e
theorem ac8(l:List UInt8)(s:Nat)(order:Int)(h:l.length=s):aW (gX (if order=1 then l.reverse else l)) s order=l:=by
 unfold aW
 split
 ·rw[Ow s _ (by simp[h]),List.reverse_reverse]
 ·exact Ow s _ h
theorem aha{s n i:Nat}(hs:0<s)(hd:n%s=0)(hi:i<n):i -i%s+(s -1 -i%s)<n/\(i -i%s+(s -1 -i%s)) -(i -i%s+(s -1 -i%s))%s+(s -1 -(i -i%s+(s -1 -i%s))%s)=i:=by
 have hm:=Nat.mod_lt i hs
 obtain⟨q,hq⟩:∃q,n=s*q:=⟨n/s,by have:=Nat.div_add_mod n s;omega⟩
 have hdm:=Nat.div_add_mod i s
 obtain⟨a,ha⟩:∃a,i/s=a:=⟨_,rfl⟩
 obtain⟨r,hr⟩:∃r,i%s=r:=⟨_,rfl⟩
 rw[ha,hr] at hdm
 rw[hr] at hm
 rw[hr]
 have hi':i=s*a+r:=by omega
 have haq:a<q:=by
  have:s*a<s*q:=by omega
  exact Nat.lt_of_mul_lt_mul_left this
 have hle:s*(a+1)<=s*q:=Nat.mul_le_mul_left s haq
 rw[Nat.mul_add,gA] at hle
 have e:i -r+(s -1 -r)=s*a+(s -1 -r):=by omega
 have e2:(s*a+(s -1 -r))%s=s -1 -r:=by
  rw[Nat.mul_add_mod,qh (by omega)]
 rw[e,e2]
 omega
theorem ahb(l:List UInt8)(s:Nat)(order:Int)(hs:0<s)(hd:l.length%s=0):iM (iM l s order) s order=l:=by
 unfold iM
 split
 ·apply qR
  intro i
  rcases ir i l.length with h|h
  ·obtain⟨h1,h2⟩:=aha hs hd h
   rw[BX _ _ _ _ (by rw[pj];exact h),pj,au h,BX _ _ _ _ h1,au h1,h2,cW h]
   rfl
  ·rw[kS (by rw[pj,pj];exact h),kS h]
 ·rfl
def oZ(ty aw:Int)(b:List UInt8)(order:Int):Option (List UInt8):=
 if(kindOf ty).1 ≠0/\1<=aw/\aw<=65536/\aw*(kindOf ty).1 <=(b.length:Int)/\ej ty aw (iM (b.take (aw*(kindOf ty).1).toNat) (kindOf ty).2.1.toNat order)=true then
  some (iM (b.take (aw*(kindOf ty).1).toNat) (kindOf ty).2.1.toNat order) else none
theorem uR{ty aw:Int}{l:List UInt8}(h:ej ty aw l=true):(kindOf ty).1 ≠0/\1<=aw/\aw<=65536/\(l.length:Int)=aw*(kindOf ty).1 :=by
 unfold ej at h
 rw[bt,bZ] at h
 exact h.1
theorem Ry{ty aw order:Int}{l:List UInt8}(h:ej ty aw l=true)(post:List UInt8):oZ ty aw (iM l (kindOf ty).2.1.toNat order++post) order=some l:=by
 obtain⟨h1,h2,h3,h4⟩:=uR h
 obtain⟨s,q,e1,e2,e3⟩:=Rh h
 have hs:(kindOf ty).2.1.toNat=s:=by rw[e1];simp
 have hn:(aw*(kindOf ty).1).toNat=l.length:=by omega
 have ht:(iM l (kindOf ty).2.1.toNat order++post).take (aw*(kindOf ty).1).toNat=iM l (kindOf ty).2.1.toNat order:=by
  rw[hn]
  conv=>lhs;rw[<-vK l (kindOf ty).2.1.toNat order]
  exact List.take_left
 have hb:iM (iM l (kindOf ty).2.1.toNat order) (kindOf ty).2.1.toNat order=l:=by
  rw[hs]
  exact ahb l s order (by omega) (by rw[e2];exact Nat.mul_mod_left q s)
 unfold oZ
 rw[ht,hb,au ⟨h1,h2,h3,by simp[vK];omega,h⟩]
end
section
set_option linter.unusedVariables false
set_option linter.unusedSimpArgs false
set_option linter.unusedSectionVars false
set_option linter.constructorNameAsVariable false
structure aI where
 tag:Int
 ty:Int
 aw:Int
 data:List UInt8
 deriving DecidableEq
mutual
inductive aS where
 |mk (tags:List aI) (subs:cA) (blob:List UInt8)
inductive cA where
 |nil
 |cons (tag:Int) (d:aS) (r:cA)
end
structure mj where
 order:Int
 dO:List aS
structure iv where
 tag:Int
 shape:Int
structure aX where
 bJ:List iv
 at_:Int
 cw:Int
 next:Int
structure bj where
 tag:Int
 ty:Int
 aw:Int
 slot:Nat
 deriving DecidableEq
structure bk where
 nB:Int
 dir:Int
 tag:Int
 at_:Nat
 cw:Nat
 deriving DecidableEq
def iW(ty aw:Int):Int:=if aw<1\/65536<aw then 0 else aw*(kindOf ty).1
def bF(ty aw:Int):Nat:=if 4<iW ty aw then(iW ty aw).toNat else 0
def bX:cA->Nat
 | .nil=>0
 | .cons _ _ r=>bX r+1
def bB:aS->Nat
 | .mk tags subs blob=>tags.length+bX subs+(if blob.length=0 then 0 else 2)
def ca(e:Nat):List aI->Nat
 |[]=>e
 |t::ts=>if bF t.ty t.aw=0 then ca e ts else ca (aE e+bF t.ty t.aw) ts
mutual
def bq(e:Nat):aS->Nat
 | .mk tags subs blob=>
  if blob.length=0 then dZ (ca (aE e+(6+12*bB (.mk tags subs blob))) tags) subs
  else aE (dZ (ca (aE e+(6+12*bB (.mk tags subs blob))) tags) subs)+blob.length
def dZ(e:Nat):cA->Nat
 | .nil=>e
 | .cons _ d r=>dZ (bq e d) r
end
mutual
def dE:aS->Nat
 | .mk _ subs _=>iA subs+1
def iA:cA->Nat
 | .nil=>0
 | .cons _ d r=>dE d+iA r
end
def cS(no:Nat)(e:Nat):List aI->List bk
 |[]=>[]
 |t::ts=>if bF t.ty t.aw=0 then cS no e ts else⟨3,no,t.tag,aE e,bF t.ty t.aw⟩::cS no (aE e+bF t.ty t.aw) ts
mutual
def fS(no:Nat)(e:Nat):aS->List bk
 | .mk tags subs blob=>
  ⟨2,no,0,aE e,6+12*bB (.mk tags subs blob)⟩::
   (cS no (aE e+(6+12*bB (.mk tags subs blob))) tags++
    (ky (no+1) (ca (aE e+(6+12*bB (.mk tags subs blob))) tags) subs++
     (if blob.length=0 then[] else[⟨4,no,0,aE (dZ (ca (aE e+(6+12*bB (.mk tags subs blob))) tags) subs),blob.length⟩])))
def ky(no:Nat)(e:Nat):cA->List bk
 | .nil=>[]
 | .cons _ d r=>fS no e d++ky (no+dE d) (bq e d) r
end
def kQ(order:Int)(t:aI):List UInt8:=iM t.data (kindOf t.ty).2.1.toNat order
def oQ(order:Int)(t:aI):Nat:=gX (gN (kQ order t++List.replicate (4 -t.data.length) 0) 0 4 order)
def dW(order:Int)(e:Nat):List aI->List bj
 |[]=>[]
 |t::ts=>if bF t.ty t.aw=0 then⟨t.tag,t.ty,t.aw,oQ order t⟩::dW order e ts else⟨t.tag,t.ty,t.aw,aE e⟩::dW order (aE e+bF t.ty t.aw) ts
def hM(e:Nat):cA->List bj
 | .nil=>[]
 | .cons tag d r=>⟨tag,4,1,aE e⟩::hM (bq e d) r
def gS(S:aX)(e:Nat)(blob:List UInt8):List bj:=
 if blob.length=0 then[] else[⟨S.at_,4,1,aE e⟩,⟨S.cw,4,1,blob.length⟩]
def jS(x:bj):List bj->List bj
 |[]=>[x]
 |y::l=>if x.tag<=y.tag then x::y::l else y::jS x l
def fY:List bj->List bj
 |[]=>[]
 |x::l=>jS x (fY l)
def iT(order:Int)(x:bj):List UInt8:=aW x.tag.toNat 2 order++(aW x.ty.toNat 2 order++(aW x.aw.toNat 4 order++aW x.slot 4 order))
def kj(order:Int)(l:List bj)(next:Nat):List UInt8:=aW l.length 2 order++(l.flatMap (iT order)++aW next 4 order)
def dF(e:Nat):List UInt8:=if e%2=0 then[] else[0]
def gz(order:Int)(e:Nat):List aI->List UInt8
 |[]=>[]
 |t::ts=>if bF t.ty t.aw=0 then gz order e ts else dF e++(kQ order t++gz order (aE e+bF t.ty t.aw) ts)
def Rs:aX:=⟨[],0,0,-1⟩
def aN(sh:List aX)(s:Nat):aX:=(sh[s]?).getD Rs
def lk(S:aX)(tag:Int):Option Nat:=(S.bJ.find? λx=>x.tag==tag).map λx=>x.shape.toNat
mutual
def iS(order:Int)(sh:List aX)(s:Nat)(next:Nat)(e:Nat):aS->List UInt8
 | .mk tags subs blob=>
  dF e++(kj order (fY (dW order (aE e+(6+12*bB (.mk tags subs blob))) tags++
   (hM (ca (aE e+(6+12*bB (.mk tags subs blob))) tags) subs++
    gS (aN sh s) (dZ (ca (aE e+(6+12*bB (.mk tags subs blob))) tags) subs) blob))) next++
   (gz order (aE e+(6+12*bB (.mk tags subs blob))) tags++
    (jq order sh (aN sh s) (ca (aE e+(6+12*bB (.mk tags subs blob))) tags) subs++
     (if blob.length=0 then[] else dF (dZ (ca (aE e+(6+12*bB (.mk tags subs blob))) tags) subs)++blob))))
def jq(order:Int)(sh:List aX)(S:aX)(e:Nat):cA->List UInt8
 | .nil=>[]
 | .cons tag d r=>iS order sh ((lk S tag).getD 0) 0 e d++jq order sh S (bq e d) r
end
def fI:List aI->Bool
 |[]=>true
 |[_]=>true
 |a::b::l=>decide (a.tag<b.tag)&&fI (b::l)
def kO:cA->List Int
 | .nil=>[]
 | .cons tag _ r=>tag::kO r
def ny:List Int->Bool
 |[]=>true
 |[_]=>true
 |a::b::l=>decide (a<b)&&ny (b::l)
def ft(S:aX)(tag:Int):Bool:=decide (S.at_≠0)&&(decide (tag=S.at_)||decide (tag=S.cw))
def fj(S:aX)(tag:Int):Bool:=S.bJ.any λx=>x.tag==tag
def eC(S:aX)(tag:Int):Bool:=fj S tag||ft S tag
def mK(tag:Int):Bool:=decide (0<=tag/\tag<65536)
def jY(S:aX)(tags:List aI):Bool:=fI tags&&tags.all λt=>mK t.tag&&(!eC S t.tag&&ej t.ty t.aw t.data)
mutual
def cD(sh:List aX)(s:Nat):aS->Bool
 | .mk tags subs blob=>decide (1<=bB (.mk tags subs blob)/\bB (.mk tags subs blob)<=65535)&&(jY (aN sh s) tags&&
  ((decide (blob.length=0)||decide ((aN sh s).at_≠0))&&(ny (kO subs)&&iV sh (aN sh s) subs)))
def iV(sh:List aX)(S:aX):cA->Bool
 | .nil=>true
 | .cons tag d r=>fj S tag&&(cD sh ((lk S tag).getD 0) d&&iV sh S r)
end
theorem na(e:Nat):e<=aE e:=by unfold aE;omega
theorem Ix(e:Nat):aE e%2=0:=by unfold aE;omega
theorem pQ(e:Nat):e+(dF e).length=aE e:=by unfold dF aE;split<;>simp<;>omega
theorem qo:∀(ts:List aI)(e:Nat),e<=ca e ts
 |[],e=>aK _
 |t::ts,e=>by
  unfold ca
  split
  ·exact qo ts e
  ·have:=qo ts (aE e+bF t.ty t.aw)
   have:=na e
   omega
mutual
theorem zc:∀(d:aS)(e:Nat),e<=bq e d
 | .mk tags subs blob,e=>by
  unfold bq
  have h1:=na e
  have h2:=qo tags (aE e+(6+12*bB (.mk tags subs blob)))
  have h3:=sI subs (ca (aE e+(6+12*bB (.mk tags subs blob))) tags)
  have h4:=na (dZ (ca (aE e+(6+12*bB (.mk tags subs blob))) tags) subs)
  grind
theorem sI:∀(r:cA)(e:Nat),e<=dZ e r
 | .nil,e=>by unfold dZ;exact aK _
 | .cons _ d r,e=>by
  unfold dZ
  have h1:=zc d e
  have h2:=sI r (bq e d)
  omega
end
theorem Qo(x:bj):∀l,(jS x l).length=l.length+1
 |[]=>rfl
 |y::l=>by unfold jS;split<;>simp[Qo x l]
theorem wS:∀l,(fY l).length=l.length
 |[]=>rfl
 |x::l=>by rw[fY,Qo,wS l];rfl
theorem re(order:Int):∀(ts:List aI)(e:Nat),(dW order e ts).length=ts.length
 |[],_=>rfl
 |t::ts,e=>by unfold dW;split<;>simp[re order ts]
theorem zh:∀(r:cA)(e:Nat),(hM e r).length=bX r
 | .nil,_=>rfl
 | .cons _ d r,e=>by unfold hM bX;simp[zh r]
theorem CT(S:aX)(e:Nat)(blob:List UInt8):(gS S e blob).length=if blob.length=0 then 0 else 2:=by unfold gS;split<;>rfl
theorem Im(order:Int)(x:bj):(iT order x).length=12:=by simp[iT,er]
theorem wI(order:Int):∀l:List bj,(l.flatMap (iT order)).length=12*l.length
 |[]=>rfl
 |x::l=>by rw[dV,aR,Im,wI order l,bY];omega
theorem Ia(order:Int)(l:List bj)(next:Nat):(kj order l next).length=6+12*l.length:=by
 unfold kj;rw[aR,aR,er,wI,er];omega
theorem xf{t:aI}(h:ej t.ty t.aw t.data=true):bF t.ty t.aw=if t.data.length<=4 then 0 else t.data.length:=by
 obtain⟨h1,h2,h3,h4⟩:=uR h
 have hl:iW t.ty t.aw=(t.data.length:Int):=by unfold iW;rw[ai (by omega),h4]
 unfold bF
 grind
theorem yp(order:Int)(t:aI):(kQ order t).length=t.data.length:=vK _ _ _
theorem GQ(order:Int):∀(ts:List aI)(e:Nat),(∀t∈ts,ej t.ty t.aw t.data=true)->e+(gz order e ts).length=ca e ts
 |[],e,_=>rfl
 |t::ts,e,h=>by
  have ih:=λe=>GQ order ts e λt ht=>h t (by grind)
  unfold gz ca
  split
  ·grind
  ·rename_i hn
   have:=ih (aE e+bF t.ty t.aw)
   have hp:=pQ e
   rw[aR,aR,yp]
   have:bF t.ty t.aw=t.data.length:=by rw[(xf (h t (by simp)))] at hn⊢;split<;>simp_all
   omega
mutual
theorem sy(order:Int)(sh:List aX):∀(d:aS)(s next e:Nat),cD sh s d=true->e+(iS order sh s next e d).length=bq e d
 | .mk tags subs blob,s,next,e,h=>by
  simp[cD,jY,iq] at h
  obtain⟨h1,⟨h2,h3⟩,h4,h5,h6⟩:=h
  have hp:=pQ e
  have hv:=GQ order tags (aE e+(6+12*bB (.mk tags subs blob))) λt ht=>(h3 t ht).2.2
  have hs:=HS order sh subs (aN sh s) (ca (aE e+(6+12*bB (.mk tags subs blob))) tags) h6
  have hb:=pQ (dZ (ca (aE e+(6+12*bB (.mk tags subs blob))) tags) subs)
  have hn:(fY (dW order (aE e+(6+12*bB (.mk tags subs blob))) tags++(hM (ca (aE e+(6+12*bB (.mk tags subs blob))) tags) subs++
   gS (aN sh s) (dZ (ca (aE e+(6+12*bB (.mk tags subs blob))) tags) subs) blob))).length=bB (.mk tags subs blob):=by
   rw[wS,aR,aR,re,zh,CT]
   show _=tags.length+bX subs+(if blob.length=0 then 0 else 2)
   omega
  unfold iS bq
  rw[aR,aR,Ia,hn]
  split<;>grind
theorem HS(order:Int)(sh:List aX):∀(r:cA)(S:aX)(e:Nat),iV sh S r=true->e+(jq order sh S e r).length=dZ e r
 | .nil,S,e,_=>rfl
 | .cons tag d r,S,e,h=>by
  simp[iV] at h
  have h1:=sy order sh d ((lk S tag).getD 0) 0 e h.2.1
  have h2:=HS order sh r S (bq e d) h.2.2
  unfold jq dZ
  rw[aR]
  omega
end
end
section
set_option linter.unusedVariables false
set_option linter.unusedSimpArgs false
set_option linter.unusedSectionVars false
set_option linter.constructorNameAsVariable false
theorem Dd(x y:bj)(l:List bj):jS x (y::l)=if x.tag<=y.tag then x::y::l else y::jS x l:=rfl
theorem Jc{x y:bj}:∀{l:List bj},y∈jS x l↔y=x\/y∈l
 |[]=>by simp[jS]
 |z::l=>by
  unfold jS
  split
  ·simp
  ·simp[Jc]
   grind
theorem wT{y:bj}:∀{l:List bj},y∈fY l↔y∈l
 |[]=>by simp[fY]
 |x::l=>by rw[fY,Jc,wT];simp
def Up:List bj->Prop
 |[]=>True
 |x::l=>(∀y∈l,x.tag<=y.tag)/\Up l
theorem Qr(x:bj):∀{l:List bj},Up l->Up (jS x l)
 |[],_=>⟨λy h=>(by grind),trivial⟩
 |z::l,h=>by
  unfold jS
  split
  ·rename_i hz
   refine⟨λy hy=>?_,h⟩
   rcases cQ.1 hy with rfl|hy
   ·grind
   ·have:=h.1 y hy;omega
  ·rename_i hz
   refine⟨λy hy=>?_,Qr x h.2⟩
   rcases Jc.1 hy with rfl|hy
   ·omega
   ·exact h.1 y hy
theorem QB:∀l:List bj,Up (fY l)
 |[]=>trivial
 |x::l=>Qr x (QB l)
def eL:List bj->Bool
 |[]=>true
 |[_]=>true
 |a::b::l=>decide (a.tag<b.tag)&&eL (b::l)
theorem Qn{x:bj}:∀{l:List bj},(∀y∈l,x.tag<=y.tag)->jS x l=x::l
 |[],_=>rfl
 |z::l,h=>by unfold jS;rw[au (h z (by simp))]
theorem KN:∀{l:List bj},eL l=true->Up l
 |[],_=>trivial
 |[x],_=>⟨λy h=>(by grind),trivial⟩
 |a::b::l,h=>by
  simp[eL] at h
  have ih:=KN h.2
  refine⟨λy hy=>?_,ih⟩
  rcases cQ.1 hy with rfl|hy
  ·omega
  ·have:=ih.1 y hy;omega
theorem Dg:∀{l:List bj},eL l=true->fY l=l
 |[],_=>rfl
 |x::l,h=>by
  have hl:eL l=true:=by
   cases l with
   |nil=>rfl
   |cons b l=>simp[eL] at h;exact h.2
  rw[fY,Dg hl,Qn (KN h).1]
theorem PC(p:bj->Bool)(x:bj):∀{l:List bj},Up l->(jS x l).filter p=if p x=true then jS x (l.filter p) else l.filter p
 |[],_=>by
  show[x].filter p=_
  rw[kb]
  rfl
 |z::l,h=>by
  rw[Dd]
  by_cases hz:x.tag<=z.tag
  ·rw[au hz,kb]
   split
   ·rw[Qn]
    intro y hy
    have hy':=(oA.1 hy).1
    rcases cQ.1 hy' with rfl|hy'
    ·exact hz
    ·have:=h.1 y hy';omega
   ·rfl
  ·rw[ai hz,kb,(PC p x h.2)]
   by_cases hx:p x=true
   ·rw[kb]
    split
    ·rw[Dd,ai hz]
    ·rfl
   ·rw[ai hx,ai hx,kb]
theorem C0(p:bj->Bool):∀l:List bj,(fY l).filter p=fY (l.filter p)
 |[]=>rfl
 |x::l=>by
  rw[fY,PC p x (QB l),C0 p l,kb]
  split<;>rfl
theorem Qq{x:bj}:∀{l:List bj},eL l=true->(∀y∈l,y.tag≠x.tag)->eL (jS x l)=true
 |[],_,_=>rfl
 |[z],_,hn=>by
  have:=hn z (by simp)
  unfold jS
  split
  ·simp[eL];omega
  ·simp[jS,eL,jZ];omega
 |z::z'::l,h,hn=>by
  have h0:=hn z (by simp)
  simp[eL] at h
  have ih:=Qq (x:=x) h.2 λy hy=>hn y (by simp[hy])
  rw[Dd]
  split
  ·simp[eL];exact⟨by omega,h⟩
  ·rw[Dd] at ih⊢
   split
   ·rename_i hz hz'
    rw[au hz'] at ih
    simp[eL] at ih⊢
    exact⟨by omega,ih⟩
   ·rename_i hz hz'
    rw[ai hz'] at ih
    simp[eL]
    exact⟨h.1,ih⟩
def nG:List bj->Prop
 |[]=>True
 |x::l=>(∀y∈l,y.tag≠x.tag)/\nG l
theorem Jg:∀{l:List bj},nG l->eL (fY l)=true
 |[],_=>rfl
 |x::l,h=>by
  exact Qq (Jg h.2) λy hy=>h.1 y (wT.1 hy)
theorem yJ:∀{l:List bj},eL l=true->nG l
 |[],_=>trivial
 |[x],_=>⟨λy h=>(by grind),trivial⟩
 |a::b::l,h=>by
  simp[eL] at h
  refine⟨λy hy=>?_,yJ h.2⟩
  have:=(KN h.2).1
  grind
theorem Hu:∀{l k:List bj},nG l->nG k->(∀x∈l,∀y∈k,y.tag≠x.tag)->nG (l++k)
 |[],k,_,hk,_=>hk
 |x::l,k,hl,hk,h=>by
  refine⟨λy hy=>?_,Hu hl.2 hk λx hx=>h x (by grind)⟩
  rcases fK.1 hy with hy|hy
  ·exact hl.1 y hy
  grind
def cc(b:List UInt8)(p s:Nat)(order:Int):Nat:=((oP b p s order).getD 0).toNat
theorem nq{b pre post:List UInt8}{n s p:Nat}{order:Int}(e:b=pre++(aW n s order++post))(hp:p=pre.length)(hs:s=1\/s=2\/s=4)(ho:order=1\/order=2)(h:n<256^s):cc b p s order=n:=by
 unfold cc
 rw[e,hp,get_at _ _ _ _ _ hs ho h]
 simp
def zg(b:List UInt8)(p:Nat)(order:Int):bj:=⟨cc b p 2 order,cc b (p+2) 2 order,cc b (p+4) 4 order,cc b (p+8) 4 order⟩
structure mh(x:bj):Prop where
 tag:0<=x.tag/\x.tag<65536
 ty:0<=x.ty/\x.ty<65536
 aw:0<=x.aw/\x.aw<4294967296
 slot:x.slot<4294967296
theorem XG{b pre post:List UInt8}{p:Nat}{order:Int}{x:bj}(e:b=pre++(iT order x++post))(hp:p=pre.length)(ho:order=1\/order=2)(h:mh x):zg b p order=x:=by
 have e0:b=pre++(aW x.tag.toNat 2 order++(aW x.ty.toNat 2 order++(aW x.aw.toNat 4 order++(aW x.slot 4 order++post)))):=by rw[e];simp[iT]
 have e1:b=(pre++aW x.tag.toNat 2 order)++(aW x.ty.toNat 2 order++(aW x.aw.toNat 4 order++(aW x.slot 4 order++post))):=by rw[e0];simp
 have e2:b=(pre++aW x.tag.toNat 2 order++aW x.ty.toNat 2 order)++(aW x.aw.toNat 4 order++(aW x.slot 4 order++post)):=by rw[e0];simp
 have e3:b=(pre++aW x.tag.toNat 2 order++aW x.ty.toNat 2 order++aW x.aw.toNat 4 order)++(aW x.slot 4 order++post):=by rw[e0];simp
 unfold zg
 rw[(nq e0 hp (.inr (.inl rfl)) ho (by have:=h.tag;omega)),(nq (p:=p+2) e1 (by simp[er,hp]) (.inr (.inl rfl)) ho (by have:=h.ty;omega)),(nq (p:=p+4) e2 (by simp[er,hp]) (.inr (.inr rfl)) ho (by have:=h.aw;omega)),(nq (p:=p+8) e3 (by simp[er,hp]) (.inr (.inr rfl)) ho h.slot)]
 rw[mf h.tag.1,mf h.ty.1,mf h.aw.1]
def jO(b:List UInt8)(order:Int):Nat->Nat->List bj
 |_,0=>[]
 |p,n+1=>zg b p order::jO b order (p+12) n
theorem Pn{b:List UInt8}{order:Int}(ho:order=1\/order=2):∀(l:List bj)(pre post:List UInt8)(p:Nat),b=pre++(l.flatMap (iT order)++post)->p=pre.length->(∀x∈l,mh x)->jO b order p l.length=l
 |[],_,_,_,_,_,_=>rfl
 |x::l,pre,post,p,e,hp,h=>by
  rw[dV,dD] at e
  rw[bY,jO,XG e hp ho (h x (by simp))]
  congr 1
  refine Pn ho l (pre++iT order x) post (p+12) (by grind) (by simp[Im,hp]) λy hy=>h y (by grind)
def CF(S:List bk)(at_ cw:Nat):Bool:=S.any λs=>decide (max at_ s.at_<min (at_+cw) (s.at_+s.cw))
def kP(L:Nat)(S:List bk)(x:bk):Except Int (List bk):=
 if x.at_%2=0/\x.at_+x.cw<=L then(if CF S x.at_ x.cw=true then .error 5 else .ok (S++[x])) else .error 4
def lH(S:List bk)(e:Nat):Prop:=∀x∈S,x.at_+x.cw<=e
theorem NK{L:Nat}{S:List bk}{x:bk}{e:Nat}(hS:lH S e)(he:e<=x.at_)(h1:x.at_%2=0)(h2:x.at_+x.cw<=L):kP L S x=.ok (S++[x]):=by
 have hc:CF S x.at_ x.cw=false:=by
  unfold CF
  rw[List.any_eq_false]
  intro s hs
  have:=hS s hs
  grind
 unfold kP
 grind
theorem lH.add{S:List bk}{e:Nat}(h:lH S e){x:bk}{e':Nat}(h1:e<=e')(h2:x.at_+x.cw<=e'):lH (S++[x]) e':=by
 intro y hy
 rcases fK.1 hy with hy|hy
 ·have:=h y hy;omega
 grind
theorem lH.mono{S:List bk}{e e':Nat}(h:lH S e)(h1:e<=e'):lH S e':=λx hx=>fy (h x hx) h1
def rI(b:List UInt8)(order:Int)(no:Nat)(S:List bk)(x:bj):Except Int (aI×List bk):=
 if(kindOf x.ty).1 =0\/x.aw<1\/65536<x.aw then .error 6
 else if bF x.ty x.aw=0 then
  match oZ x.ty x.aw (aW x.slot 4 order) order with
  |some d=>.ok (⟨x.tag,x.ty,x.aw,d⟩,S)
  |none=>.error 6
 else match kP b.length S ⟨3,no,x.tag,x.slot,bF x.ty x.aw⟩ with
  | .error e=>.error e
  | .ok S'=>match oZ x.ty x.aw (b.drop x.slot) order with
   |some d=>.ok (⟨x.tag,x.ty,x.aw,d⟩,S')
   |none=>.error 6
def jU(own:Int->Bool)(b:List UInt8)(order:Int)(no:Nat):List bj->List bk->Except Int (List aI×List bk)
 |[],S=>.ok ([],S)
 |x::xs,S=>
  if own x.tag=true then(if x.ty=4/\x.aw=1 then jU own b order no xs S else .error 6)
  else match rI b order no S x with
   | .error e=>.error e
   | .ok (t,S1)=>match jU own b order no xs S1 with
    | .error e=>.error e
    | .ok (ts,S2)=>.ok (t::ts,S2)
def lX(rd:Nat->Nat->Nat->List bk->Except Int (aS×Nat×Nat×List bk))(S:aX):List bj->Nat->List bk->Except Int (cA×Nat×List bk)
 |[],no,Sp=>.ok (.nil,no,Sp)
 |x::xs,no,Sp=>match rd x.slot ((lk S x.tag).getD 0) no Sp with
  | .error e=>.error e
  | .ok (d,next,no1,S1)=>if next≠0 then .error 2 else match lX rd S xs no1 S1 with
   | .error e=>.error e
   | .ok (r,no2,S2)=>.ok (.cons x.tag d r,no2,S2)
def ko(b:List UInt8)(order:Int)(sh:List aX):Nat->Nat->Nat->Nat->List bk->Except Int (aS×Nat×Nat×List bk)
 |0,_,_,_,_=>.error 0
 |f+1,at_,s,no,Sp=>
  if at_%2=0/\at_+2<=b.length then
   if cc b at_ 2 order=0 then .error 2
   else match kP b.length Sp ⟨2,no,0,at_,6+12*cc b at_ 2 order⟩ with
    | .error e=>.error e
    | .ok S1=>
     if eL (jO b order (at_+2) (cc b at_ 2 order))=true then
      match jU (eC (aN sh s)) b order no (jO b order (at_+2) (cc b at_ 2 order)) S1 with
      | .error e=>.error e
      | .ok (tags,S2)=>
       if((jO b order (at_+2) (cc b at_ 2 order)).filter λx=>ft (aN sh s) x.tag).length=1 then .error 6
       else match lX (ko b order sh f) (aN sh s) ((jO b order (at_+2) (cc b at_ 2 order)).filter λx=>fj (aN sh s) x.tag) (no+1) S2 with
        | .error e=>.error e
        | .ok (subs,no',S3)=>
         match(jO b order (at_+2) (cc b at_ 2 order)).filter λx=>ft (aN sh s) x.tag with
         |[p,q]=>
          if q.slot=0 then .error 6
          else match kP b.length S3 ⟨4,no,0,p.slot,q.slot⟩ with
           | .error e=>.error e
           | .ok S4=>.ok (.mk tags subs ((b.drop p.slot).take q.slot),cc b (at_+2+12*cc b at_ 2 order) 4 order,no',S4)
         |_=>.ok (.mk tags subs [],cc b (at_+2+12*cc b at_ 2 order) 4 order,no',S3)
     else .error 2
  else .error 4
theorem TF{own:Int->Bool}{b:List UInt8}{order:Int}{no:Nat}:∀(l:List bj)(S:List bk),(∀x∈l,own x.tag=true->x.ty=4/\x.aw=1)->jU own b order no l S=jU (λ_=>false) b order no (l.filter λx=>!own x.tag) S
 |[],S,_=>rfl
 |x::xs,S,h=>by
  have ih:=λS=>TF (b:=b) (order:=order) (no:=no) xs S λy hy=>h y (by grind)
  rw[kb]
  by_cases hx:own x.tag=true
  ·rw[ai (by grind),jU,au hx,au (h x (by simp) hx),ih]
  ·rw[au (by grind),jU,jU]
   simp_all
theorem YL{t:aI}{order:Int}(hm:ej t.ty t.aw t.data=true)(ho:bF t.ty t.aw=0):oZ t.ty t.aw (aW (oQ order t) 4 order) order=some t.data:=by
 have hl:t.data.length<=4:=by
  have:=xf hm
  rw[ho] at this
  split at this
  ·assumption
  ·omega
 have hlen:(kQ order t++List.replicate (4 -t.data.length) (0:UInt8)).length=4:=by
  rw[aR,yp,tT];omega
 have e:aW (oQ order t) 4 order=kQ order t++List.replicate (4 -t.data.length) (0:UInt8):=by
  unfold oQ
  have:=Tf [] (kQ order t++List.replicate (4 -t.data.length) (0:UInt8)) [] 4 order hlen
  simp only[fU,dX,List.length_nil] at this
  rw[this]
  exact ac8 _ 4 order hlen
 rw[e]
 unfold kQ
 exact Ry hm _
theorem KG{b:List UInt8}{order:Int}{no:Nat}:∀(ts:List aI)(pre post:List UInt8)(e:Nat)(S:List bk),(∀t∈ts,ej t.ty t.aw t.data=true)->b=pre++(gz order e ts++post)->pre.length=e->lH S e->
 jU (λ_=>false) b order no (dW order e ts) S=.ok (ts,S++cS no e ts)/\lH (S++cS no e ts) (ca e ts)
 |[],pre,post,e,S,_,_,_,hS=>by
  refine⟨by simp[dW,jU,cS],?_⟩
  unfold ca cS
  simpa using hS
 |t::ts,pre,post,e,S,hm,hb,hp,hS=>by
  have hmt:=hm t (by simp)
  have hms:∀t∈ts,ej t.ty t.aw t.data=true:=λt ht=>hm t (by simp[ht])
  obtain⟨k1,k2,k3,k4⟩:=uR hmt
  by_cases ho:bF t.ty t.aw=0
  ·have hb':b=pre++(gz order e ts++post):=by rw[hb,gz,au ho]
   obtain⟨i1,i2⟩:=KG ts pre post e S hms hb' hp hS
   have hv:rI b order no S ⟨t.tag,t.ty,t.aw,oQ order t⟩=.ok (t,S):=by
    unfold rI
    rw[ai (by simp only;omega),au ho]
    simp only[YL hmt ho]
   refine⟨?_,by rw[cS,au ho,ca,au ho];exact i2⟩
   rw[dW,au ho,jU,ai (by simp),cS,au ho]
   simp_all
  ·have hb':b=pre++(dF e++(kQ order t++(gz order (aE e+bF t.ty t.aw) ts++post))):=by rw[hb,gz,ai ho];simp
   have hpe:pre.length+(dF e).length=aE e:=by rw[hp];exact pQ e
   have hol:bF t.ty t.aw=t.data.length:=by have:=xf hmt;rw[this] at ho⊢;split<;>simp_all
   have htk:kP b.length S ⟨3,no,t.tag,aE e,bF t.ty t.aw⟩=.ok (S++[⟨3,no,t.tag,aE e,bF t.ty t.aw⟩]):=NK hS (na e) (Ix e) (by rw[hb'];simp only[aR,yp];omega)
   have hd:b.drop (aE e)=kQ order t++(gz order (aE e+bF t.ty t.aw) ts++post):=by
    have:b=(pre++dF e)++(kQ order t++(gz order (aE e+bF t.ty t.aw) ts++post)):=by rw[hb'];simp
    rw[this,<-hpe,<-aR,List.drop_left]
   have hv:rI b order no S ⟨t.tag,t.ty,t.aw,aE e⟩=.ok (t,S++[⟨3,no,t.tag,aE e,bF t.ty t.aw⟩]):=by
    unfold rI
    rw[ai (by simp only;omega),ai ho]
    simp_all
    unfold kQ
    rw[Ry hmt]
   have hS1:lH (S++[⟨3,no,t.tag,aE e,bF t.ty t.aw⟩]) (aE e+bF t.ty t.aw):=hS.add (by have:=na e;omega) (aK _)
   obtain⟨i1,i2⟩:=KG (b:=b) (order:=order) (no:=no) ts (pre++(dF e++kQ order t)) post (aE e+bF t.ty t.aw) _ hms (by rw[hb'];simp) (by simp[yp];omega) hS1
   refine⟨?_,by rw[cS,ai ho,ca,ai ho];simpa using i2⟩
   rw[dW,ai ho,jU,hv,cS,ai ho]
   simp only[i1]
   simp
end
section
set_option linter.unusedVariables false
set_option linter.unusedSimpArgs false
set_option linter.unusedSectionVars false
set_option linter.constructorNameAsVariable false
theorem Jr{order:Int}{x:bj}:∀{ts:List aI}{e:Nat},x∈dW order e ts->∃t∈ts,x.tag=t.tag/\x.ty=t.ty/\x.aw=t.aw
 |[],e,h=>by cases h
 |t::ts,e,h=>by
  unfold dW at h
  split at h
  ·rcases cQ.1 h with rfl|h
   ·simp
   ·obtain⟨u,hu,r⟩:=Jr h
    grind
  ·rcases cQ.1 h with rfl|h
   ·simp
   ·obtain⟨u,hu,r⟩:=Jr h
    grind
theorem Ri{x:bj}:∀{r:cA}{e:Nat},x∈hM e r->x.tag∈kO r/\x.ty=4/\x.aw=1
 | .nil,e,h=>by unfold hM at h;cases h
 | .cons tag d r,e,h=>by
  unfold kO
  rcases cQ.1 h with rfl|h
  ·simp
  ·obtain⟨h1,h2⟩:=Ri h
   grind
theorem Pm{order:Int}:∀{ts:List aI}{e:Nat},fI ts=true->eL (dW order e ts)=true
 |[],e,_=>rfl
 |[t],e,_=>by unfold dW;split<;>rfl
 |t::u::ts,e,h=>by
  simp[fI] at h
  have key:∀(x:bj)(e':Nat),x.tag=t.tag->eL (x::dW order e' (u::ts))=true:=by
   intro x e' hx
   have ih:=Pm (order:=order) (e:=e') h.2
   rw[dW] at ih⊢
   split at ih
   ·rename_i ho
    rw[au ho]
    simp[eL]
    exact⟨by rw[hx];exact h.1,ih⟩
   ·rename_i ho
    rw[ai ho]
    simp[eL]
    exact⟨by rw[hx];exact h.1,ih⟩
  rw[dW]
  split<;>grind
theorem Pk:∀{r:cA}{e:Nat},ny (kO r)=true->eL (hM e r)=true
 | .nil,e,_=>rfl
 | .cons tag d .nil,e,_=>rfl
 | .cons tag d (.cons tag' d' r),e,h=>by
  simp[kO,ny] at h
  have ih:=Pk (r:=.cons tag' d' r) (e:=bq e d) (by simp only[kO];exact h.2)
  simp[hM,eL] at ih⊢
  simp_all
structure ua(S:aX):Prop where
 bJ:∀x∈S.bJ,0<=x.tag/\x.tag<65536/\ft S x.tag=false
 pair:S.at_≠0->1<=S.at_/\S.at_<S.cw/\S.cw<65536
theorem XH{S:aX}(hS:ua S){e:Nat}{blob:List UInt8}(h:blob.length=0\/S.at_≠0):eL (gS S e blob)=true:=by
 unfold gS
 split
 ·rfl
 ·have:=hS.pair (h.resolve_left (by grind))
  simp[eL];omega
theorem ZR{S:aX}{e:Nat}{blob:List UInt8}{x:bj}(h:blob.length=0\/S.at_≠0)(hx:x∈gS S e blob):ft S x.tag=true/\x.ty=4/\x.aw=1:=by
 unfold gS at hx
 split at hx
 ·grind
 ·have:=h.resolve_left (by grind)
  simp_all
  rcases hx with rfl|rfl<;>simp[ft,this]
theorem Jn{S:aX}{tag:Int}(h:fj S tag=true):∃x∈S.bJ,x.tag=tag:=by
 unfold fj at h
 grind
theorem C6{sh:List aX}{S:aX}:∀{r:cA},iV sh S r=true->∀tag∈kO r,fj S tag=true
 | .nil,_,tag,h=>by unfold kO at h;cases h
 | .cons t d r,h,tag,ht=>by
  simp[iV] at h
  simp[kO] at ht
  rcases ht with rfl|ht
  ·grind
  ·exact C6 h.2.2 tag ht
theorem ON{order:Int}{sh:List aX}{S:aX}(hS:ua S){tags:List aI}{subs:cA}{blob:List UInt8}{e1 e2 e3:Nat}(ht:jY S tags=true)(hb:blob.length=0\/S.at_≠0)(hr:ny (kO subs)=true)(hs:iV sh S subs=true){E:List bj}
 (hE:E=fY (dW order e1 tags++(hM e2 subs++gS S e3 blob))):
 eL E=true/\(E.filter λx=>!eC S x.tag)=dW order e1 tags/\(E.filter λx=>fj S x.tag)=hM e2 subs/\(E.filter λx=>ft S x.tag)=gS S e3 blob/\(∀x∈E,eC S x.tag=true->x.ty=4/\x.aw=1):=by
 simp[jY] at ht
 have lV:∀x∈dW order e1 tags,eC S x.tag=false:=λx hx=>by
  obtain⟨t,h1,h2,_⟩:=Jr hx
  rw[h2];exact(ht.2 t h1).2.1
 have lS:∀x∈hM e2 subs,fj S x.tag=true/\ft S x.tag=false/\x.ty=4/\x.aw=1:=λx hx=>by
  obtain⟨h1,h2⟩:=Ri hx
  have hl:=C6 hs _ h1
  obtain⟨y,y1,y2⟩:=Jn hl
  exact⟨hl,by rw[<-y2];exact(hS.bJ y y1).2.2,h2⟩
 have lB:∀x∈gS S e3 blob,fj S x.tag=false/\ft S x.tag=true/\x.ty=4/\x.aw=1:=λx hx=>by
  obtain⟨h1,h2⟩:=ZR hb hx
  refine⟨?_,h1,h2⟩
  cases hl:fj S x.tag with
  |false=>rfl
  |true=>
   obtain⟨y,y1,y2⟩:=Jn hl
   have:=(hS.bJ y y1).2.2
   rw[y2,h1] at this
   cases this
 have own_of:∀tag,eC S tag=(fj S tag||ft S tag):=λ_=>rfl
 have vV:=Pm (order:=order) (e:=e1) ht.1
 have vS:=Pk (e:=e2) hr
 have vB:=XH hS (e:=e3) hb
 have fall:∀(l:List bj)(p:bj->Bool),(∀x∈l,p x=true)->l.filter p=l:=λl p h=>List.filter_eq_self.2 h
 have fnone:∀(l:List bj)(p:bj->Bool),(∀x∈l,p x=false)->l.filter p=[]:=λl p h=>List.filter_eq_nil_iff.2 λx hx=>by simp_all
 have notlink:∀x∈dW order e1 tags,fj S x.tag=false/\ft S x.tag=false:=λx hx=>by
  have:=lV x hx
  rw[own_of,Bool.or_eq_false_iff] at this
  exact this
 subst hE
 refine⟨?_,?_,?_,?_,?_⟩
 ·refine Jg (Hu (yJ vV) (Hu (yJ vS) (yJ vB) ?_) ?_)
  ·intro x hx y hy e
   have:=(lS x hx).2.1
   rw[<-e,(lB y hy).2.1] at this
   cases this
  ·intro x hx y hy e
   rcases fK.1 hy with hy|hy<;>grind
 ·rw[C0,List.filter_append,List.filter_append,fall _ _ (λx hx=>by simp[lV x hx]),fnone _ _ (λx hx=>by simp[own_of,(lS x hx).1]),fnone _ _ (λx hx=>by simp_all)]
  simp
  exact Dg vV
 ·rw[C0,List.filter_append,List.filter_append,fnone _ _ (λx hx=>(notlink x hx).1),fall _ _ (λx hx=>(lS x hx).1),fnone _ _ (λx hx=>(lB x hx).1)]
  simp
  exact Dg vS
 ·rw[C0,List.filter_append,List.filter_append,fnone _ _ (λx hx=>(notlink x hx).2),fnone _ _ (λx hx=>(lS x hx).2.1),fall _ _ (λx hx=>(lB x hx).2.1)]
  exact Dg vB
 ·intro x hx ho
  rcases fK.1 (wT.1 hx) with hx|hx
  ·rw[lV x hx] at ho;cases ho
  ·rcases fK.1 hx with hx|hx
   ·exact(lS x hx).2.2
   ·exact(lB x hx).2.2
mutual
def fX:aS->Nat
 | .mk _ subs _=>jM subs+1
def jM:cA->Nat
 | .nil=>0
 | .cons _ d r=>max (fX d) (jM r)
end
theorem QL{ty:Int}(h:(kindOf ty).1 ≠0):0<=ty/\ty<65536:=by
 by_cases o:ty<1\/12<ty
 ·rw[Di o] at h;exact absurd rfl h
 grind
theorem adr(l:List UInt8)(order:Int):gX (gN l 0 4 order)<4294967296:=by
 have h:=JB (gN l 0 4 order)
 have hl:(gN l 0 4 order).length<=4:=by
  unfold gN;split<;>simp<;>omega
 have:256^(gN l 0 4 order).length<=256^4:=Nat.pow_le_pow_right (by simp) hl
 omega
theorem CU{S:aX}{order:Int}:∀{ts:List aI}{e:Nat},(∀t∈ts,mK t.tag=true/\ej t.ty t.aw t.data=true)->ca e ts<4294967296->∀x∈dW order e ts,mh x
 |[],_,_,_,x,hx=>by cases hx
 |t::ts,e,h,he,x,hx=>by
  obtain⟨h1,h2⟩:=h t (by simp)
  obtain⟨k1,k2,k3,k4⟩:=uR h2
  have hs:∀t∈ts,mK t.tag=true/\ej t.ty t.aw t.data=true:=λt ht=>h t (by simp[ht])
  have ht:0<=t.tag/\t.tag<65536:=by simpa[mK] using h1
  unfold dW at hx
  unfold ca at he
  split at hx
  ·rename_i ho
   rw[au ho] at he
   rcases cQ.1 hx with rfl|hx
   ·exact⟨ht,QL k1,by simp only;omega,adr _ _⟩
   ·exact CU (S:=S) hs he x hx
  ·rename_i ho
   rw[ai ho] at he
   have:=qo ts (aE e+bF t.ty t.aw)
   rcases cQ.1 hx with rfl|hx
   ·exact⟨ht,QL k1,by simp only;omega,by simp only;omega⟩
   ·exact CU (S:=S) hs he x hx
theorem Ip{S:aX}(hS:ua S):∀{r:cA}{e:Nat},(∀tag∈kO r,fj S tag=true)->dZ e r<4294967296->∀x∈hM e r,mh x
 | .nil,_,_,_,x,hx=>by unfold hM at hx;cases hx
 | .cons tag d r,e,h,he,x,hx=>by
  unfold dZ at he
  unfold kO at h
  have h0:=sI r (bq e d)
  have h1:aE e<4294967296:=by
   have:aE e<=bq e d:=by
    cases d with
    |mk tags subs blob=>
     unfold bq
     have h2:=qo tags (aE e+(6+12*bB (.mk tags subs blob)))
     have h3:=sI subs (ca (aE e+(6+12*bB (.mk tags subs blob))) tags)
     have h4:=na (dZ (ca (aE e+(6+12*bB (.mk tags subs blob))) tags) subs)
     split<;>omega
   omega
  rcases cQ.1 hx with rfl|hx
  ·obtain⟨y,y1,y2⟩:=Jn (h tag (by simp))
   have:=hS.bJ y y1
   exact⟨by simp only;omega,by simp only;omega,by simp only;omega,h1⟩
  ·exact Ip hS (λt ht=>h t (by simp[ht])) he x hx
theorem Kr{d:aS}{e:Nat}:aE e+6<=bq e d:=by
 cases d with
 |mk tags subs blob=>
  unfold bq
  have h2:=qo tags (aE e+(6+12*bB (.mk tags subs blob)))
  have h3:=sI subs (ca (aE e+(6+12*bB (.mk tags subs blob))) tags)
  have h4:=na (dZ (ca (aE e+(6+12*bB (.mk tags subs blob))) tags) subs)
  grind
mutual
theorem TH{order:Int}(ho:order=1\/order=2){sh:List aX}(hsh:∀s,ua (aN sh s)):∀(d:aS)(s next e f no:Nat)(Sp:List bk)(pre post b:List UInt8),
 cD sh s d=true->b=pre++(iS order sh s next e d++post)->pre.length=e->bq e d<4294967296->next<4294967296->lH Sp e->fX d<=f->
 ko b order sh f (aE e) s no Sp=.ok (d,next,no+dE d,Sp++fS no e d)/\lH (Sp++fS no e d) (bq e d)
 | .mk tags subs blob,s,next,e,0,no,Sp,pre,post,b,h,hb,hp,hlt,hnx,hSp,hf=>by unfold fX at hf;omega
 | .mk tags subs blob,s,next,e,f+1,no,Sp,pre,post,b,h,hb,hp,hlt,hnx,hSp,hf=>by
  have hlen:=sy order sh (.mk tags subs blob) s next e h
  simp only[cD,bt,rW,bZ] at h
  obtain⟨⟨n1,n2⟩,ht,hbl,hr,hs⟩:=h
  have htg:∀t∈tags,mK t.tag=true/\ej t.ty t.aw t.data=true:=λt h=>by
   simp only[jY,bt,iq] at ht
   exact⟨(ht.2 t h).1,(ht.2 t h).2.2⟩
  obtain⟨N,hN⟩:∃N,bB (.mk tags subs blob)=N:=⟨_,rfl⟩
  obtain⟨e1,he1⟩:∃e1,aE e+(6+12*N)=e1:=⟨_,rfl⟩
  obtain⟨e2,he2⟩:∃e2,ca e1 tags=e2:=⟨_,rfl⟩
  obtain⟨e3,he3⟩:∃e3,dZ e2 subs=e3:=⟨_,rfl⟩
  obtain⟨S,hS⟩:∃S,aN sh s=S:=⟨_,rfl⟩
  have hSo:=hsh s
  rw[hS] at hSo ht hbl hs
  have g1:=na e
  have g2:=qo tags e1
  have g3:=sI subs e2
  have g4:=na e3
  rw[he2] at g2
  rw[he3] at g3
  have hend:bq e (.mk tags subs blob)=if blob.length=0 then e3 else aE e3+blob.length:=by rw[bq,hN,he1,he2,he3]
  rw[hend] at hlt hlen
  have h3lt:e3<4294967296/\(blob.length=0\/aE e3+blob.length<4294967296):=by split at hlt<;>omega
  obtain⟨E,hE⟩:∃E,fY (dW order e1 tags++(hM e2 subs++gS S e3 blob))=E:=⟨_,rfl⟩
  obtain⟨c1,c2,c3,c4,c5⟩:=ON hSo ht hbl hr hs hE.symm
  have hEn:E.length=N:=by
   rw[<-hE,wS,aR,aR,re,zh,CT,<-hN]
   show _=tags.length+bX subs+(if blob.length=0 then 0 else 2)
   omega
  have hEo:∀x∈E,mh x:=by
   intro x hx
   rw[<-hE] at hx
   rcases fK.1 (wT.1 hx) with hx|hx
   ·exact CU (S:=S) htg (by rw[he2];omega) x hx
   ·rcases fK.1 hx with hx|hx
    ·exact Ip hSo (C6 hs) (by rw[he3];omega) x hx
    ·unfold gS at hx
     split at hx
     ·cases hx
     ·have hat:=hSo.pair (hbl.resolve_left (by assumption))
      simp only[cQ,mP,mS] at hx
      rcases hx with rfl|rfl
      ·exact⟨by simp only;omega,by simp only;omega,by simp only;omega,by simp only;omega⟩
      ·exact⟨by simp only;omega,by simp only;omega,by simp only;omega,by simp only;omega⟩
  obtain⟨bl,hblob⟩:∃bl,(if blob.length=0 then[] else dF e3++blob)=bl:=⟨_,rfl⟩
  have hbd:iS order sh s next e (.mk tags subs blob)=dF e++(kj order E next++(gz order e1 tags++(jq order sh S e2 subs++bl))):=by
   rw[iS,hN,he1,he2,he3,hS,hE,hblob]
  rw[hbd] at hlen hb
  have je:=Ia order E next
  rw[hEn] at je
  have hpl:=pQ e
  have hvl:=GQ order tags e1 λt h=>(htg t h).2
  have hsl:=HS order sh subs S e2 hs
  rw[he2] at hvl
  rw[he3] at hsl
  have hbL:b.length=e1+(gz order e1 tags).length+(jq order sh S e2 subs).length+bl.length+post.length:=by
   rw[hb];simp only[aR,je];omega
  have hbll:bl.length=if blob.length=0 then 0 else aE e3 -e3+blob.length:=by
   rw[<-hblob]
   have:=pQ e3
   split
   ·rfl
   ·rw[aR];omega
  have hat:aE e=(pre++dF e).length:=by rw[aR];omega
  have hnum:cc b (aE e) 2 order=N:=by
   refine nq (pre:=pre++dF e) (post:=(E.flatMap (iT order)++aW next 4 order)++(gz order e1 tags++(jq order sh S e2 subs++(bl++post)))) ?_ hat (.inr (.inl rfl)) ho (by omega)
   rw[hb,kj,hEn];simp
  have hents:jO b order (aE e+2) N=E:=by
   have:=Pn ho E (pre++(dF e++aW N 2 order)) (aW next 4 order++(gz order e1 tags++(jq order sh S e2 subs++(bl++post)))) (aE e+2) (b:=b) (by rw[hb,kj,hEn];simp) (by simp only[aR,er];omega) hEo
   rwa[hEn] at this
  have hnext:cc b (aE e+2+12*N) 4 order=next:=by
   refine nq (pre:=pre++(dF e++(aW N 2 order++E.flatMap (iT order)))) (post:=gz order e1 tags++(jq order sh S e2 subs++(bl++post))) (by rw[hb,kj,hEn];simp) ?_ (.inr (.inr rfl)) ho (by omega)
   simp only[aR,er,wI,hEn];omega
  have hee:=Ix e
  have htk:kP b.length Sp ⟨2,no,0,aE e,6+12*N⟩=.ok (Sp++[⟨2,no,0,aE e,6+12*N⟩]):=NK hSp g1 hee (by simp only;omega)
  have hS1:lH (Sp++[⟨2,no,0,aE e,6+12*N⟩]) e1:=hSp.add (by omega) (by simp only;omega)
  obtain⟨v1,v2⟩:=KG (b:=b) (order:=order) (no:=no) tags (pre++(dF e++kj order E next)) (jq order sh S e2 subs++(bl++post)) e1 _ (λt h=>(htg t h).2) (by rw[hb];simp) (by simp only[aR,je];omega) hS1
  rw[he2] at v2
  have hT:jU (eC S) b order no E (Sp++[⟨2,no,0,aE e,6+12*N⟩])=.ok (tags,Sp++[⟨2,no,0,aE e,6+12*N⟩]++cS no e1 tags):=by
   rw[TF E _ c5,c2];exact v1
  have jQ:jM subs<=f:=by unfold fX at hf;omega
  obtain⟨s1,s2⟩:=TI ho hsh subs S e2 f (no+1) (Sp++[⟨2,no,0,aE e,6+12*N⟩]++cS no e1 tags) (pre++(dF e++(kj order E next++gz order e1 tags))) (bl++post) b hs (by rw[hb];simp) (by simp only[aR,je];omega) (by rw[he3];omega) v2 jQ
  rw[he3] at s2
  have sP:no+dE (.mk tags subs blob)=no+1+iA subs:=by unfold dE;omega
  have hsp:fS no e (.mk tags subs blob)=⟨2,no,0,aE e,6+12*N⟩::(cS no e1 tags++(ky (no+1) e2 subs++(if blob.length=0 then[] else[⟨4,no,0,aE e3,blob.length⟩]))):=by
   rw[fS,hN,he1,he2,he3]
  rw[sP,hsp,hend]
  unfold ko
  rw[au ⟨hee,by omega⟩,hnum,ai (by omega)]
  simp only[htk]
  rw[hents,au c1,hS]
  simp only[hT]
  rw[c4,c3]
  by_cases hz:blob.length=0
  ·have hB:gS S e3 blob=[]:=by unfold gS;rw[au hz]
   have hbl0:blob=[]:=kR hz
   rw[hB,ai (by simp)]
   simp only[s1,hnext,au hz,dX]
   subst hbl0
   refine⟨by simp,by simpa using s2⟩
  ·have hB:gS S e3 blob=[⟨S.at_,4,1,aE e3⟩,⟨S.cw,4,1,blob.length⟩]:=by unfold gS;rw[ai hz]
   rw[ai hz] at hblob hbll
   rw[hB,ai (by simp)]
   simp only[s1]
   rw[ai hz]
   have htb:kP b.length (Sp++[⟨2,no,0,aE e,6+12*N⟩]++cS no e1 tags++ky (no+1) e2 subs) ⟨4,no,0,aE e3,blob.length⟩=.ok (Sp++[⟨2,no,0,aE e,6+12*N⟩]++cS no e1 tags++ky (no+1) e2 subs++[⟨4,no,0,aE e3,blob.length⟩]):=
    NK s2 g4 (Ix e3) (by simp only;omega)
   simp only[htb]
   have hdrop:(b.drop (aE e3)).take blob.length=blob:=by
    have hp3:=pQ e3
    have e':b=(pre++(dF e++(kj order E next++(gz order e1 tags++(jq order sh S e2 subs++dF e3)))))++(blob++post):=by rw[hb,<-hblob];simp
    have el:(pre++(dF e++(kj order E next++(gz order e1 tags++(jq order sh S e2 subs++dF e3))))).length=aE e3:=by simp only[aR,je];omega
    rw[e',<-el,List.drop_left,List.take_left]
   rw[hdrop,hnext,ai hz,ai hz]
   refine⟨by simp,?_⟩
   have:=s2.add (x:=⟨4,no,0,aE e3,blob.length⟩) (e':=aE e3+blob.length) (by omega) (aK _)
   simpa using this
theorem TI{order:Int}(ho:order=1\/order=2){sh:List aX}(hsh:∀s,ua (aN sh s)):∀(r:cA)(S:aX)(e f no:Nat)(Sp:List bk)(pre post b:List UInt8),
 iV sh S r=true->b=pre++(jq order sh S e r++post)->pre.length=e->dZ e r<4294967296->lH Sp e->jM r<=f->
 lX (ko b order sh f) S (hM e r) no Sp=.ok (r,no+iA r,Sp++ky no e r)/\lH (Sp++ky no e r) (dZ e r)
 | .nil,S,e,f,no,Sp,pre,post,b,h,hb,hp,hlt,hSp,hf=>by
  unfold hM ky dZ iA
  refine⟨by simp[lX],by simpa using hSp⟩
 | .cons tag d r,S,e,f,no,Sp,pre,post,b,h,hb,hp,hlt,hSp,hf=>by
  simp only[iV,bt] at h
  unfold dZ at hlt
  unfold jM at hf
  have g:=sI r (bq e d)
  rw[jq,dD] at hb
  have hl:=sy order sh d ((lk S tag).getD 0) 0 e h.2.1
  obtain⟨d1,d2⟩:=TH ho hsh d ((lk S tag).getD 0) 0 e f no Sp pre (jq order sh S (bq e d) r++post) b h.2.1 hb hp (by omega) (by omega) hSp (by omega)
  obtain⟨r1,r2⟩:=TI ho hsh r S (bq e d) f (no+dE d) _ (pre++iS order sh ((lk S tag).getD 0) 0 e d) post b h.2.2 (by rw[hb];simp) (by rw[aR];omega) hlt d2 (by omega)
  unfold hM ky dZ iA
  refine⟨?_,by simpa using r2⟩
  rw[lX]
  simp only[d1,r1]
  simp[qg]
end
end
section
set_option linter.unusedVariables false
set_option linter.unusedSimpArgs false
set_option linter.unusedSectionVars false
set_option linter.constructorNameAsVariable false
structure iQ(sh:List aX):Prop where
 ok:∀s,ua (aN sh s)
 bJ:∀s,s<sh.length->∀x∈(aN sh s).bJ,(s:Int)<x.shape/\x.shape<sh.length
 next:∀s,s<sh.length->(aN sh s).next<0\/((s:Int)<(aN sh s).next/\(aN sh s).next<sh.length)
theorem ZA{S:aX}{tag:Int}(h:fj S tag=true):∃x∈S.bJ,(lk S tag).getD 0=x.shape.toNat:=by
 unfold fj at h
 unfold lk
 cases hf:S.bJ.find? (λx=>x.tag==tag) with
 |none=>grind
 |some x=>grind
mutual
theorem OX{sh:List aX}(hsh:iQ sh):∀(d:aS)(s:Nat),cD sh s d=true->s<sh.length->fX d+s<=sh.length
 | .mk tags subs blob,s,h,hs=>by
  simp[cD] at h
  have:=OY hsh subs s h.2.2.2.2 hs
  unfold fX;omega
theorem OY{sh:List aX}(hsh:iQ sh):∀(r:cA)(s:Nat),iV sh (aN sh s) r=true->s<sh.length->jM r+s+1<=sh.length
 | .nil,s,_,hs=>by unfold jM;omega
 | .cons tag d r,s,h,hs=>by
  simp[iV] at h
  obtain⟨x,hx,e⟩:=ZA h.1
  have hl:=hsh.bJ s hs x hx
  have h1:=OX hsh d ((lk (aN sh s) tag).getD 0) h.2.1 (by grind)
  have h2:=OY hsh r s h.2.2 hs
  unfold jM
  omega
end
def ef(e:Nat):List aS->Nat
 |[]=>e
 |d::ds=>ef (bq e d) ds
def iK:List aS->Nat
 |[]=>0
 |d::ds=>dE d+iK ds
def jk(no e:Nat):List aS->List bk
 |[]=>[]
 |d::ds=>fS no e d++jk (no+dE d) (bq e d) ds
def oX(e:Nat)(d:aS)(ds:List aS):Nat:=if ds.isEmpty then 0 else aE (bq e d)
def kh(order:Int)(sh:List aX)(s:Int)(e:Nat):List aS->List UInt8
 |[]=>[]
 |d::ds=>iS order sh s.toNat (oX e d ds) e d++kh order sh (aN sh s.toNat).next (bq e d) ds
def gw(sh:List aX)(s:Int):List aS->Bool
 |[]=>true
 |d::ds=>decide (0<=s)&&(cD sh s.toNat d&&gw sh (aN sh s.toNat).next ds)
def ed(t:mj)(sh:List aX):List UInt8:=
 (if t.order=1 then[73,73] else[77,77])++(aW 42 2 t.order++(aW 8 4 t.order++kh t.order sh 0 8 t.dO))
def eY(t:mj):List bk:=⟨1,-1,0,0,8⟩::jk 0 8 t.dO
def gP(t:mj):Nat:=ef 8 t.dO
def oa(b:List UInt8)(order:Int)(sh:List aX):Nat->Bool->Nat->Int->Nat->List bk->Except Int (List aS×List bk)
 |0,_,_,_,_,_=>.error 0
 |f+1,first,at_,s,no,Sp=>
  if at_=0/\first=false then .ok ([],Sp)
  else if s<0 then .error 2
  else match ko b order sh sh.length at_ s.toNat no Sp with
   | .error e=>.error e
   | .ok (d,next,no1,S1)=>match oa b order sh f false next (aN sh s.toNat).next no1 S1 with
    | .error e=>.error e
    | .ok (ds,S2)=>.ok (d::ds,S2)
def ll(b:List UInt8):Int:=if b.take 2=[73,73] then 1 else if b.take 2=[77,77] then 2 else 0
def vO(b:List UInt8)(sh:List aX):Except Int (mj×List bk):=
 if b.length<8 then .error 3
 else if ll b=0\/cc b 2 2 (ll b)≠42 then .error 2
 else match oa b (ll b) sh (sh.length+2) true (cc b 4 4 (ll b)) 0 0 [⟨1,-1,0,0,8⟩] with
  | .error e=>.error e
  | .ok (ds,S)=>.ok (⟨ll b,ds⟩,S)
theorem OL{order:Int}{sh:List aX}:∀(ds:List aS)(s:Int)(e:Nat),gw sh s ds=true->e+(kh order sh s e ds).length=ef e ds
 |[],_,_,_=>rfl
 |d::ds,s,e,h=>by
  simp[gw] at h
  have h1:=sy order sh d s.toNat (oX e d ds) e h.2.1
  have h2:=OL (order:=order) ds (aN sh s.toNat).next (bq e d) h.2.2
  rw[kh,ef,aR]
  omega
theorem pK:∀(ds:List aS)(e:Nat),e<=ef e ds
 |[],e=>aK _
 |d::ds,e=>by
  have:=zc d e
  have:=pK ds (bq e d)
  rw[ef];omega
theorem TG{order:Int}(ho:order=1\/order=2){sh:List aX}(hsh:iQ sh):∀(ds:List aS)(s:Int)(e f no:Nat)(first:Bool)(Sp:List bk)(pre b:List UInt8),
 gw sh s ds=true->(first=true->ds≠[])->s<sh.length->b=pre++kh order sh s e ds->pre.length=e->0<e->ef e ds<4294967296->lH Sp e->((sh.length:Int) -s).toNat+2<=f->
 oa b order sh f first (if ds.isEmpty then 0 else aE e) s no Sp=.ok (ds,Sp++jk no e ds)
 |[],s,e,f+1,no,first,Sp,pre,b,h,hfi,hs,hb,hp,he,hlt,hSp,hf=>by
  have:first=false:=by cases first with
   |false=>rfl
   |true=>exact absurd rfl (hfi rfl)
  subst this
  rw[oa]
  simp[jk]
 |d::ds,s,e,f+1,no,first,Sp,pre,b,h,hfi,hs,hb,hp,he,hlt,hSp,hf=>by
  simp[gw] at h
  obtain⟨h0,h1,h2⟩:=h
  have g1:=na e
  have g3:=pK ds (bq e d)
  rw[ef] at hlt
  rw[kh] at hb
  have hl:=sy order sh d s.toNat (oX e d ds) e h1
  have hnx:oX e d ds<4294967296:=by
   unfold oX
   split
   ·decide
   ·cases ds with
    |nil=>rename_i hh;exact absurd rfl hh
    |cons d' ds=>
     have:=Kr (d:=d') (e:=bq e d)
     have:=pK ds (bq (bq e d) d')
     rw[ef] at hlt g3
     omega
  obtain⟨d1,d2⟩:=TH ho hsh.ok d s.toNat (oX e d ds) e sh.length no Sp pre (kh order sh (aN sh s.toNat).next (bq e d) ds) b h1 hb hp (by omega) hnx hSp (by have:=OX hsh d s.toNat h1 (by omega);omega)
  have hnext:=hsh.next s.toNat (by omega)
  have hr:oa b order sh f false (oX e d ds) (aN sh s.toNat).next (no+dE d) (Sp++fS no e d)=.ok (ds,Sp++fS no e d++jk (no+dE d) (bq e d) ds):=by
   cases ds with
   |nil=>
    cases f with
    |zero=>omega
    |succ f=>rw[oa,au ⟨rfl,rfl⟩];simp[jk]
   |cons d' ds=>
    have hn:0<=(aN sh s.toNat).next:=by
     simp[gw] at h2
     exact h2.1
    have:=TG ho hsh (d'::ds) (aN sh s.toNat).next (bq e d) f (no+dE d) false (Sp++fS no e d) (pre++iS order sh s.toNat (oX e d (d'::ds)) e d) b h2 (by intro h;cases h) (by omega) (by rw[hb];simp) (by rw[aR];omega) (by omega) hlt d2 (by omega)
    exact this
  rw[oa,ai (by simp;omega),ai (by omega)]
  simp_all
  simp[jk]
 |_,s,e,0,no,first,Sp,pre,b,h,hfi,hs,hb,hp,he,hlt,hSp,hf=>by omega
theorem yj{t:mj}{sh:List aX}(h:gw sh 0 t.dO=true):(ed t sh).length=gP t:=by
 have:=OL (order:=t.order) t.dO 0 8 h
 simp[ed,gP,er]
 grind
theorem Wh{t:mj}{sh:List aX}(ho:t.order=1\/t.order=2)(hsh:iQ sh)(hl:0<sh.length)(cF:t.dO≠[])(h:gw sh 0 t.dO=true)(hlt:gP t<4294967296):vO (ed t sh) sh=.ok (t,eY t):=by
 have h8:=pK t.dO 8
 have hord:ll (ed t sh)=t.order:=by
  unfold ll ed
  rcases ho with e|e<;>rw[e]<;>simp
 obtain⟨sg,hsg⟩:∃sg,(if t.order=1 then[73,73] else[77,77]:List UInt8)=sg:=⟨_,rfl⟩
 have hsl:sg.length=2:=by rw[<-hsg];split<;>rfl
 have hb:ed t sh=sg++(aW 42 2 t.order++(aW 8 4 t.order++kh t.order sh 0 8 t.dO)):=by unfold ed;rw[hsg]
 have hat:cc (ed t sh) 4 4 t.order=8:=nq (pre:=sg++aW 42 2 t.order) (post:=kh t.order sh 0 8 t.dO) (by rw[hb];simp) (by simp[hsl,er]) (.inr (.inr rfl)) ho (by decide)
 have hr:=TG ho hsh t.dO 0 8 (sh.length+2) 0 true [⟨1,-1,0,0,8⟩] (sg++(aW 42 2 t.order++aW 8 4 t.order)) (ed t sh) h (λ_=>cF) (by omega) (by rw[hb];simp) (by simp[hsl,er]) (by decide) hlt (by intro x hx;rw[oB.1 hx];decide) (by omega)
 have hem:t.dO.isEmpty=false:=by
  cases hd:t.dO with
  |nil=>exact absurd hd cF
  |cons _ _=>rfl
 rw[hem] at hr
 unfold vO
 rw[ai (by rw[(yj h)];unfold gP;omega),hord,(nq hb hsl.symm (.inr (.inl rfl)) ho (by decide)),ai (by rcases ho with e|e<;>rw[e]<;>simp)]
 rw[(show(if false=true then 0 else aE 8)=8 from rfl)] at hr
 simp_all
 rfl
end
section
set_option linter.unusedVariables false
set_option linter.unusedSimpArgs false
set_option linter.unusedSectionVars false
set_option linter.constructorNameAsVariable false
def Qc(d:Int):List ((Int×Int)×List Int×Int):=
 ([0x0100,0x0101].map λt=>((d,t),[3,4],1))++([0x0103,0x0112,0x0128,0x0213].map λt=>((d,t),[3],1))++
 ([0x010e,0x010f,0x0110,0x0131,0x013b,0x8298].map λt=>((d,t),[2],0))++[((d,0x0132),[2],20),((d,0x011a),[5],1),((d,0x011b),[5],1)]
def adp(d:Int):List ((Int×Int)×List Int×Int):=
 ([0x829a,0x829d,0x9202,0x920a].map λt=>((d,t),[5],1))++([0x8822,0x9207,0x9208,0x9209,0xa001,0xa402].map λt=>((d,t),[3],1))++
 ([0x9000,0x9101,0xa000].map λt=>((d,t),[7],4))++([0x9201,0x9204].map λt=>((d,t),[10],1))++([0x9003,0x9004].map λt=>((d,t),[2],20))++
 ([0xa002,0xa003].map λt=>((d,t),[3,4],1))++[((d,0x8827),[3],0),((d,0x9286),[7],0),((d,0x9290),[2],0),((d,0xa300),[7],1),((d,0xa420),[2],33),((d,0xa432),[5],4)]
def Yn(d:Int):List ((Int×Int)×List Int×Int):=
 [((d,0x00),[1],4),((d,0x05),[1],1),((d,0x06),[5],1)]++([0x01,0x03].map λt=>((d,t),[2],2))++([0x02,0x04,0x07].map λt=>((d,t),[5],3))++
 [((d,0x12),[2],0),((d,0x1d),[2],11)]
def ahh(d:Int):List ((Int×Int)×List Int×Int):=
 [((d,0xb000),[7],4)]++([0xb101,0xb201,0xb202].map λt=>((d,t),[4],1))++([0xb204,0xb206].map λt=>((d,t),[5],1))++([0xb205,0xb208].map λt=>((d,t),[10],1))
def T7:List ((Int×Int)×List Int×Int):=
 Qc 0++Qc 1++adp 2++Yn 3++[((4,1),[2],4),((4,2),[7],4)]++ahh 5
def KW(d t:Int):Option (List Int×Int):=T7.lookup (d,t)
def o8:List (Int×Int):=[(0,0x8769),(0,0x8825),(1,0x0201),(1,0x0202),(2,0x927c),(2,0xa005),(5,0xb001),(5,0xb002)]
def rA(d:Int)(x:aI):Bool:=
 decide (0<=d/\d<6/\0<=x.tag/\x.tag<=65535)&&!o8.contains (d,x.tag)&&ej x.ty x.aw x.data&&
  (match KW d x.tag with
   |none=>true
   |some (l,c)=>l.contains x.ty&&(c==0||c==x.aw))
def cV(d:Int)(l:List aI):Bool:=fI l&&l.all (rA d)&&decide (0<=d/\d<6)
structure dr where
 order:Int
 ct:List aI
 bI:List aI
 bN:List aI
 bn:List aI
 first:List aI
 bH:List UInt8
 cP:List UInt8
 deriving DecidableEq
def iJ(x:dr):Int:=
 if¬(x.order=1\/x.order=2) then 1
 else if(cV 0 x.ct&&(cV 2 x.bI&&(cV 3 x.bN&&(cV 4 x.bn&&cV 1 x.first))))=false then 6
 else if 65536<x.bH.length\/(x.ct.length=0/\x.bI.length=0/\x.bN.length=0/\x.bn.length=0/\x.bH.length=0) then 6
 else 0
theorem sD{x:dr}(h:iJ x=0):(x.order=1\/x.order=2)/\cV 0 x.ct=true/\cV 2 x.bI=true/\cV 3 x.bN=true/\cV 4 x.bn=true/\cV 1 x.first=true/\x.bH.length<=65536/\
 ¬(x.ct.length=0/\x.bI.length=0/\x.bN.length=0/\x.bn.length=0/\x.bH.length=0):=by
 unfold iJ at h
 grind
def iB(l:List aI)(tag:Int):Option aI:=l.find? λx=>x.tag==tag
def oL(l:List aI)(tag:Int):List aI:=l.filter λx=>x.tag !=tag
def jW(l:List aI)(x:aI):List aI:=(l.filter λy=>decide (y.tag<x.tag))++x::l.filter λy=>decide (x.tag<y.tag)
theorem Ed:∀{a:aI}{l:List aI},fI (a::l)=true->fI l=true/\∀y∈l,a.tag<y.tag
 |a,[],_=>⟨rfl,λy h=>by cases h⟩
 |a,b::l,h=>by
  simp[fI] at h
  obtain⟨h1,h2⟩:=Ed h.2
  grind
theorem KL{a:aI}:∀{l:List aI},fI l=true->(∀y∈l,a.tag<y.tag)->fI (a::l)=true
 |[],_,_=>rfl
 |b::l,h,g=>by
  simp[fI]
  simp_all
theorem wJ{α:Type}{p:α->Bool}:∀{l:List α},(∀y∈l,p y=true)->l.filter p=l
 |[],_=>rfl
 |a::l,h=>by simp_all
theorem filter_nil{α:Type}{p:α->Bool}:∀{l:List α},(∀y∈l,p y=false)->l.filter p=[]
 |[],_=>rfl
 |a::l,h=>by simp_all
theorem Vz(t:Int):∀{l:List aI},fI l=true->(∀y∈l,y.tag≠t)->(l.filter λy=>decide (y.tag<t))++(l.filter λy=>decide (t<y.tag))=l
 |[],_,_=>rfl
 |a::l,h,hn=>by
  obtain⟨h1,h2⟩:=Ed h
  have h0:=hn a (by simp)
  by_cases c:a.tag<t
  ·rw[kb,au (by grind),kb,ai (by simp;omega),fo,(Vz t h1 λy hy=>hn y (by simp[hy]))]
  ·rw[kb,ai (by grind),kb,au (by simp;omega)]
   rw[filter_nil (λy hy=>by have:=h2 y hy;simp;omega),wJ (λy hy=>by have:=h2 y hy;simp;omega)]
   rfl
theorem UG(x:aI):∀{l:List aI},fI l=true->fI (jW l x)=true
 |[],_=>rfl
 |a::l,h=>by
  obtain⟨h1,h2⟩:=Ed h
  have ih:=UG x h1
  unfold jW at ih⊢
  by_cases c:a.tag<x.tag
  ·rw[kb,au (by simpa using c),kb,ai (by simp;omega)]
   refine KL ih λy hy=>?_
   rcases fK.1 hy with hy|hy
   ·exact h2 y (oA.1 hy).1
   ·rcases cQ.1 hy with rfl|hy
    ·exact c
    ·exact h2 y (oA.1 hy).1
  ·have e:((a::l).filter λy=>decide (y.tag<x.tag))=[]:=filter_nil λy hy=>by
    rcases cQ.1 hy with rfl|hy<;>grind
   rw[e]
   refine KL ?_ (λy hy=>by simpa using(oA.1 hy).2)
   rw[kb]
   split
   ·rename_i q
    refine KL ?_ λy hy=>h2 y (oA.1 hy).1
    rw[wJ λy hy=>by have:=h2 y hy;simp at q⊢;omega]
    exact h1
   ·rename_i q
    rw[wJ λy hy=>by have:=h2 y hy;simp at q⊢;omega]
    exact h1
theorem UF{x y:aI}{l:List aI}(h:y∈jW l x):y=x\/y∈l:=by
 rcases fK.1 h with h|h
 ·grind
 grind
theorem UE(l:List aI)(x:aI):(jW l x).length<=l.length+1:=by
 unfold jW
 have h1:∀l:List aI,(l.filter λy=>decide (y.tag<x.tag)).length+(l.filter λy=>decide (x.tag<y.tag)).length<=l.length:=by
  intro l
  induction l with
  |nil=>simp
  |cons a l ih=>grind
 grind
theorem drop_set{x:aI}{l:List aI}(h:fI l=true)(hn:∀y∈l,y.tag≠x.tag):oL (jW l x) x.tag=l:=by
 unfold oL jW
 rw[List.filter_append,kb,ai (by simp),wJ λy hy=>by simpa using hn y (oA.1 hy).1,wJ (p:=λy:aI=>y.tag !=x.tag) λy hy=>by simpa using hn y (oA.1 hy).1]
 exact Vz x.tag h hn
theorem XY(x:aI)(l:List aI):iB (jW l x) x.tag=some x:=by
 unfold iB jW
 grind
theorem XW{l:List aI}{t:Int}(hn:∀y∈l,y.tag≠t):iB l t=none:=by
 unfold iB
 grind
theorem Xz{l:List aI}{t:Int}(hn:∀y∈l,y.tag≠t):oL l t=l:=wJ λy hy=>by simpa using hn y hy
def da:List aX:=[⟨[⟨34665,2⟩,⟨34853,3⟩],0,0,1⟩,⟨[],513,514,-1⟩,⟨[⟨40965,4⟩],0,0,-1⟩,⟨[],0,0,-1⟩,⟨[],0,0,-1⟩]
def jx(b:List UInt8):aI:=⟨37500,7,b.length,b⟩
def jE(x:dr):aS:=.mk (if x.bH.length=0 then x.bI else jW x.bI (jx x.bH)) (if x.bn.length=0 then .nil else .cons 40965 (.mk x.bn .nil []) .nil) []
def nh(x:dr):cA:=if x.bN.length=0 then .nil else .cons 34853 (.mk x.bN .nil []) .nil
def jC(x:dr):cA:=if x.bI.length=0/\x.bn.length=0/\x.bH.length=0 then nh x else .cons 34665 (jE x) (nh x)
def eM(x:dr):mj:=⟨x.order,.mk x.ct (jC x) []::(if x.first.length=0/\x.cP.length=0 then[] else[.mk x.first .nil x.cP])⟩
theorem ID:iQ da:=by
 have key:∀s,aN da s=Rs\/s<5:=by
  intro s
  by_cases h:s<5
  ·exact .inr h
  ·left
   unfold aN
   rw[kS (by simp[da];omega)]
   rfl
 refine⟨λs=>?_,λs hs x hx=>?_,λs hs=>?_⟩
 ·rcases key s with h|h
  ·rw[h];exact⟨λx hx=>(by cases hx),λh=>absurd rfl h⟩
  ·have:s=0\/s=1\/s=2\/s=3\/s=4:=by omega
   rcases this with rfl|rfl|rfl|rfl|rfl
   ·refine⟨λx hx=>?_,λh=>absurd rfl h⟩
    have hx:x∈[(⟨34665,2⟩:iv),⟨34853,3⟩]:=hx
    simp_all
    rcases hx with rfl|rfl<;>exact⟨by decide,by decide,rfl⟩
   ·refine⟨λx hx=>(by cases hx),λ_=>⟨by decide,by decide,by decide⟩⟩
   ·refine⟨λx hx=>?_,λh=>absurd rfl h⟩
    have hx:x∈[(⟨40965,4⟩:iv)]:=hx
    simp at hx
    rcases hx with rfl
    exact⟨by decide,by decide,rfl⟩
   ·exact⟨λx hx=>(by cases hx),λh=>absurd rfl h⟩
   ·exact⟨λx hx=>(by cases hx),λh=>absurd rfl h⟩
 ·have:s=0\/s=1\/s=2\/s=3\/s=4:=by simp[da] at hs;omega
  rcases this with rfl|rfl|rfl|rfl|rfl
  ·have hx:x∈[(⟨34665,2⟩:iv),⟨34853,3⟩]:=hx
   simp_all
   rcases hx with rfl|rfl<;>exact⟨by decide,by decide⟩
  ·cases hx
  ·have hx:x∈[(⟨40965,4⟩:iv)]:=hx
   simp at hx
   rcases hx with rfl
   exact⟨by decide,by decide⟩
  ·cases hx
  ·cases hx
 ·have:s=0\/s=1\/s=2\/s=3\/s=4:=by simp[da] at hs;omega
  rcases this with rfl|rfl|rfl|rfl|rfl
  ·right;exact⟨by decide,by decide⟩
  all_goals left;decide
theorem Dt{d:Int}{x:aI}(h:rA d x=true):0<=x.tag/\x.tag<=65535/\o8.contains (d,x.tag)=false/\ej x.ty x.aw x.data=true:=by
 unfold rA at h
 grind
theorem xn{d:Int}{l:List aI}(h:cV d l=true):fI l=true/\∀x∈l,rA d x=true:=by
 unfold cV at h
 grind
theorem yh{d:Int}{l:List aI}{S:aX}(h:cV d l=true)(ho:∀t,eC S t=true->o8.contains (d,t)=true):jY S l=true:=by
 obtain⟨h1,h2⟩:=xn h
 unfold jY
 rw[bt,iq]
 refine⟨h1,λt ht=>?_⟩
 obtain⟨a,b,c,e⟩:=Dt (h2 t ht)
 have:eC S t.tag=false:=by grind
 rw[this,e]
 simp[mK]
 omega
theorem Dx{S:aX}(h:S.bJ=[])(ha:S.at_=0)(t:Int):eC S t=false:=by
 unfold eC fj ft
 grind
theorem DX(t:Int)(h:eC (aN da 0) t=true):o8.contains (0,t)=true:=by
 have:t=34665\/t=34853:=by
  have h:(([(⟨34665,2⟩:iv),⟨34853,3⟩].any λx=>x.tag==t)||(decide ((0:Int)≠0)&&(decide (t=0)||decide (t=0))))=true:=h
  grind
 rcases this with rfl|rfl<;>rfl
theorem adb(t:Int)(h:eC (aN da 1) t=true):o8.contains (1,t)=true:=by
 have:t=513\/t=514:=by
  have h:(([]:List iv).any (λx=>x.tag==t)||(decide ((513:Int)≠0)&&(decide (t=513)||decide (t=514))))=true:=h
  simp_all
 rcases this with rfl|rfl<;>rfl
theorem S6(t:Int)(h:eC (aN da 2) t=true):t=40965:=by
 have h:(([(⟨40965,4⟩:iv)].any λx=>x.tag==t)||(decide ((0:Int)≠0)&&(decide (t=0)||decide (t=0))))=true:=h
 grind
theorem ade(t:Int):eC (aN da 3) t=false:=Dx rfl rfl t
theorem adf(t:Int):eC (aN da 4) t=false:=Dx rfl rfl t
theorem Z3{b:List UInt8}(h1:b.length≠0)(h2:b.length<=65536):ej (jx b).ty (jx b).aw (jx b).data=true:=by
 unfold ej jx
 have:(kindOf 7).1 =1:=rfl
 grind
def qC(x:dr)(m:Nat):Prop:=x.ct.length<=m/\x.bI.length<=m/\x.bN.length<=m/\x.bn.length<=m/\x.first.length<=m
theorem Kk{x:dr}(h:cV 2 x.bI=true):∀y∈x.bI,y.tag≠37500:=by
 intro y hy e
 have:=(Dt ((xn h).2 y hy)).2.2.1
 rw[e] at this
 cases this
theorem VN{x:dr}(h:iJ x=0)(hm:qC x 65000)(hp:¬(x.bI.length=0/\x.bn.length=0/\x.bH.length=0)):cD da 2 (jE x)=true:=by
 obtain⟨-,-,h2,-,h4,-,hmk,-⟩:=sD h
 obtain⟨-,m2,-,m4,-⟩:=hm
 have hl:=UE x.bI (jx x.bH)
 have ht:jY (aN da 2) (if x.bH.length=0 then x.bI else jW x.bI (jx x.bH))=true:=by
  have h0:=yh h2 λt q=>by rw[S6 t q];rfl
  split
  ·exact h0
  ·rename_i hmk0
   unfold jY at h0⊢
   rw[bt,iq] at h0⊢
   refine⟨UG _ h0.1,λt ht=>?_⟩
   rcases UF ht with rfl|ht
   ·rw[Z3 hmk0 hmk]
    have:eC (aN da 2) (jx x.bH).tag=false:=by
     cases q:eC (aN da 2) (jx x.bH).tag with
     |false=>rfl
     |true=>exact absurd (S6 _ q) (show¬((37500:Int)=40965) by decide)
    rfl
   ·exact h0.2 t ht
 unfold jE cD
 rw[ht]
 have hn:1<=bB (.mk (if x.bH.length=0 then x.bI else jW x.bI (jx x.bH)) (if x.bn.length=0 then .nil else .cons 40965 (.mk x.bn .nil []) .nil) [])/\
  bB (.mk (if x.bH.length=0 then x.bI else jW x.bI (jx x.bH)) (if x.bn.length=0 then .nil else .cons 40965 (.mk x.bn .nil []) .nil) [])<=65535:=by
  have hl0:1<=(jW x.bI (jx x.bH)).length:=by unfold jW;simp;omega
  by_cases a:x.bH.length=0
  ·by_cases b:x.bn.length=0
   ·rw[au a,au b];simp only[bB,bX,List.length_nil,dL];omega
   ·rw[au a,ai b];simp only[bB,bX,List.length_nil,dL];omega
  ·by_cases b:x.bn.length=0
   ·rw[ai a,au b];simp only[bB,bX,List.length_nil,dL];omega
   ·rw[ai a,ai b];simp only[bB,bX,List.length_nil,dL];omega
 rw[ff hn]
 by_cases b:x.bn.length=0
 ·rw[au b];rfl
 ·rw[ai b]
  have hi:cD da 4 (.mk x.bn .nil [])=true:=by
   unfold cD
   rw[yh h4 λt q=>by rw[adf] at q;cases q]
   have:1<=bB (.mk x.bn .nil [])/\bB (.mk x.bn .nil [])<=65535:=by
    simp only[bB,bX,List.length_nil,dL];omega
   rw[ff this]
   rfl
  show((ny [40965]&&(true&&(cD da 4 (.mk x.bn .nil [])&&true))))=true
  rw[hi]
  rfl
theorem PX{x:dr}(h:iJ x=0)(hm:qC x 65000)(hp:x.bN.length≠0):cD da 3 (.mk x.bN .nil [])=true:=by
 obtain⟨-,-,-,h3,-,-,-,-⟩:=sD h
 obtain⟨-,-,m3,-,-⟩:=hm
 unfold cD
 rw[yh h3 λt q=>by rw[ade] at q;cases q]
 have:1<=bB (.mk x.bN .nil [])/\bB (.mk x.bN .nil [])<=65535:=by
  simp[bB,bX];omega
 rw[ff this]
 rfl
theorem VU{x:dr}(h:iJ x=0)(hm:qC x 65000):gw da 0 (eM x).dO=true:=by
 obtain⟨-,h0,-,-,-,h1,-,cF⟩:=sD h
 have hm':=hm
 obtain⟨m0,m2,m3,m4,m1⟩:=hm'
 have hsub:(ny (kO (jC x))&&iV da (aN da 0) (jC x))=true:=by
  unfold jC nh
  by_cases a:x.bI.length=0/\x.bn.length=0/\x.bH.length=0
  ·rw[au a]
   by_cases b:x.bN.length=0
   ·rw[au b];rfl
   ·rw[ai b]
    show((ny [34853]&&(true&&(cD da 3 (.mk x.bN .nil [])&&true))))=true
    rw[PX h hm b];rfl
  ·rw[ai a]
   by_cases b:x.bN.length=0
   ·rw[au b]
    show((ny [34665]&&(true&&(cD da 2 (jE x)&&true))))=true
    rw[VN h hm a];rfl
   ·rw[ai b]
    show((ny [34665,34853]&&(true&&(cD da 2 (jE x)&&(true&&(cD da 3 (.mk x.bN .nil [])&&true))))))=true
    rw[VN h hm a,PX h hm b];rfl
 have hs2:bX (jC x)<=2/\(x.ct.length=0->1<=bX (jC x)):=by
  unfold jC nh
  by_cases a:x.bI.length=0/\x.bn.length=0/\x.bH.length=0
  ·rw[au a]
   by_cases b:x.bN.length=0
   ·rw[au b];simp only[bX];omega
   ·rw[ai b];simp only[bX];omega
  ·rw[ai a]
   by_cases b:x.bN.length=0
   ·rw[au b];simp only[bX];omega
   ·rw[ai b];simp only[bX];omega
 have hd0:cD da 0 (.mk x.ct (jC x) [])=true:=by
  unfold cD
  rw[yh h0 DX,hsub]
  have:1<=bB (.mk x.ct (jC x) [])/\bB (.mk x.ct (jC x) [])<=65535:=by
   simp[bB];omega
  rw[ff this]
  rfl
 unfold eM
 have hx:∀ds,gw da 0 (.mk x.ct (jC x) []::ds)=(decide ((0:Int)<=0)&&(cD da 0 (.mk x.ct (jC x) [])&&gw da 1 ds)):=λds=>rfl
 simp only
 rw[hx,hd0]
 by_cases a:x.first.length=0/\x.cP.length=0
 ·rw[au a];rfl
 ·rw[ai a]
  have hd1:cD da 1 (.mk x.first .nil x.cP)=true:=by
   unfold cD
   rw[yh h1 adb]
   have:1<=bB (.mk x.first .nil x.cP)/\bB (.mk x.first .nil x.cP)<=65535:=by
    simp only[bB,bX];split<;>omega
   rw[ff this]
   have:decide ((aN da 1).at_≠0)=true:=rfl
   rw[this]
   simp[iV,ny,kO]
  have hx:gw da 1 [.mk x.first .nil x.cP]=(decide ((0:Int)<=1)&&(cD da 1 (.mk x.first .nil x.cP)&&true)):=rfl
  rw[hx,hd1]
  rfl
def wV(l:List aI):cA->List aI
 | .nil=>l
 | .cons _ (.mk tags _ _) r=>wV tags r
def qA(r:dr):aS->Option dr
 | .mk tags subs _=>match iB tags 37500 with
  |some v=>if v.ty=7 then some {r with bI:=oL tags 37500,bH:=v.data,bn:=wV r.bn subs} else none
  |none=>some {r with bI:=oL tags 37500,bH:=[],bn:=wV r.bn subs}
def qL(r:dr):cA->Option dr
 | .nil=>some r
 | .cons tag d s=>if tag=34853 then qL {r with bN:=(match d with| .mk tags _ _=>tags)} s else(qA r d).bind λr=>qL r s
def uB(r:dr):List aS->dr
 |[]=>r
 | .mk tags _ blob::ds=>uB {r with first:=tags,cP:=blob} ds
def w7(t:mj):Option dr:=match t.dO with
 |[]=>none
 | .mk tags subs _::ds=>(qL ⟨t.order,tags,[],[],[],[],[],[]⟩ subs).bind λr=>if iJ (uB r ds)=0 then some (uB r ds) else none
theorem my{α:Type}{l:List α}(h:l.length=0):l=[]:=qS.1 h
theorem adq{x:dr}(h:cV 2 x.bI=true)(r:dr)(hi:r.bn=[]):qA r (jE x)=some {r with bI:=x.bI,bH:=x.bH,bn:=x.bn}:=by
 have hl:wV r.bn (if x.bn.length=0 then .nil else .cons 40965 (.mk x.bn .nil []) .nil)=x.bn:=by
  split
  ·rename_i q;rw[my q];exact hi
  ·rfl
 unfold jE qA
 simp only
 rw[hl]
 by_cases a:x.bH.length=0
 ·rw[au a,XW (Kk h),Xz (Kk h),my a]
 ·rw[ai a]
  have e1:=XY (jx x.bH) x.bI
  have e2:=drop_set (x:=jx x.bH) (xn h).1 (Kk h)
  rw[(show(jx x.bH).tag=37500 from rfl)] at e1 e2
  rw[e1,e2]
  rfl
theorem RE{x:dr}(h:iJ x=0):w7 (eM x)=some x:=by
 obtain⟨-,-,h2,-,-,-,-,-⟩:=sD h
 have hs:qL ⟨x.order,x.ct,[],[],[],[],[],[]⟩ (jC x)=some {x with first:=[],cP:=[]}:=by
  have hg:∀r:dr,r.bN=[]->qL r (nh x)=some {r with bN:=x.bN}:=by
   intro r hr
   unfold nh
   split
   ·rename_i q;rw[my q,<-hr];rfl
   ·rfl
  unfold jC
  split
  ·rename_i q
   rw[hg _ rfl,my q.1,my q.2.1,my q.2.2]
  ·show(if(34665:Int)=34853 then qL _ (nh x) else(qA _ (jE x)).bind λr=>qL r (nh x))=_
   rw[adq h2 _ rfl]
   exact hg _ rfl
 have hf:uB {x with first:=[],cP:=[]} (if x.first.length=0/\x.cP.length=0 then[] else[.mk x.first .nil x.cP])=x:=by
  split
  ·rename_i q
   show dr.mk _ _ _ _ _ [] _ []=x
   rw[<-my q.1,<-my q.2]
  ·rfl
 unfold w7 eM
 simp only
 rw[hs]
 simp only[Option.bind]
 rw[hf,au h]
end
section
set_option linter.unusedVariables false
set_option linter.unusedSimpArgs false
set_option linter.unusedSectionVars false
set_option linter.constructorNameAsVariable false
structure cy where
 attr:Int
 size:Int
 at_:Int
 fA:Int
 fC:Int
 deriving DecidableEq
def jT(p:cy):Bool:=decide ((0<=p.attr/\p.attr<4294967296)/\(0<=p.size/\p.size<4294967296)/\(0<=p.at_/\p.at_<4294967296)/\(0<=p.fA/\p.fA<65536)/\(0<=p.fC/\p.fC<65536))
def dG(o:Int)(p:cy):List UInt8:=aW p.attr.toNat 4 o++(aW p.size.toNat 4 o++(aW p.at_.toNat 4 o++(aW p.fA.toNat 2 o++aW p.fC.toNat 2 o)))
theorem D6(o:Int)(p:cy):(dG o p).length=16:=by simp[dG,er]
theorem o6(o:Int):∀l:List cy,(l.flatMap (dG o)).length=16*l.length
 |[]=>rfl
 |p::l=>by rw[dV,aR,D6,o6 o l,bY];omega
def nu(b:List UInt8)(p:Nat)(o:Int):cy:=⟨cc b p 4 o,cc b (p+4) 4 o,cc b (p+8) 4 o,cc b (p+12) 2 o,cc b (p+14) 2 o⟩
def placesOf(b:List UInt8)(o:Int):Nat->Nat->List cy
 |_,0=>[]
 |p,n+1=>nu b p o::placesOf b o (p+16) n
theorem adu{b pre post:List UInt8}{k:Nat}{o:Int}{p:cy}(e:b=pre++(dG o p++post))(hk:k=pre.length)(ho:o=1\/o=2)(h:jT p=true):nu b k o=p:=by
 unfold jT at h
 simp at h
 obtain⟨a1,a2,a3,a4,a5⟩:=h
 have e0:b=pre++(aW p.attr.toNat 4 o++(aW p.size.toNat 4 o++(aW p.at_.toNat 4 o++(aW p.fA.toNat 2 o++(aW p.fC.toNat 2 o++post))))):=by rw[e];simp[dG]
 have e1:b=(pre++aW p.attr.toNat 4 o)++(aW p.size.toNat 4 o++(aW p.at_.toNat 4 o++(aW p.fA.toNat 2 o++(aW p.fC.toNat 2 o++post)))):=by rw[e0];simp
 have e2:b=(pre++aW p.attr.toNat 4 o++aW p.size.toNat 4 o)++(aW p.at_.toNat 4 o++(aW p.fA.toNat 2 o++(aW p.fC.toNat 2 o++post))):=by rw[e0];simp
 have h3:=nq (p:=k+8) e2 (by simp[er,hk]) (.inr (.inr rfl)) ho (by omega)
 have e3:b=(pre++aW p.attr.toNat 4 o++aW p.size.toNat 4 o++aW p.at_.toNat 4 o)++(aW p.fA.toNat 2 o++(aW p.fC.toNat 2 o++post)):=by rw[e0];simp
 have h4:=nq (p:=k+12) e3 (by simp[er,hk]) (.inr (.inl rfl)) ho (by omega)
 have e4:b=(pre++aW p.attr.toNat 4 o++aW p.size.toNat 4 o++aW p.at_.toNat 4 o++aW p.fA.toNat 2 o)++(aW p.fC.toNat 2 o++post):=by rw[e0];simp
 have h5:=nq (p:=k+14) e4 (by simp[er,hk]) (.inr (.inl rfl)) ho (by omega)
 unfold nu
 rw[(nq e0 hk (.inr (.inr rfl)) ho (by omega)),(nq (p:=k+4) e1 (by simp[er,hk]) (.inr (.inr rfl)) ho (by omega)),h3,h4,h5]
 rw[mf a1.1,mf a2.1,mf a3.1,mf a4.1,mf a5.1]
theorem Km{b:List UInt8}{o:Int}(ho:o=1\/o=2):∀(l:List cy)(pre post:List UInt8)(k:Nat),b=pre++(l.flatMap (dG o)++post)->k=pre.length->(∀p∈l,jT p=true)->placesOf b o k l.length=l
 |[],_,_,_,_,_,_=>rfl
 |p::l,pre,post,k,e,hk,h=>by
  rw[dV,dD] at e
  rw[bY,placesOf,adu e hk ho (h p (by simp))]
  congr 1
  exact Km ho l (pre++dG o p) post (k+16) (by grind) (by simp[D6,hk]) λy hy=>h y (by grind)
def fq:List aX:=[⟨[],0,0,1⟩,⟨[],0,0,-1⟩]
def nL:List aX:=[⟨[],0,0,-1⟩]
theorem Tj{sh:List aX}(h:∀s∈sh,s.bJ=[]/\s.at_=0)(hn:∀s,s<sh.length->(aN sh s).next<0\/((s:Int)<(aN sh s).next/\(aN sh s).next<sh.length)):iQ sh:=by
 have key:∀s,(aN sh s).bJ=[]/\(aN sh s).at_=0:=by
  intro s
  unfold aN
  cases q:sh[s]? with
  |none=>exact⟨rfl,rfl⟩
  |some x=>grind
 refine⟨λs=>⟨λx hx=>?_,λq=>absurd (key s).2 q⟩,λs _ x hx=>?_,hn⟩<;>grind
theorem CD:iQ fq:=by
 refine Tj (λs hs=>?_) λs hs=>?_
 ·simp[fq] at hs
  grind
 ·have:s=0\/s=1:=by simp[fq] at hs;omega
  rcases this with rfl|rfl<;>decide
theorem Wr:iQ nL:=by
 refine Tj (λs hs=>?_) λs hs=>?_
 ·simp[nL] at hs
  grind
 ·have:s=0:=by simp[nL] at hs;omega
  rcases this with rfl
  decide
def eK(o:Int)(l:List cy):aS:=.mk [⟨45056,7,4,[48,49,48,48]⟩,⟨45057,4,1,ee l.length 4⟩,⟨45058,7,((16*l.length:Nat):Int),l.flatMap (dG o)⟩] .nil []
def cI(o:Int)(l:List cy)(view:List aI):mj:=⟨o,eK o l::(if view.length=0 then[] else[.mk view .nil []])⟩
def lD(o:Int)(view:List aI):mj:=⟨o,[.mk view .nil []]⟩
def gy:List UInt8:=[77,80,70,0]
def gL(o:Int)(l:List cy)(view:List aI):Except Int (List UInt8):=
 if¬(o=1\/o=2)\/l.length<2 then .error 1
 else if l.all jT=false then .error 1
 else if cV 5 view=false then .error 6
 else if 65536<16*l.length then .error 7
 else if 65533<4+gP (cI o l view) then .error 7
 else .ok (gy++ed (cI o l view) fq)
def yv(o:Int)(view:List aI):Except Int (List UInt8):=
 if¬(o=1\/o=2)\/view.length=0 then .error 1
 else if cV 5 view=false then .error 6
 else if 65533<4+gP (lD o view) then .error 7
 else .ok (gy++ed (lD o view) nL)
theorem Wz{n:Nat}:ej 4 1 (ee n 4)=true:=by
 unfold ej
 have:(kindOf 4).1 =4:=rfl
 simp[this,oK]
theorem Wg{view:List aI}{S:aX}{sh:List aX}{s:Nat}(hS:aN sh s=S)(hl:S.bJ=[])(ha:S.at_=0)(h:cV 5 view=true)(h0:view.length≠0)(hm:view.length<=65000):cD sh s (.mk view .nil [])=true:=by
 unfold cD
 rw[hS,yh h λt q=>by rw[Dx hl ha] at q;cases q]
 have:1<=bB (.mk view .nil [])/\bB (.mk view .nil [])<=65535:=by
  simp[bB,bX];omega
 rw[ff this]
 rfl
theorem Qi{o:Int}{l:List cy}{view:List aI}(hl:2<=l.length/\16*l.length<=65536)(hv:cV 5 view=true)(hm:view.length<=65000):gw fq 0 (cI o l view).dO=true:=by
 have hd:cD fq 0 (eK o l)=true:=by
  unfold eK cD
  have ht:jY (aN fq 0) [⟨45056,7,4,[48,49,48,48]⟩,⟨45057,4,1,ee l.length 4⟩,⟨45058,7,((16*l.length:Nat):Int),l.flatMap (dG o)⟩]=true:=by
   unfold jY
   have m3:ej 7 ((16*l.length:Nat):Int) (l.flatMap (dG o))=true:=by
    unfold ej
    have:(kindOf 7).1 =1:=rfl
    rw[o6]
    simp_all
    omega
   rw[bt,iq]
   refine⟨by simp[fI],λt ht=>?_⟩
   simp at ht
   rw[(λt=>Dx rfl rfl t)]
   rcases ht with rfl|rfl|rfl
   ·rfl
   ·rfl
   ·simp_all;rfl
  rw[ht]
  rfl
 unfold cI
 have hx:∀ds,gw fq 0 (eK o l::ds)=(decide ((0:Int)<=0)&&(cD fq 0 (eK o l)&&gw fq 1 ds)):=λds=>rfl
 rw[hx,hd]
 by_cases a:view.length=0
 ·rw[au a];rfl
 ·rw[ai a]
  have hx:gw fq 1 [.mk view .nil []]=(decide ((0:Int)<=1)&&(cD fq 1 (.mk view .nil [])&&true)):=rfl
  rw[hx,Wg rfl rfl rfl hv a hm]
  rfl
theorem We{o:Int}{view:List aI}(hv:cV 5 view=true)(h0:view.length≠0)(hm:view.length<=65000):gw nL 0 (lD o view).dO=true:=by
 have hx:gw nL 0 [.mk view .nil []]=(decide ((0:Int)<=0)&&(cD nL 0 (.mk view .nil [])&&true)):=rfl
 show gw nL 0 [.mk view .nil []]=true
 rw[hx,Wg rfl rfl rfl hv h0 hm]
 rfl
def indexOf(t:mj):Option (Int×List cy×List aI):=match t.dO with
 | .mk [a,b,c] _ _::ds=>
  if a.tag=45056/\a.ty=7/\a.data=[48,49,48,48]/\b.tag=45057/\b.ty=4/\b.data.length=4/\c.tag=45058/\c.ty=7/\2<=gX b.data/\c.data.length=16*gX b.data then
   match ds with
   |[]=>some (t.order,placesOf c.data t.order 0 (gX b.data),[])
   | .mk view _ _::_=>if cV 5 view=true then some (t.order,placesOf c.data t.order 0 (gX b.data),view) else none
  else none
 |_=>none
theorem YF{o:Int}(ho:o=1\/o=2){l:List cy}{view:List aI}(hl:2<=l.length/\16*l.length<=65536)(hp:l.all jT=true)(hv:cV 5 view=true):indexOf (cI o l view)=some (o,l,view):=by
 have hb:gX (ee l.length 4)=l.length:=JA 4 _ (by omega)
 unfold cI eK indexOf
 simp only
 rw[au ⟨trivial,trivial,trivial,trivial,trivial,oK _ _,trivial,trivial,by rw[hb];exact hl.1,by rw[o6,hb]⟩,hb,(Km ho l [] [] 0 (by simp) rfl λp hp'=>iq.1 hp p hp')]
 grind
theorem agx{t:mj}(h:¬65533<4+gP t):gP t<4294967296:=by omega
theorem Dc{o:Int}{l:List cy}{view:List aI}{b:List UInt8}(h:gL o l view=.ok b)(hm:view.length<=65000):
 ∃r,b=gy++r/\r=ed (cI o l view) fq/\vO r fq=.ok (cI o l view,eY (cI o l view))/\indexOf (cI o l view)=some (o,l,view)/\b.length<=65533:=by
 unfold gL at h
 split at h
 ·cases h
 ·rename_i h1
  split at h
  ·cases h
  ·rename_i h2
   split at h
   ·cases h
   ·rename_i h3
    split at h
    ·cases h
    ·rename_i h4
     split at h
     ·cases h
     ·rename_i h5
      cases h
      have ho:o=1\/o=2:=by omega
      have hv:cV 5 view=true:=by simpa using h3
      have hh:=Qi (o:=o) (l:=l) ⟨by omega,by omega⟩ hv hm
      refine⟨_,rfl,rfl,Wh ho CD (by decide) (by simp[cI]) hh (agx h5),YF ho ⟨by omega,by omega⟩ (by simpa using h2) hv,?_⟩
      rw[aR,(yj hh)]
      have:gy.length=4:=rfl
      omega
end
section
set_option linter.unusedVariables false
set_option linter.unusedSimpArgs false
set_option linter.unusedSectionVars false
set_option linter.constructorNameAsVariable false
theorem VZ(a b:UInt8):UInt8.ofNat ((a.toNat*256+b.toNat)/256)=a/\UInt8.ofNat ((a.toNat*256+b.toNat)%256)=b:=by
 have hb:=b.toNat_lt
 rw[(show(a.toNat*256+b.toNat)/256=a.toNat from by omega)]
 simp
theorem ahd(m:UInt8):UInt8.ofNat ((m.toNat:Int)).toNat=m:=by simp
theorem AS{b:UInt8}{t:List UInt8}(h:b≠255):gh (b::t)=gh t+1:=by
 conv=>lhs;unfold gh
 grind
theorem aen:gh [255]=0:=rfl
theorem LL(c:UInt8)(r:List UInt8):gh (255::c::r)=if c≠0/\oe c.toNat=false then 0 else gh (c::r)+1:=by rw[gh,au rfl]
theorem Uu:∀l:List UInt8,gh (l.take (gh l))=gh l
 |[]=>rfl
 |b::t=>by
  have ih:=Uu t
  by_cases hb:b=255
  ·subst hb
   cases t with
   |nil=>rfl
   |cons c r=>
    rw[LL]
    by_cases hc:c≠0/\oe c.toNat=false
    ·rw[au hc];rfl
    ·rw[ai hc,oC]
     have h5:c≠255:=by
      intro h5
      apply hc
      rw[h5]
      exact⟨by decide,rfl⟩
     rw[AS h5] at ih⊢
     rw[oC] at ih⊢
     rw[LL,ai hc,ih]
  ·rw[AS hb,oC,AS hb,ih]
theorem Uy{l:List UInt8}{s:bE}{t:List UInt8}(h:kM true l=.more s t):lL s 216=true/\l=cL s++t:=by
 cases l with
 |nil=>cases h
 |cons x l=>
  cases l with
  |nil=>
   dsimp only[kM] at h
   split at h<;>grind
  |cons m l=>
   dsimp only[kM] at h
   split at h
   ·cases h
   ·rename_i h1
    split at h
    ·cases h
    ·rename_i h2
     split at h
     ·cases h
     ·rename_i h3
      split at h
      ·rename_i h4
       injection h with h5 h6
       subst h5 h6 h4
       refine⟨rfl,?_⟩
       have:x=255:=qb.1 h1
       subst this
       rfl
      ·rename_i h4
       exfalso
       apply h2
       rw[fe h4]
       rfl
theorem Ux{f:Bool}{l:List UInt8}{s:bE}{t:List UInt8}(h:kM f l=.last s t):lL s 217=true/\l=cL s++t:=by
 cases l with
 |nil=>cases h
 |cons x l=>
  cases l with
  |nil=>
   dsimp only[kM] at h
   split at h<;>grind
  |cons m l=>
   dsimp only[kM] at h
   split at h
   ·cases h
   ·rename_i h1
    split at h
    ·cases h
    ·rename_i h2
     split at h
     ·rename_i h3
      injection h with h5 h6
      subst h5 h6 h3
      refine⟨rfl,?_⟩
      have:x=255:=qb.1 h1
      subst this
      rfl
     ·split at h
      ·cases h
      ·split at h
       ·split at h
        ·cases h
        ·split at h
         ·cases h
         ·cases h
       ·cases h
theorem Uz{l:List UInt8}{s:bE}{t:List UInt8}(h:kM false l=.more s t):mI s=true/\l=cL s++t:=by
 cases l with
 |nil=>cases h
 |cons x l=>
  cases l with
  |nil=>
   dsimp only[kM] at h
   split at h
   ·cases h
   ·cases h
  |cons m l=>
   dsimp only[kM] at h
   split at h
   ·cases h
   ·rename_i h1
    split at h
    ·cases h
    ·rename_i h2
     split at h
     ·cases h
     ·rename_i h3
      split at h
      ·rename_i h4
       exfalso
       apply h2
       rw[ff h4]
       rfl
      ·rename_i h4
       have hx:x=255:=qb.1 h1
       have hm:kZ (m.toNat:Int)=true:=by
        cases q:kZ (m.toNat:Int) with
        |true=>rfl
        |false=>
         exfalso
         apply h2
         rw[q,fe h4]
         have:iR (m.toNat:Int)=false:=by
          unfold iR
          rw[fe]
          rintro (e|e)
          ·exact h4 (nE.1 (by have:(216:UInt8).toNat=216:=rfl;omega))
          ·exact h3 (nE.1 (by have:(217:UInt8).toNat=217:=rfl;omega))
         rw[this]
         rfl
       cases l with
       |nil=>cases h
       |cons a l=>
        cases l with
        |nil=>cases h
        |cons b l=>
         dsimp only at h
         split at h
         ·cases h
         ·rename_i h5
          split at h
          ·cases h
          ·rename_i h6
           injection h with h7 h8
           have hb:=b.toNat_lt
           have ha:=a.toNat_lt
           have hs:=EI ((a::b::l).drop (a.toNat*256+b.toNat))
           have e0:(a::b::l).drop (a.toNat*256+b.toNat)=l.drop (a.toNat*256+b.toNat -2):=by
            obtain⟨k,hk⟩:∃k,a.toNat*256+b.toNat=k+2:=⟨a.toNat*256+b.toNat -2,by omega⟩
            rw[hk];rfl
           have hlen:l.length+2>=a.toNat*256+b.toNat:=by simpa using h6
           rw[e0] at hs h7 h8
           have hd:((a::b::l).drop 2)=l:=rfl
           rw[hd] at h7
           have je:(l.take (a.toNat*256+b.toNat -2)).length+2=a.toNat*256+b.toNat:=by rw[dI];omega
           have hal:iR (m.toNat:Int)=false:=by
            simp only[kZ,bt,vP] at hm
            exact hm.2
           subst h7 h8
           constructor
           ·unfold mI
            simp only[hm,eD,bt,bZ,rW,List.isEmpty_iff]
            refine⟨by omega,?_⟩
            by_cases hq:m=218
            ·right
             rw[au hq]
             refine⟨by rw[hq];rfl,?_⟩
             rw[Uu,dI]
             omega
            ·left;rw[ai hq];rfl
           ·unfold cL
            rw[ai (by simp[hal])]
            simp only[je,ahd,(VZ a b).1,(VZ a b).2,hx,fo,fU,dD]
            rw[kT,kT]
theorem RC(L:Nat):∀(f:Nat)(r:List UInt8)(l:List bE)(e:Nat),r.length<=L->lU L f false r=.ok l e->jh l=true/\∃x,r=cT l++x/\e=L -x.length
 |0,_,_,_,_,h=>by cases h
 |f+1,r,l,e,hr,h=>by
  unfold lU at h
  split at h
  ·cases h
  ·cases h
  ·rename_i s t hs
   cases h
   obtain⟨h1,h2⟩:=Ux hs
   exact⟨h1,t,by rw[h2];simp[cT],rfl⟩
  ·rename_i s t hs
   obtain⟨h1,h2⟩:=Uz hs
   split at h
   ·rename_i l' e' h3
    cases h
    obtain⟨a,x,b,c⟩:=RC L f t l' _ (by rw[h2] at hr;simp at hr;omega) h3
    refine⟨?_,x,by rw[kA,dD,<-b,h2],c⟩
    cases l' with
    |nil=>cases a
    |cons s' l'=>simp[jh,h1,a]
   ·rename_i q
    rw[h] at q
    exact absurd rfl (q _ _)
theorem RD{b:List UInt8}{l:List bE}{e:Nat}(h:ofM b=.ok l e):mD l=true/\e<=b.length/\cT l=b.take e/\∃r,l=⟨216,[],[]⟩::r/\jh r=true:=by
 unfold ofM at h
 unfold lU at h
 split at h
 ·cases h
 ·cases h
 ·rename_i s t hs
  obtain⟨h1,h2⟩:=Ux hs
  rw[h2] at hs
  have:s=⟨217,[],[]⟩:=by
   obtain⟨m,d,c⟩:=s
   simp[lL] at h1
   obtain⟨⟨rfl,rfl⟩,rfl⟩:=h1
   rfl
  rw[this] at hs
  cases hs
 ·rename_i s t hs
  obtain⟨h1,h2⟩:=Uy hs
  have hs0:s=⟨216,[],[]⟩:=by
   obtain⟨m,d,c⟩:=s
   simp[lL] at h1
   obtain⟨⟨rfl,rfl⟩,rfl⟩:=h1
   rfl
  split at h
  ·rename_i l' e' h3
   cases h
   obtain⟨a,x,k,c⟩:=RC b.length b.length t l' _ (by rw[h2];simp) h3
   have hb:b=(cL s++cT l')++x:=by rw[dD,<-k,<-h2]
   have hl:b.length=(cL s++cT l').length+x.length:=by
    rw[hb,aR]
   refine⟨by simp[mD,h1,a],by omega,?_,l',by rw[hs0],a⟩
   rw[kA,(show e=(cL s++cT l').length from by omega)]
   rw[hb,List.take_left]
  ·rename_i q
   rw[h] at q
   exact absurd rfl (q _ _)
def pE(m:Int):Bool:=decide (224<=m/\m<=239)
def mZ(b:List UInt8):Bool:=match ofM b with
 | .ok l e=>decide (e=b.length)&&(l.any (λs=>s.bW==218)&&l.all λs=>!pE s.bW)
 |_=>false
def nc:List UInt8:=[69,120,105,102,0,0]
def fM:List UInt8:=[73,67,67,95,80,82,79,70,73,76,69,0]
def iI(x:dr):Except Int (List UInt8):=
 if iJ x≠0 then .error (iJ x) else if 65533<6+gP (eM x) then .error 7 else .ok (nc++ed (eM x) da)
def On(b:List UInt8):Option dr:=
 if 65533<b.length then none else if nc.isPrefixOf b=true then(match vO (b.drop 6) da with| .ok (t,_)=>w7 t| .error _=>none) else none
theorem yM{x:dr}{b:List UInt8}(h:iI x=.ok b)(hm:qC x 65000):On b=some x/\nc.isPrefixOf b=true/\b.length<=65533/\b=nc++ed (eM x) da/\vO (ed (eM x) da) da=.ok (eM x,eY (eM x)):=by
 unfold iI at h
 split at h
 ·cases h
 ·rename_i h1
  have h1:=qb.1 h1
  split at h
  ·cases h
  ·rename_i h2
   injection h with h
   have hh:=VU h1 hm
   have hw:=Wh (sD h1).1 ID (by decide) (by simp[eM]) hh (by omega)
   have hl:b.length<=65533:=by rw[<-h,aR,(yj hh)];have:nc.length=6:=rfl;omega
   refine⟨?_,(by rw[<-h];rw[qe];exact rY _ _),hl,h.symm,hw⟩
   unfold On
   rw[ai (by omega),<-h]
   have:(nc++ed (eM x) da).drop 6=ed (eM x) da:=rfl
   rw[this,hw]
   exact RE h1
def fW(b:List UInt8):List (List UInt8):=if b.length=0 then[] else[fM++1::1::b]
structure mU where
 aF:dr
 cj:List UInt8
 core:List UInt8
 cn:List UInt8
 at_:Nat
 cw:Nat
def yY(b:List UInt8):List bE:=match ofM b with
 | .ok l _=>l
 |_=>[]
def jf(x:mU)(aL:List UInt8):List bE:=
 ⟨216,[],[]⟩::⟨225,aL,[]⟩::((if x.cn.length=0 then[] else[⟨226,x.cn,[]⟩])++((fW x.cj).map (λc=>⟨226,c,[]⟩)++(yY x.core).tail))
theorem CI{b:List UInt8}(h:mZ b=true):∃r,ofM b=.ok (⟨216,[],[]⟩::r) b.length/\yY b=⟨216,[],[]⟩::r/\jh r=true/\cT (⟨216,[],[]⟩::r)=b/\(∃s∈r,s.bW=218)/\∀s∈r,pE s.bW=false:=by
 unfold mZ at h
 split at h
 ·rename_i l e q
  simp at h
  obtain⟨h1,⟨s,hs,hm⟩,h3⟩:=h
  obtain⟨a,b1,c,r,hr,hmid⟩:=RD q
  subst hr
  refine⟨r,by rw[q,h1],by unfold yY;rw[q],hmid,by rw[c,h1,qT],?_,λs hs=>h3 s (by grind)⟩
  grind
 grind
theorem Jt{s:bE}{l:List bE}(h:mI s=true)(hl:jh l=true):jh (s::l)=true:=by
 cases l with
 |nil=>cases hl
 |cons s' l=>simp[jh,h,hl]
theorem KK{m:Int}{d:List UInt8}(hm:m=225\/m=226)(h:d.length<=65533):mI ⟨m,d,[]⟩=true:=by
 unfold mI
 rcases hm with rfl|rfl
 ·simp
  exact⟨rfl,h⟩
 ·simp
  exact⟨rfl,h⟩
theorem OS{b c:List UInt8}(hb:b.length<=65519)(h:c∈fW b):c.length<=65533:=by
 unfold fW at h
 split at h
 ·grind
 ·rw[oB.1 h]
  have:fM.length=12:=rfl
  grind
theorem I8{x:mU}{aL:List UInt8}(hc:mZ x.core=true)(hcam:aL.length<=65533)(hi:x.cj.length<=65519)(hm:x.cn.length<=65533):mD (jf x aL)=true:=by
 obtain⟨r,-,h1,h2,-⟩:=CI hc
 unfold jf
 rw[h1]
 refine Jt (KK (.inl rfl) hcam) ?_
 have k:jh ((fW x.cj).map (λc=>⟨226,c,[]⟩)++r)=true:=by
  have hl:=λc=>OS (c:=c) hi
  generalize fW x.cj=cs at hl⊢
  induction cs with
  |nil=>grind
  |cons c cs ih=>exact Jt (KK (.inr rfl) (hl c (by simp))) (ih λc hc=>hl c (by grind))
 split
 ·grind
 ·exact Jt (KK (.inr rfl) hm) k
def eJ(x:mU)(aL:List UInt8):List UInt8:=cT (jf x aL)
structure we(x:mU)(aL:List UInt8):Prop where
 app:iI x.aF=.ok aL
 rows:qC x.aF 65000
 cj:x.cj.length<=65519
 core:mZ x.core=true
 cn:x.cn.length=0\/(gy.isPrefixOf x.cn=true/\x.cn.length<=65533)
end
section
set_option linter.unusedVariables false
set_option linter.unusedSimpArgs false
set_option linter.unusedSectionVars false
set_option linter.constructorNameAsVariable false
theorem ag9(l:List UInt8)(o:Int):iM l 1 o=l:=by
 unfold iM
 split
 ·refine qR λi=>?_
  by_cases h:i<l.length
  ·rw[BX _ _ _ _ h,au h]
   simp[Nat.mod_one,h]
  ·rw[kS (by rw[pj];omega),kS (by omega)]
 ·rfl
theorem Al{n:Nat}(h:2<=n/\16*n<=65536):bF 7 ((16*n:Nat):Int)=16*n:=by
 have e:iW 7 ((16*n:Nat):Int)=((16*n:Nat):Int):=by
  unfold iW
  rw[ai (by omega),show(kindOf 7).1 =1 from rfl];omega
 unfold bF
 rw[e,au (by omega)];omega
theorem YJ(o:Int){n:Nat}(h:2<=n/\16*n<=65536)(e:Nat):∃E,∀l:List cy,l.length=n->dW o e [⟨45056,7,4,[48,49,48,48]⟩,⟨45057,4,1,ee l.length 4⟩,⟨45058,7,((16*l.length:Nat):Int),l.flatMap (dG o)⟩]=E:=
 ⟨_,λl hl=>by
  simp only[hl,dW,show bF 7 4=0 from rfl,show bF 4 1=0 from rfl,dL,Al h]
  rw[ai (by omega)]⟩
theorem Ql(o:Int){n:Nat}(h:2<=n/\16*n<=65536)(e:Nat)(l:List cy)(hl:l.length=n):gz o e [⟨45056,7,4,[48,49,48,48]⟩,⟨45057,4,1,ee l.length 4⟩,⟨45058,7,((16*l.length:Nat):Int),l.flatMap (dG o)⟩]=dF e++l.flatMap (dG o):=by
 simp only[hl,gz,show bF 7 4=0 from rfl,show bF 4 1=0 from rfl,dL,Al h]
 rw[ai (by omega),dX]
 congr 1
 exact ag9 _ o
theorem YG(o:Int){n:Nat}(h:2<=n/\16*n<=65536)(view:List aI):∃A B,∀l:List cy,l.length=n->ed (cI o l view) fq=A++(l.flatMap (dG o)++B):=by
 obtain⟨E,hE⟩:=YJ o h (aE 8+(6+12*3))
 have hend:∀(l:List cy),l.length=n->bq 8 (eK o l)=aE (aE 8+(6+12*3))+16*n:=by
  intro l hl
  unfold eK bq dZ
  simp only[bB,bY,List.length_nil,bX,dL,ca,hl,show bF 7 4=0 from rfl,show bF 4 1=0 from rfl,Al h]
  rw[ai (by omega)]
 suffices H:∃X Y,∀l:List cy,l.length=n->ed (cI o l view) fq=X++(dF (aE 8+(6+12*3))++(l.flatMap (dG o)++Y)) by
  obtain⟨X,Y,H⟩:=H
  exact⟨X++dF (aE 8+(6+12*3)),Y,λl hl=>by rw[H l hl,dD]⟩
 refine⟨(if o=1 then[73,73] else[77,77])++(aW 42 2 o++(aW 8 4 o++(dF 8++kj o (fY E) (oX 8 (eK o (List.replicate n ⟨0,0,0,0,0⟩)) (if view.length=0 then[] else[.mk view .nil []]))))),kh o fq 1 (aE (aE 8+(6+12*3))+16*n) (if view.length=0 then[] else[.mk view .nil []]),λl hl=>?_⟩
 unfold ed cI
 have hd:=hend l hl
 have hd':=hend (List.replicate n ⟨0,0,0,0,0⟩) (by simp)
 simp only[kh,oX,hd,hd']
 unfold eK
 simp only[iS,jq,hM,gS,dZ,bB,bY,List.length_nil,bX,dL,dX,dD]
 rw[hE l hl,Ql o h _ l hl]
 simp only[dD]
 rfl
theorem Yx(o:Int){n:Nat}(h:2<=n/\16*n<=65536)(view:List aI):∃N,∀l:List cy,l.length=n->gP (cI o l view)=N:=by
 refine⟨ef (aE (aE 8+(6+12*3))+16*n) (if view.length=0 then[] else[.mk view .nil []]),λl hl=>?_⟩
 unfold gP cI
 rw[ef]
 congr 1
 unfold eK bq dZ
 simp only[bB,bY,List.length_nil,bX,dL,ca,hl,show bF 7 4=0 from rfl,show bF 4 1=0 from rfl,Al h]
 rw[ai (by omega)]
theorem Jb{o:Int}{l:List cy}{view:List aI}{b:List UInt8}(h:gL o l view=.ok b):b=gy++ed (cI o l view) fq/\2<=l.length/\16*l.length<=65536/\l.all jT=true:=by
 unfold gL at h
 repeat(split at h;· cases h)
 injection h with h
 exact⟨h.symm,by omega,by omega,by simp_all⟩
end
section
set_option linter.unusedVariables false
set_option linter.unusedSimpArgs false
set_option linter.unusedSectionVars false
set_option linter.constructorNameAsVariable false
theorem YK(o:Int){l:List cy}(h:2<=l.length/\16*l.length<=65536)(view:List aI):∃S,eY (cI o l view)=⟨1,-1,0,0,8⟩::⟨2,0,0,8,42⟩::⟨3,0,45058,50,16*l.length⟩::S:=by
 unfold eY cI eK
 simp only[jk,fS,cS,bB,bY,List.length_nil,bX,show bF 7 4=0 from rfl,show bF 4 1=0 from rfl,dL,Al h]
 rw[ai (by omega)]
 exact⟨_,rfl⟩
theorem YH(o:Int){l:List cy}(h:2<=l.length/\16*l.length<=65536)(view:List aI):∃A B,A.length=50/\ed (cI o l view) fq=A++(l.flatMap (dG o)++B):=by
 have hE:∀e,(dW o e [⟨45056,7,4,[48,49,48,48]⟩,⟨45057,4,1,ee l.length 4⟩,⟨45058,7,((16*l.length:Nat):Int),l.flatMap (dG o)⟩]).length=3:=λe=>re ..
 unfold ed cI
 simp only[kh]
 generalize oX 8 (eK o l) _=nx
 unfold eK
 simp only[iS,jq,hM,gS,dZ,bB,bY,List.length_nil,bX,dL,dX,dD]
 rw[Ql o h _ l rfl]
 simp only[dD]
 generalize kh _ _ _ _ _=B
 refine⟨(if o=1 then[73,73] else[77,77])++(aW 42 2 o++(aW 8 4 o++(dF 8++(kj o (fY (dW o (aE 8+(6+12*(0+1+1+1+0+0))) [⟨45056,7,4,[48,49,48,48]⟩,⟨45057,4,1,ee l.length 4⟩,⟨45058,7,((16*l.length:Nat):Int),l.flatMap (dG o)⟩])) nx++dF (aE 8+(6+12*(0+1+1+1+0+0))))))),B,?_,?_⟩
 ·have q:=Ia o (fY (dW o (aE 8+(6+12*(0+1+1+1+0+0))) [⟨45056,7,4,[48,49,48,48]⟩,⟨45057,4,1,ee l.length 4⟩,⟨45058,7,((16*l.length:Nat):Int),l.flatMap (dG o)⟩])) nx
  rw[wS,hE] at q
  have p1:(dF 8).length=0:=rfl
  have p2:(dF (aE 8+(6+12*(0+1+1+1+0+0)))).length=0:=rfl
  simp only[aR,er,q,p1,p2]
  split<;>rfl
 ·simp only[dD]
theorem YB(x:mU)(aL:List UInt8)(h:x.cn.length≠0):∃A B,A.length=aL.length+10/\eJ x aL=A++(x.cn++B):=by
 refine⟨cL ⟨216,[],[]⟩++(cL ⟨225,aL,[]⟩++[255,UInt8.ofNat (226:Int).toNat,UInt8.ofNat ((x.cn.length+2)/256),UInt8.ofNat ((x.cn.length+2)%256)]),cT ((fW x.cj).map (λc=>⟨226,c,[]⟩)++(yY x.core).tail),?_,?_⟩
 ·have a1:(cL ⟨216,[],[]⟩).length=2:=rfl
  have a2:(cL ⟨225,aL,[]⟩).length=aL.length+4:=by
   rw[show cL ⟨225,aL,[]⟩=[255,UInt8.ofNat (225:Int).toNat,UInt8.ofNat ((aL.length+2)/256),UInt8.ofNat ((aL.length+2)%256)]++aL++[] from rfl]
   simp
  simp only[aR,a1,a2,bY,List.length_nil];omega
 ·unfold eJ jf
  rw[ai h,kA,kA,List.singleton_append,kA]
  rw[show cL ⟨226,x.cn,[]⟩=[255,UInt8.ofNat (226:Int).toNat,UInt8.ofNat ((x.cn.length+2)/256),UInt8.ofNat ((x.cn.length+2)%256)]++x.cn++[] from rfl]
  simp only[dD,fU]
end
namespace Lt
section
set_option linter.unusedVariables false
set_option linter.unusedSimpArgs false
set_option linter.unusedSectionVars false
set_option linter.constructorNameAsVariable false
open Tryz
def ints(t:Nat):Bool:=[3,36].any (Nat.beq t)
theorem YV:∀t,ints t=true->B9 Tryz.prog t:=by
 intro t h
 have h:t∈([3,36]:List Nat):=by
  unfold ints at h
  rw[List.any_eq_true] at h
  obtain⟨x,hx,e⟩:=h
  rw[bU e];exact hx
 simp only[cQ,mP,mS] at h
 rcases h with rfl|rfl
 ·exact⟨⟨_,Tryz.underlying3⟩,Tryz.t3,zA Tryz.type3,by kernel_rfl⟩
 ·exact⟨⟨_,Tryz.underlying36⟩,Tryz.t36,zA Tryz.type36,by kernel_rfl⟩
structure TE where
 t:Nat
 i:ja
 h:N8 Tryz.prog t i
noncomputable def tx{t:Nat}{n:TypeInfo}{d:TypeDesc}(h:Tryz.prog.types[t]? =some n)(u:Tryz.prog.underlying t=some d):TE:=
 ⟨t,⟨d,n.size,n.bytes,n.zero,false,[]⟩,u,⟨n,zA h,rfl,rfl,λ_ h=>h⟩,λh=>by cases h⟩
noncomputable def tn{t:Nat}{n:TypeInfo}{d:TypeDesc}(h:Tryz.prog.types[t]? =some n)(u:Tryz.prog.underlying t=some d):TE:=
 ⟨t,⟨d,n.size,n.bytes,none,false,[]⟩,u,⟨n,zA h,rfl,rfl,λ_ h=>by cases h⟩,λh=>by cases h⟩
noncomputable def tf{t:Nat}{n:TypeInfo}{d:TypeDesc}(h:Tryz.prog.types[t]? =some n)(u:Tryz.prog.underlying t=some d)(e:Tryz.prog.eqGuardType Tryz.prog.depth t=false)(s:Tryz.prog.stoodInHeld t=false:=by kernel_rfl)
 (f:IJ ints n.size d=true:=by kernel_rfl):TE:=
 ⟨t,⟨d,n.size,n.bytes,n.zero,true,[]⟩,u,⟨n,zA h,rfl,rfl,λ_ h=>h⟩,λ_=>⟨e,s,X2 YV f⟩⟩
structure FE where
 n:Nat
 f:Func
 h:Tryz.prog.funcs[n]? =some f/\(f.name== "runtime.NumGoroutine")=false/\f.body.isSome=true
noncomputable def fx{n:Nat}{f:Func}(h:Tryz.prog.funcs[n]? =some f)(k:(f.name== "runtime.NumGoroutine")=false:=by kernel_rfl)(b:f.body.isSome=true:=by kernel_rfl):FE:=⟨n,f,h,k,b⟩
noncomputable def tl:List TE:=[tx type0 underlying0,tx type1 underlying1,tx type3 underlying3,tx type4 underlying4,tx type5 underlying5,tx type9 underlying9,tx type20 underlying20,tx type22 underlying22,tx type24 underlying24,tx type25 underlying25,tx type26 underlying26,tx type28 underlying28,tx type30 underlying30,tx type35 underlying35,tx type36 underlying36,tx type37 underlying37,tx type41 underlying41,tx type43 underlying43,tx type44 underlying44,tx type47 underlying47,tx type48 underlying48,tx type50 underlying50,tx type53 underlying53,tx type56 underlying56,tx type70 underlying70,tx type72 underlying72,tf type97 underlying97 eqGuardType97,tx type98 underlying98,tx type99 underlying99,tx type103 underlying103,tx type105 underlying105,tx type107 underlying107,tx type109 underlying109,tx type112 underlying112,tx type113 underlying113,tx type115 underlying115,tx type117 underlying117,tx type119 underlying119,tx type121 underlying121,tx type123 underlying123,tx type125 underlying125,tx type134 underlying134,tx type136 underlying136,tx type159 underlying159,tx type160 underlying160,tx type163 underlying163,tx type173 underlying173,tx type174 underlying174,tx type176 underlying176,tx type179 underlying179,tx type181 underlying181,tx type182 underlying182,tx type185 underlying185,tx type186 underlying186,tx type189 underlying189,tx type192 underlying192,tx type194 underlying194,tx type198 underlying198,tx type199 underlying199,tx type203 underlying203,tx type205 underlying205,tx type207 underlying207,tx type209 underlying209,tx type210 underlying210,tx type212 underlying212,tx type215 underlying215,tx type217 underlying217,tx type218 underlying218,tx type219 underlying219,tx type221 underlying221,tx type223 underlying223,tx type232 underlying232,tx type233 underlying233,tx type259 underlying259,tx type261 underlying261,tx type266 underlying266,tx type269 underlying269,tf type271 underlying271 eqGuardType271,tx type272 underlying272,tx type273 underlying273,tx type275 underlying275,tx type278 underlying278,tx type280 underlying280,tx type283 underlying283,tx type286 underlying286,tx type288 underlying288,tx type289 underlying289,tx type291 underlying291,tx type293 underlying293,tx type295 underlying295,tx type300 underlying300,tx type301 underlying301,tx type303 underlying303,tf type304 underlying304 eqGuardType304,tf type307 underlying307 eqGuardType307,tf type314 underlying314 eqGuardType314,tx type325 underlying325,tx type327 underlying327,tf type331 underlying331 eqGuardType331,tx type334 underlying334,tx type340 underlying340,tx type346 underlying346,tx type348 underlying348,tx type349 underlying349,tx type352 underlying352,tx type354 underlying354,tx type356 underlying356,tx type361 underlying361,tx type365 underlying365,tx type366 underlying366,tx type368 underlying368,tx type377 underlying377,tf type385 underlying385 eqGuardType385,tx type386 underlying386,tx type388 underlying388,tx type394 underlying394,tx type395 underlying395,tx type397 underlying397,tx type399 underlying399,tx type400 underlying400,tf type402 underlying402 eqGuardType402,tx type404 underlying404,tf type406 underlying406 eqGuardType406,tx type413 underlying413,tf type415 underlying415 eqGuardType415,tx type417 underlying417,tx type418 underlying418,tx type422 underlying422,tx type424 underlying424,tx type425 underlying425,tx type426 underlying426,tx type429 underlying429,tx type433 underlying433,tx type435 underlying435,tx type437 underlying437,tx type438 underlying438,tf type440 underlying440 eqGuardType440,tx type441 underlying441,tx type443 underlying443,tx type446 underlying446,tx type456 underlying456,tx type458 underlying458,tx type460 underlying460,tf type463 underlying463 eqGuardType463,tf type464 underlying464 eqGuardType464,tf type465 underlying465 eqGuardType465,tx type467 underlying467,tx type472 underlying472,tx type473 underlying473,tx type479 underlying479,tx type481 underlying481,tx type482 underlying482,tx type483 underlying483,tx type486 underlying486,tx type493 underlying493,tx type498 underlying498,tx type517 underlying517,tx type522 underlying522,tx type524 underlying524,tx type545 underlying545]
noncomputable def fl:List FE:=[fx func4,fx func15,fx func17,fx func18,fx func19,fx func20,fx func21,fx func22,fx func23,fx func24,fx func25,fx func26,fx func54,fx func55,fx func56,fx func57,fx func58,fx func59,fx func60,fx func61,fx func62,fx func63,fx func64,fx func65,fx func66,fx func67,fx func68,fx func80,fx func94,fx func97,fx func104,fx func105,fx func106,fx func107,fx func108,fx func109,fx func110,fx func111,fx func112,fx func113,fx func114,fx func115,fx func116,fx func117,fx func118,fx func119,fx func120,fx func121,fx func122,fx func123,fx func124,fx func125,fx func126,fx func127,fx func128,fx func129,fx func130,fx func131,fx func132,fx func133,fx func134,fx func135,fx func142,fx func144,fx func145,fx func154,fx func155,fx func156,fx func157,fx func158,fx func159,fx func160,fx func161,fx func162,fx func163,fx func164,fx func165,fx func166,fx func167,fx func168,fx func169,fx func170,fx func171,fx func172,fx func173,fx func174,fx func175,fx func176,fx func177,fx func178,fx func179,fx func180,fx func181,fx func182,fx func183,fx func184,fx func185,fx func186,fx func187,fx func188,fx func189,fx func190,fx func191,fx func192,fx func193,fx func194,fx func195,fx func196,fx func197,fx func198,fx func199,fx func200,fx func216,fx func217,fx func218,fx func219,fx func220,fx func221,fx func222,fx func223,fx func224,fx func225,fx func226,fx func227,fx func228,fx func229,fx func230,fx func231,fx func232,fx func233,fx func234,fx func235,fx func236,fx func237,fx func238,fx func239,fx func240,fx func241,fx func242,fx func243,fx func244,fx func245,fx func246,fx func247,fx func248,fx func249,fx func250,fx func251,fx func252,fx func253,fx func254,fx func255,fx func256,fx func257,fx func258,fx func259,fx func260,fx func261,fx func262,fx func263,fx func264,fx func265,fx func266,fx func267,fx func268,fx func269,fx func286,fx func293,fx func294,fx func295,fx func299,fx func300,fx func301,fx func302,fx func303,fx func304,fx func305,fx func306,fx func307,fx func308,fx func309,fx func310,fx func311,fx func312,fx func313,fx func314,fx func315,fx func316,fx func317,fx func318,fx func319,fx func320,fx func321,fx func322,fx func323,fx func324,fx func325,fx func326,fx func327,fx func328,fx func329,fx func330,fx func331,fx func332,fx func333,fx func334,fx func335,fx func336,fx func337,fx func338,fx func339,fx func340,fx func341,fx func342,fx func361,fx func362,fx func363,fx func364,fx func365,fx func366,fx func367,fx func368,fx func369,fx func370,fx func371,fx func372,fx func373,fx func374,fx func375,fx func376,fx func377,fx func378,fx func379,fx func380,fx func381,fx func382,fx func383,fx func384,fx func385,fx func386,fx func387,fx func388,fx func389,fx func390,fx func391,fx func392,fx func393,fx func394,fx func395,fx func396,fx func397,fx func398,fx func399,fx func400,fx func401,fx func402,fx func403,fx func428,fx func429,fx func430,fx func431,fx func434,fx func435,fx func436,fx func437,fx func438,fx func439,fx func440,fx func441,fx func442,fx func443,fx func444,fx func445,fx func446,fx func447,fx func448,fx func449,fx func450,fx func451,fx func452,fx func453,fx func454,fx func455,fx func456,fx func457,fx func458,fx func478,fx func479,fx func480,fx func481,fx func482,fx func483,fx func494,fx func495]
noncomputable def agZ:TT:=sX (tl.map λe=>(e.t,e.i))
noncomputable def agY:FT:=sX (fl.map λe=>(e.n,e.f))
noncomputable def p9:ew:=⟨agZ,agY⟩
theorem fJ:iH Tryz.prog p9:=ag0 rfl rfl
 (λp hp=>by obtain⟨e,_,rfl⟩:=mg.1 hp;exact e.h) (λp hp=>by obtain⟨e,_,rfl⟩:=mg.1 hp;exact e.h)
def qfs:List Nat:=[397,317,193,181,254,255,249,239,94,267,144,130,262,398,367,81,369,318,317,142,246,269,443,258,458,231,429,444,200,178,241,312,313,240,388,330,307,389,245,162,226,300,224,167,31,148,492,210,147,474,89,414,415,470,417,71,82,102,91]
noncomputable instance:QF:=⟨λn=>List.any qfs (Nat.beq n)⟩
theorem mixed:Tryz.prog.follows .mixedOrders=true:=Tryz.checked.mixed
end
end Lt
end Go.Proofs.YtcfjfbeadhnknaaGreatDoor

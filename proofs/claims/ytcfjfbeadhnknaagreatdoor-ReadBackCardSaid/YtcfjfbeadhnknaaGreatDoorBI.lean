import Derived.Deep.Slices
import Derived.Deep.Fields
import Derived.OpenShut
import Derived.ProofKit
import Derived.ChangeSame
import Derived.Test.YtcfjfbeadhnknaaGreatDoorBH
namespace Go.Proofs.YtcfjfbeadhnknaaGreatDoor
set_option linter.unusedVariables false
set_option linter.unusedSimpArgs false
set_option linter.unusedSectionVars false
set_option linter.constructorNameAsVariable false
set_option maxRecDepth 100000
namespace Lt
theorem XW(w:Nat)(a b c t:Int)(d:Value):vq w a b c d t=some (if a<t then-1 else if t<a then 1 else 0):=by
 unfold vq NF Gu;by_cases h:a<t
 ·simp[h]
 ·by_cases h2:t<a
  ·simp[h,h2]
  ·simp[h,h2]
theorem Nr{w:Nat}(l:List aJ)(t:Int)(hr:fE l=true)(hl:l.length<2^40)(hw:l.length+2<w):
 ∃i:Nat,xS w (au l) t=some ((i:Int),(iy l t).isSome)/\i<=l.length/\(∀h:(iy l t).isSome=true,∃h':i<l.length,iy l t=some l[i])/\(∀x (h:x<l.length),x<i->l[x].tag<t)/\∀x (h:x<l.length),i<=x->t<=l[x].tag:=by
 have key:∀(k i j v:Nat),j=i+k->j<=l.length->k+1<v->(∀x (h:x<l.length),x<i->l[x].tag<t)->(∀x (h:x<l.length),j<=x->t<=l[x].tag)->
  ∀(z:Value->Int->Int->Int->Int->Option (Int×Bool))(F:(Value->Int->Int->Int->Int->Option (Int×Bool))->Value->Int->Int->Int->Int->Option (Int×Bool)),
  (∀(x8:Value->Int->Int->Int->Int->Option (Int×Bool))(x9:Value)(x10 x11 x12 x13:Int),F x8 x9 x10 x11 x12 x13=bif ai x12 x13 then ax (ag IntKind.i64 ((ag IntKind.u64 (ag IntKind.i64 (x12.add x13))).fdiv (2^1))) λ(x14:Nat)=>aC 4 x14 x9 λ(x15:List Value)=>af x15 λ(x16:Value)(x17:List Value)=>aq IntKind.i64 x16 λ(x18:Int)=>af x17 λ(x19:Value)(x20:List Value)=>aq IntKind.i64 x19 λ(x21:Int)=>af x20 λ(x22:Value)(x23:List Value)=>aq IntKind.i64 x22 λ(x24:Int)=>af x23 λ(x25:Value)(x26:List Value)=>ob (vq w x18 x21 x24 x25 x10) λ(x27:Int)=>bif ai x27 0 then x8 x9 x10 x11 (ag IntKind.i64 ((ag IntKind.i64 ((ag IntKind.u64 (ag IntKind.i64 (x12.add x13))).fdiv (2^1))).add 1)) x13 else x8 x9 x10 x11 x12 (ag IntKind.i64 ((ag IntKind.u64 (ag IntKind.i64 (x12.add x13))).fdiv (2^1))) else bif ai x12 x11 then ax x12 λ(x28:Nat)=>aC 4 x28 x9 λ(x29:List Value)=>af x29 λ(x30:Value)(x31:List Value)=>aq IntKind.i64 x30 λ(x32:Int)=>af x31 λ(x33:Value)(x34:List Value)=>aq IntKind.i64 x33 λ(x35:Int)=>af x34 λ(x36:Value)(x37:List Value)=>aq IntKind.i64 x36 λ(x38:Int)=>af x37 λ(x39:Value)(x40:List Value)=>ob (vq w x32 x35 x38 x39 x10) λ(x41:Int)=>some (x12,ah x41 0) else some (x12,false))->
  ∃i':Nat,lp z F v (au l) t l.length i j=some ((i':Int),(iy l t).isSome)/\i'<=l.length/\(∀h:(iy l t).isSome=true,∃h':i'<l.length,iy l t=some l[i'])/\(∀x (h:x<l.length),x<i'->l[x].tag<t)/\∀x (h:x<l.length),i'<=x->t<=l[x].tag:=by
  intro k;induction k using Nat.strongRecOn with
  |ind k ih=>
   intro i j v hj hjl hv h1 h2 z F hF;have tg:∀(y:aJ)(r:List Value),cq y++r=Value.int .i64 y.tag::.int .i64 y.ty::.int .i64 y.aA::aj y.data::r:=λ_ _=>rfl;rw[eA z F (by omega),hF];by_cases hk:k=0
   ·subst hk;have e1:¬((i:Int)<(j:Int)):=by omega
    simp only[aV,e1,bN,aF];by_cases hi:i<l.length
    ·have e2:((i:Int)<(l.length:Int)):=by omega
     simp only[e2,aY,aE,bQ];rw[show au l=aD cq l from rfl,bu gI hi,tg];simp only[bh,bP];rw[XW];simp only[aB];have hge:=h2 i hi (by omega);by_cases he:l[i].tag=t
     ·have hf:iy l t=some l[i]:=by
       unfold iy;rw[List.find?_eq_some_iff_getElem];refine⟨by simp[he],i,hi,rfl,λx hx=>?_⟩;have:=h1 x (by omega) hx;simp;omega
      refine⟨i,?_,by omega,λ_=>⟨hi,hf⟩,h1,λx h q=>h2 x h (by omega)⟩;rw[hf,ar (by omega),ar (by omega)];rfl
     ·have hf:iy l t=none:=by
       unfold iy;rw[List.find?_eq_none];intro y hy;obtain⟨x,hx,rfl⟩:=List.mem_iff_getElem.1 hy;have a:=λq=>h1 x hx q;have b:x=i\/x<i\/i<x:=by omega
       rcases b with rfl|b|b
       ·simpa using he
       ·have:=h1 x hx b;simp;omega
       ·have:=uY hr b hx;simp;omega
      refine⟨i,?_,by omega,(λh=>by rw[hf] at h;cases h),h1,λx h q=>h2 x h (by omega)⟩;rw[hf,ar (by omega),az (by omega)];rfl
    ·have e2:¬((i:Int)<(l.length:Int)):=by omega
     simp only[e2,bN,aF];have hf:iy l t=none:=by unfold iy;rw[List.find?_eq_none];intro y hy;obtain⟨x,hx,rfl⟩:=List.mem_iff_getElem.1 hy;have:=h1 x hx (by omega);simp;omega
     exact⟨i,by rw[hf];rfl,by omega,(λh=>by rw[hf] at h;cases h),h1,λx h q=>h2 x h (by omega)⟩
   ·have e1:((i:Int)<(j:Int)):=by omega
    obtain⟨m,hm⟩:∃m,(i+j)/2=m:=⟨_,rfl⟩;have hmi:i<=m/\m<j:=by omega
    have haw:ag IntKind.i64 ((ag IntKind.u64 (ag IntKind.i64 ((i:Int).add (j:Int)))).fdiv (2^1))=(m:Int):=by rw[cc,aO (n:=(i:Int)+(j:Int)) (by omega) (by omega),si (by omega) (by omega),show((2:Int)^1)=2 from rfl,Int.fdiv_eq_ediv_of_nonneg _ (by decide),show((i:Int)+(j:Int))/2=(m:Int) by omega,aO (by omega) (by omega)]
    simp only[aV,e1,aY,aE];rw[haw,bQ,show au l=aD cq l from rfl,bu gI (by omega:m<l.length),tg];simp only[bh,bP];rw[XW];simp only[aB];by_cases hlt:l[m].tag<t
    ·rw[az hlt,show decide ((-1:Int)<0)=true from rfl,aE,cc,aO (by omega) (by omega),show(m:Int)+1=((m+1:Nat):Int) by omega];refine ih (j -(m+1)) (by omega) (m+1) j (v -1) (by omega) hjl (by omega) (λx hx hxm=>?_) h2 z F hF;by_cases hxe:x=m
     ·subst hxe;exact hlt
     ·have:=uY hr (show x<m by omega) (show m<l.length by omega);omega
    ·rw[ar hlt];have e3:∀(A B:Option (Int×Bool)),(bif decide ((if t<l[m].tag then(1:Int) else 0)<0) then A else B)=B:=by
      intro A B;split<;>rfl
     rw[e3];refine ih (m -i) (by omega) i m (v -1) (by omega) (by omega) (by omega) h1 (λx hx hxm=>?_) z F hF;by_cases hxe:x=m
     ·subst hxe;omega
     ·have:=uY hr (show m<x by omega) hx;omega
 obtain⟨i,a,b,c⟩:=key l.length 0 l.length w (by omega) (aL _) (by omega) (λ_ _ h=>by omega) (λx h h'=>by omega) _ _ (λ_ _ _ _ _ _=>rfl);refine⟨i,?_,b,c⟩;unfold xS ND EL;refine Eq.trans (bU (λz=>ob z _) a) rfl
theorem Fu{w:Nat}(l:List aJ)(t:Int)(hr:fE l=true)(hl:l.length<2^40)(hw:l.length+2<w)(hd:∀t∈l,t.data.length<=1000000000):
 A5 w (au l) t=some (match iy l t with|some x=>(x.ty,x.aA,aj x.data,true)|none=>(0,0,ae 0 [],false)):=by
 obtain⟨i,a,b,c,_⟩:=Nr l t hr hl hw;unfold A5;rw[a];simp only[aB];cases hf:iy l t with
 |none=>rfl
 |some x=>
  obtain⟨h',e⟩:=c (by grind);rw[hf] at e;injection e with e;rw[bQ,show au l=aD cq l from rfl,bu gI h',(show∀(y:aJ)(r:List Value),List.drop 1 (cq y++r)=.int .i64 y.ty::.int .i64 y.aA::aj y.data::r fromλ_ _=>rfl)]
  simp;unfold tB;rw[re w _ (hd _ (cG h')),<-e];rfl
def wQ(l:List aJ):List (Int×aT)->List aJ
 |[]=>l
 |(_,.mk tags _ _)::r=>wQ tags r
theorem RR:∀(s:cA)(l:List aJ),wR l s=wQ l (aN s)
 | .nil,l=>rfl
 | .cons _ (.mk tags _ _) r,l=>by rw[wR,RR r tags];rfl
theorem sC(tags:List aJ)(subs:cA)(blob:List UInt8):cS (.mk tags subs blob)=[au tags,ae (bY subs) (gA subs),aj blob]:=by rw[cS]
def Zj(m:Nat)(l:List (Int×aT)):Prop:=∀p∈l,iq m p.2
theorem agY{w m:Nat}(hm:m<=1000000)(hw:m+20<w)(L:List (Int×aT))(hL:L.length<=m)(hS:Zj m L)(o:Int)(a b c e f g:Value)(i0:List aJ):
 lp UE (Ea w) w (aD fU L) L.length 0 o a b c (au i0) e f g=some (true,o,a,b,c,au (wQ i0 L),e,f,g):=by
 refine nb (ev:=λi s (k:Cn)=>k (aD fU L) L.length i o a b c (au s) e f g) (Inv:=λi s=>wQ s (L.drop i)=wQ i0 L) L.length i0 (by rw[dX]) ?_ ?_ (by omega)
 ·intro i g s hi hI;have hsm:=hS _ (cG hi);rw[cX hi] at hI;have e1:((i:Int)<(L.length:Int)):=by omega
  have sg:∀(p:Int×aT)(r:List Value),fU p++r=.int .i64 p.1 ::dT p.2 ::dS p.2 ::dB p.2 ::r:=by intro p r;unfold fU;rw[py];rfl
  obtain⟨⟨tags,subs,blob⟩,hd⟩:∃d,L[i].2 =d:=⟨_,rfl⟩;have hsm2:tags.length<=m/\bY subs<=m/\blob.length<=m/\(∀t∈tags,t.data.length<=m)/\ir m subs:=by rw[hd] at hsm;exact hsm
  refine⟨tags,?_,?_⟩
  ·rw[<-hI,show L[i]=(L[i].1,L[i].2) from rfl,hd];rfl
  ·unfold Ea AJ;simp only[aV,e1,bQ];rw[bu tI hi,sg];simp only[bh];rw[hd,show dT (.mk tags subs blob)=au tags from rfl,rC tags (by omega) (λt ht=>by have:=hsm2.2.2.2.1 t ht;omega) (by omega)];simp only[cc];rw[aO (by omega) (by omega)];rfl
 ·intro g s hI;rw[qT,wQ] at hI;unfold Ea AJ;simp;rw[hI]
theorem ajb{w m:Nat}(A:Hand w)(hm:m<=1000000)(hw:m+20<w){r r':db}{d:aT}(hd:iq m d)(hr:∀tags subs blob,d=.mk tags subs blob->fE tags=true)(h:qv r d=some r'):
 Gc w (dT d) (dS d) (dB d) r.order (au r.cj) (au r.bD) (au r.bG) (au r.bj) (au r.first) (aj r.bC) (aj r.cC)=some (true,r'.order,au r'.cj,au r'.bD,au r'.bG,au r'.bj,au r'.first,aj r'.bC,aj r'.cC):=by
 obtain⟨tags,subs,blob⟩:=d;have hsm2:tags.length<=m/\bY subs<=m/\blob.length<=m/\(∀t∈tags,t.data.length<=m)/\ir m subs:=hd;have hrt:=hr tags subs blob rfl;have hsl:=tK subs;have hdrop:=A.drop tags 37500 hrt (by omega) (by omega) (λt ht=>by have:=hsm2.2.2.2.1 t ht;omega);have hlp:=agY hm hw (aN subs) (by omega) (λp hp=>we hsm2.2.2.2.2 p hp) r.order (au r.cj) (au (oD tags 37500)) (au r.bG) (au r.first);unfold Gc AJ;rw[show dT (.mk tags subs blob)=au tags from rfl,show dS (.mk tags subs blob)=ae (bY subs) (gA subs) from rfl,(Fu tags 37500 hrt (by omega) (by omega) (λt ht=>by have:=hsm2.2.2.2.1 t ht;omega)),BU];simp only[qv,RR] at h;cases hf:iy tags 37500 with
 |some v=>
  rw[hf] at h;simp only at h;split at h
  case isFalse=>cases h
  rename_i h7;injection h with h;subst h;simp;rw[h7,hdrop];exact hlp _ _ _
 |none=>rw[hf] at h;injection h with h;subst h;rw[hdrop];simp only[aaz];exact hlp _ _ _
theorem acD{w m:Nat}(hm:m<=1000000)(hw:m+20<w)(ds:List aT)(hl:ds.length<=m)(hS:nG m ds)(r x:db)(hx:uy r ds=x)(hc:iI x=0)(hE:jm x m)(A B C D E F G:Value):
 lp SL (DB w) w (aD cS ds) ds.length 0 0 A B C D E F G r.order (au r.cj) (au r.bD) (au r.bG) (au r.bj) (au r.first) (aj r.bC) (aj r.cC)=some (x.order,au x.cj,au x.bD,au x.bG,au x.bj,au x.first,aj x.bC,aj x.cC,0):=by
 refine nb (σ:=db) (ev:=λi s (k:Cj)=>k (aD cS ds) ds.length i 0 A B C D E F G s.order (au s.cj) (au s.bD) (au s.bG) (au s.bj) (au s.first) (aj s.bC) (aj s.cC)) (Inv:=λi s=>uy s (ds.drop i)=x) ds.length r hx ?_ ?_ (by omega)
 ·intro i g s hi hI;have hsm:=hS _ (cG hi);rw[cX hi] at hI;obtain⟨⟨tags,subs,blob⟩,hd⟩:∃d,ds[i]=d:=⟨_,rfl⟩;rw[hd] at hI hsm;have hsm2:tags.length<=m/\bY subs<=m/\blob.length<=m/\(∀t∈tags,t.data.length<=m)/\ir m subs:=hsm;refine⟨_,hI,?_⟩;unfold DB;simp_all;rw[bu kH hi,hd,zf];simp;rw[show dT (.mk tags subs blob)=au tags from rfl,show dB (.mk tags subs blob)=aj blob from rfl,rC tags (by omega) (λt ht=>by have:=hsm2.2.2.2.1 t ht;omega) (by omega),re w blob (by omega),aO (by omega) (by omega)];rfl
 ·intro g s hI;rw[qT,uy] at hI;subst hI;unfold DB;simp;rw[XQ hE (by omega) hw,hc];rfl
def qM(r:db):List (Int×aT)->Option db
 |[]=>some r
 |(tag,d)::s=>if tag=34853 then qM {r with bG:=(match d with| .mk tags _ _=>tags)} s else(qv r d).bind λr=>qM r s
theorem OA:∀(s:cA)(r:db),qL r s=qM r (aN s)
 | .nil,r=>rfl
 | .cons tag (.mk tags a b) s,r=>by
  show(if tag=34853 then qL {r with bG:=tags} s else(qv r (.mk tags a b)).bind λr=>qL r s)=(if tag=34853 then qM {r with bG:=tags} (aN s) else(qv r (.mk tags a b)).bind λr=>qM r (aN s))
  split
  ·exact OA s _
  ·congr 1
   funext r
   exact OA s r
theorem akL(r:db)(tag:Int)(d:aT)(s:List (Int×aT)):qM r ((tag,d)::s)=if tag=34853 then qM {r with bG:=(match d with| .mk tags _ _=>tags)} s else(qv r d).bind λr=>qM r s:=by rfl
def Cu(d:aT):Prop:=∀tags subs blob,d=.mk tags subs blob->fE tags=true
theorem aiY{w m:Nat}(A:Hand w)(hm:m<=1000000)(hw:m+20<w){o:Int}{ds:List aT}{x:db}(h200:tC w o (cQ ds) (cg cV)=some 0)(h:wW ⟨o,ds⟩=some x)(hE:jm x m)(hl:ds.length<=m)(hS:nG m ds)(hr:∀d∈ds,∀tags subs blob,d=.mk tags subs blob->∀p∈aN subs,Cu p.2):
 F1 w o (cQ ds)=some (x.order,au x.cj,au x.bD,au x.bG,au x.bj,au x.first,aj x.bC,aj x.cC,0):=by
 unfold wW at h;rcases ds with _|⟨⟨tags,subs,blob⟩,ds⟩
 ·cases h
 simp only at h;rw[OA] at h;obtain⟨r1,hr1,h⟩:=Option.bind_eq_some_iff.1 h;split at h
 case isFalse=>cases h
 rename_i hc;injection h with h;have hsm2:tags.length<=m/\bY subs<=m/\blob.length<=m/\(∀t∈tags,t.data.length<=m)/\ir m subs:=hS _ nA;have hrs:=hr _ nA tags subs blob rfl;have hsl:=tK subs;rw[cm] at hl;have e0:∀(K:List Value->Option (Int×Value×Value×Value×Value×Value×Value×Value×Int)),aC 3 0 (cQ (.mk tags subs blob::ds)) K=K (cS (.mk tags subs blob)++ds.flatMap cS):=λK=>bu kH (m:=0) (by rw[cm];omega) K
 have d0:∀r:List Value,List.drop 0 (cS (.mk tags subs blob)++r)=au tags::ae (bY subs) (gA subs)::aj blob::r:=by intro r;rw[sC];rfl
 have d1:∀r:List Value,List.drop 1 (cS (.mk tags subs blob)++r)=ae (bY subs) (gA subs)::aj blob::r:=by intro r;rw[sC];rfl
 unfold F1;rw[Nd];simp only[aB];rw[h200];simp only[aB];rw[show(!ah 0 0)=false from rfl,aF,e0,d0];simp only[bh];rw[rC tags (by omega) (λt ht=>by have:=hsm2.2.2.2.1 t ht;omega) (by omega)];simp only[aB];rw[e0,d1];simp only[bh];rw[BU,cI];have main:lp SK (DA w) w (aD fU (aN subs)) (aN subs).length 0 o (cQ (.mk tags subs blob::ds)) 0 (ae 0 []) (ae 0 []) (ae 0 []) (ae 0 []) (ae 0 []) (ae 0 []) (ae 0 []) o (au tags) (au []) (au []) (au []) (au []) (aj []) (aj [])=some (x.order,au x.cj,au x.bD,au x.bG,au x.bj,au x.first,aj x.bC,aj x.cC,0):=by
  refine nb (σ:=db) (ev:=λi s (k:Ci)=>k (aD fU (aN subs)) (aN subs).length i o (cQ (.mk tags subs blob::ds)) 0 (ae 0 []) (ae 0 []) (ae 0 []) (ae 0 []) (ae 0 []) (ae 0 []) (ae 0 []) s.order (au s.cj) (au s.bD) (au s.bG) (au s.bj) (au s.first) (aj s.bC) (aj s.cC)) (Inv:=λi s=>qM s ((aN subs).drop i)=some r1) (aN subs).length ⟨o,tags,[],[],[],[],[],[]⟩ ?_ ?_ ?_ (by omega)
  ·exact hr1
  ·intro i g s hi hI;have hmem:=cG hi;have hsm:=we hsm2.2.2.2.2 _ hmem;have hri:=hrs _ hmem;rw[cX hi] at hI;have e1:((i:Int)<((aN subs).length:Int)):=by omega
   have sg:∀(p:Int×aT)(r:List Value),fU p++r=.int .i64 p.1 ::dT p.2 ::dS p.2 ::dB p.2 ::r:=by intro p r;unfold fU;rw[py];rfl
   rw[akL] at hI;unfold DA;simp_all;rw[bu tI hi,sg];simp;by_cases hg:(aN subs)[i].1 =34853
   ·rw[az hg] at hI;simp_all;refine⟨_,hI,?_⟩;obtain⟨⟨tags2,subs2,blob2⟩,hd⟩:∃d,(aN subs)[i].2 =d:=⟨_,rfl⟩;rw[hd] at hsm⊢;have hsm3:tags2.length<=m/\bY subs2<=m/\blob2.length<=m/\(∀t∈tags2,t.data.length<=m)/\ir m subs2:=hsm;rw[show dT (.mk tags2 subs2 blob2)=au tags2 from rfl,rC tags2 (by omega) (λt ht=>by have:=hsm3.2.2.2.1 t ht;omega) (by omega)];rw[aO (by omega) (by omega)];rfl
   ·rw[ar hg] at hI;simp_all;obtain⟨s2,hs2,hI⟩:=Option.bind_eq_some_iff.1 hI;refine⟨s2,hI,?_⟩;rw[ajb A hm hw hsm hri hs2];simp only[aB,bH,aF,cc];rw[aO (by omega) (by omega)];rfl
  ·intro g s hI;rw[qT,qM] at hI;injection hI with hI;subst hI;have e1:¬(((aN subs).length:Int)<((aN subs).length:Int)):=by omega
   unfold DA;simp;rw[show cQ (.mk tags subs blob::ds)=aD cS (.mk tags subs blob::ds) from rfl,cI];have e2:1<=(aT.mk tags subs blob::ds).length:=by rw[cm];omega
   simp only[fW,aL,e2,aY,jj,aE];rw[um kH _ (aL _),List.drop_succ_cons,dX,fe (by rw[cm];omega),cI];exact acD hm hw ds (by omega) (λd hd=>hS d (mJ _ hd)) s x h (by rw[<-h];exact hc) hE _ _ _ _ _ _ _
 exact main
theorem aiD{w m:Nat}(A:Hand w)(hm:m<=1000000)(hw:m+20<w){b:List UInt8}{o:Int}{ds:List aT}{S:List bn}{x:db}(h117:xJ w (aj b) (cg cV)=some (o,cQ ds,aD bV S,0))(h200:tC w o (cQ ds) (cg cV)=some 0)(h:wW ⟨o,ds⟩=some x)(hE:jm x m)(hl:ds.length<=m)(hS:nG m ds)(hr:∀d∈ds,∀tags subs blob,d=.mk tags subs blob->∀p∈aN subs,Cu p.2):
 A4 w (aj b)=some (x.order,au x.cj,au x.bD,au x.bG,au x.bj,au x.first,aj x.bC,aj x.cC,0):=by
 unfold A4 EK;rw[Nd];simp;rw[h117];simp;rw[aiY A hm hw h200 h hE hl hS hr];rfl
theorem Yi(w:Nat)(b:List UInt8):BE w (aj b)=some (mV.isPrefixOf b):=by unfold BE;have:ae 6 (List.drop 0 [Value.int IntKind.u8 69,Value.int IntKind.u8 120,Value.int IntKind.u8 105,Value.int IntKind.u8 102,Value.int IntKind.u8 0,Value.int IntKind.u8 0])=aj mV:=rfl;rw[this,AY];rfl
theorem MM(w:Nat)(b:List UInt8):A1 w (aj b)=some (fJ.isPrefixOf b):=by unfold A1;have:ae 12 (List.drop 0 [Value.int IntKind.u8 73,Value.int IntKind.u8 67,Value.int IntKind.u8 67,Value.int IntKind.u8 95,Value.int IntKind.u8 80,Value.int IntKind.u8 82,Value.int IntKind.u8 79,Value.int IntKind.u8 70,Value.int IntKind.u8 73,Value.int IntKind.u8 76,Value.int IntKind.u8 69,Value.int IntKind.u8 0])=aj fJ:=rfl;rw[this,AY];rfl
theorem aj9{w:Nat}{b k:List UInt8}(hk:b=mV++k)(hb:b.length<=65533){o:Int}{a1 a2 a3 a4 a5 a6 a7:Value}(h:A4 w (aj k)=some (o,a1,a2,a3,a4,a5,a6,a7,0)):ym w (aj b)=some (o,a1,a2,a3,a4,a5,a6,a7,0):=by
 have hp:mV.isPrefixOf b=true:=by rw[hk,pX];exact rY _ _
 have hl:6<=b.length:=by rw[hk,aP];have:mV.length=6:=rfl;omega
 have e1:¬((65533:Int)<(b.length:Int)):=by omega
 have e2:¬((b.length:Int)<(6:Int)):=by omega
 unfold ym MN MO EK;rw[cw];simp[e1];simp[e2];rw[Yi,hp];simp[hl];rw[lM _ (aL _),fe (by rw[eS];omega),show b.drop 6=k by rw[hk];rfl,h];rfl
theorem aiE{w:Nat}{c:List UInt8}(h1:1<=c.length)(h2:c.length<=65519):Fp w (aj (fJ++1::1::c)) ((0:Nat):Int) 1=some true:=by
 have hp:fJ.isPrefixOf (fJ++1::1::c)=true:=by rw[pX];exact rY _ _
 have hl:(fJ++1::1::c).length=c.length+14:=by rw[aP];show 12+_=_;simp;omega
 have i12:(fJ++1::1::c)[12]'(by omega)=1:=rfl
 have i13:(fJ++1::1::c)[13]'(by omega)=1:=rfl
 unfold Fp;rw[cw,MM,hp];simp only[aB,aF];rw[nQ (by omega:12<_),i12];unfold aX;simp only[bh,bP];rw[show ah (ag IntKind.i64 ((1:UInt8).toNat:Int)) (ag IntKind.i64 (Int.add ((0:Nat):Int) 1))=true from rfl];rw[nQ (by omega:13<_),i13];unfold aX;simp only[bh,bP];rw[show ah (ag IntKind.i64 ((1:UInt8).toNat:Int)) 1=true from rfl];simp only[bH];rw[hl,iT,cf,aO (by omega) (by omega),show((c.length+14:Nat):Int) -14=(c.length:Int) by omega];simp only[bW,aV];by_cases h:(c.length:Int)=65519
 ·simp[h]
 ·have e1:¬((c.length:Int)<1):=by omega
  have e3:(((0:Nat):Int)=ag IntKind.i64 (Int.sub 1 1)):=rfl;simp only[h,e1,(show((c.length:Int)<65519) from by omega),bN,aY,ft,aE,aF];rw[gp e3,aE]
theorem aka{w:Nat}(hw:20<w){b:List UInt8}(hb:b.length<=65519):GS w (aD fo (fY b))=some (aj b,0):=by
 have hbl:∀l:List (List UInt8),∀K:Nat->Option (Value×Int),ak (aD fo l) K=K l.length:=λl K=>cI fo l K;unfold GS fY;by_cases h0:b.length=0
 ·rw[az h0,hbl,hbl,eA _ _ (by omega)];have:b=[]:=oX.1 h0;subst this;rfl
 ·rw[ar h0,hbl,hbl,eA _ _ (by omega)];have x0:∀(K:List Value->Option (Value×Int)),aC 1 0 (aD fo [fJ++1::1::b]) K=K (fo (fJ++1::1::b)++([].flatMap fo)):=λK=>bu (k:=1) (λ_=>rfl) (m:=0) (by show 0<1;omega) K;have hl:(fJ++1::1::b).length=b.length+14:=by rw[aP];show 12+_=_;simp;omega
  have e1:¬((Int.ofNat (fJ++1::1::b).length)<14):=by rw[cf];omega
  have e14:14<=(fJ++1::1::b).length:=by omega
  rw[show(0:Int)=((0:Nat):Int) from rfl,bQ,x0];rw[show fo (fJ++1::1::b)++([].flatMap fo)=[aj (fJ++1::1::b)] from rfl];simp only[bh];rw[cw];simp only[aV,e1,aF];rw[hbl,show Int.ofNat [fJ++1::1::b].length=1 from rfl,aiE (by omega) hb];rw[cw];simp only[fW,e14,aY,aE];rw[lM _ (aL _),fe (by rw[eS];omega),show(fJ++1::1::b).drop 14=b from rfl,gY,iv,gD];have hr1:aw b.length=true:=by simp;omega
  rw[hr1];rw[show ag IntKind.i64 (Int.add ((0:Nat):Int) 1)=1 from rfl,eA _ _ (by omega)];simp;rw[nL]
def yz(m:Int)(p:List UInt8->Bool):List bB->Bool
 |[]=>false
 |s::_=>decide (s.bR=m)&&p s.data
theorem nX{β:Type}(s:bB)(r:List bB)(K:List Value->Option β):aC 3 0 (dI (s::r)) K=K (cK s++r.flatMap cK):=bu jA (by simp) K
theorem EY{β:Type}(s:bB)(r:List bB)(K:Value->Option β):eJ 3 1 (s::r).length (dI (s::r)) K=K (dI r):=by rw[show dI (s::r)=aD cK (s::r) from rfl,um jA _ (aL _),fe (by simp)];rfl
theorem rJ{β:Type}(l:List bB)(K:Nat->Option β):ak (dI l) K=K l.length:=cI cK l K
theorem aj4{w:Nat}{m:Int}{s:bB}{r:List bB}(h1:s.bR=m)(h2:mV.isPrefixOf s.data=true)(x2:Int)(x3 x4 x5 x6 x7 x8 x9 x10 x11 x12:Value)(x13 x14:Int):GQ w m (dI (s::r)) x2 x3 x4 x5 x6 x7 x8 x9 x10 x11 x12 x13 x14=some (aj s.data,true,dI r,x2,x3,x4,x5,x6,x7,x8,x9,x10,x11,x12,x13,x14):=by
 have e1:ah (Int.ofNat (s::r).length) 0=false:=by rw[bW,gE,cf,cm];omega
 have e2:1<=(s::r).length:=by rw[cm];omega
 have c2:∀q:List Value,cK s++q=.int .i64 s.bR::aj s.data::aj s.scan::q:=λ_=>rfl;unfold GQ te;rw[rJ,e1,nX,(show∀q:List Value,List.drop 0 (cK s++q)=.int .i64 s.bR::aj s.data::aj s.scan::q fromλ_=>rfl)];simp only[bh,bP];rw[h1,show ah m m=true by rw[bW,bX],nX,(show∀q:List Value,List.drop 1 (cK s++q)=aj s.data::aj s.scan::q fromλ_=>rfl)];simp only[bh];rw[Yi,h2];simp only[aB,bH,aF];rw[nX,c2];simp only[bh,bP];rw[rJ];simp only[fW,aL,e2,aY,jj,aE];rw[EY]
theorem aj1{w:Nat}{m:Int}{s:bB}{r:List bB}(h1:s.bR=m)(h2:gh.isPrefixOf s.data=true)(x2:Int)(x3 x4 x5 x6 x7 x8 x9 x10 x11 x12:Value)(x13 x14:Int):yj w m (dI (s::r)) x2 x3 x4 x5 x6 x7 x8 x9 x10 x11 x12 x13 x14=some (aj s.data,true,dI r,x2,x3,x4,x5,x6,x7,x8,x9,x10,x11,x12,x13,x14):=by
 have e1:ah (Int.ofNat (s::r).length) 0=false:=by rw[bW,gE,cf,cm];omega
 have e2:1<=(s::r).length:=by rw[cm];omega
 have c2:∀q:List Value,cK s++q=.int .i64 s.bR::aj s.data::aj s.scan::q:=λ_=>rfl;unfold yj te;rw[rJ,e1,nX,(show∀q:List Value,List.drop 0 (cK s++q)=.int .i64 s.bR::aj s.data::aj s.scan::q fromλ_=>rfl)];simp only[bh,bP];rw[h1,show ah m m=true by rw[bW,bX],nX,(show∀q:List Value,List.drop 1 (cK s++q)=aj s.data::aj s.scan::q fromλ_=>rfl)];simp only[bh];rw[Oc,h2];simp only[aB,bH,aF];rw[nX,c2];simp only[bh,bP];rw[rJ];simp only[fW,aL,e2,aY,jj,aE];rw[EY]
theorem aj0{w:Nat}{m:Int}{l:List bB}(h:yz m (λd=>gh.isPrefixOf d) l=false)(x2:Int)(x3 x4 x5 x6 x7 x8 x9 x10 x11 x12:Value)(x13 x14:Int):yj w m (dI l) x2 x3 x4 x5 x6 x7 x8 x9 x10 x11 x12 x13 x14=some (ae 0 [],false,dI l,x2,x3,x4,x5,x6,x7,x8,x9,x10,x11,x12,x13,x14):=by
 unfold yj te;rw[rJ];cases l with
 |nil=>rfl
 |cons s r=>
  have h:(decide (s.bR=m)&&gh.isPrefixOf s.data)=false:=h;rw[(show ah (Int.ofNat (s::r).length) 0=false from by rw[bW,gE,cf,cm];omega),aF,nX,(show∀q:List Value,List.drop 0 (cK s++q)=.int .i64 s.bR::aj s.data::aj s.scan::q fromλ_=>rfl)];simp only[bh,bP,bW];by_cases hm:s.bR=m
  ·rw[gp hm,eD] at h;rw[nX,(show∀q:List Value,List.drop 1 (cK s++q)=aj s.data::aj s.scan::q fromλ_=>rfl)];simp;rw[Oc,h];simp
  ·rw[fH hm,ft,aE]
theorem aj3{w:Nat}{m:Int}{s:bB}{r:List bB}(h1:s.bR=m)(h2:fJ.isPrefixOf s.data=true)(x2:Int)(x3 x4 x5 x6 x7 x8 x9 x10 x11 x12:Value)(x13 x14:Int):tG w m (dI (s::r)) x2 x3 x4 x5 x6 x7 x8 x9 x10 x11 x12 x13 x14=some (aj s.data,true,dI r,x2,x3,x4,x5,x6,x7,x8,x9,x10,x11,x12,x13,x14):=by
 have e1:ah (Int.ofNat (s::r).length) 0=false:=by rw[bW,gE,cf,cm];omega
 have e2:1<=(s::r).length:=by rw[cm];omega
 have c2:∀q:List Value,cK s++q=.int .i64 s.bR::aj s.data::aj s.scan::q:=λ_=>rfl;unfold tG te;rw[rJ,e1,nX,(show∀q:List Value,List.drop 0 (cK s++q)=.int .i64 s.bR::aj s.data::aj s.scan::q fromλ_=>rfl)];simp only[bh,bP];rw[h1,show ah m m=true by rw[bW,bX],nX,(show∀q:List Value,List.drop 1 (cK s++q)=aj s.data::aj s.scan::q fromλ_=>rfl)];simp only[bh];rw[MM,h2];simp only[aB,bH,aF];rw[nX,c2];simp only[bh,bP];rw[rJ];simp only[fW,aL,e2,aY,jj,aE];rw[EY]
theorem aj2{w:Nat}{m:Int}{l:List bB}(h:yz m (λd=>fJ.isPrefixOf d) l=false)(x2:Int)(x3 x4 x5 x6 x7 x8 x9 x10 x11 x12:Value)(x13 x14:Int):tG w m (dI l) x2 x3 x4 x5 x6 x7 x8 x9 x10 x11 x12 x13 x14=some (ae 0 [],false,dI l,x2,x3,x4,x5,x6,x7,x8,x9,x10,x11,x12,x13,x14):=by
 unfold tG te;rw[rJ];cases l with
 |nil=>rfl
 |cons s r=>
  have h:(decide (s.bR=m)&&fJ.isPrefixOf s.data)=false:=h;rw[(show ah (Int.ofNat (s::r).length) 0=false from by rw[bW,gE,cf,cm];omega),aF,nX,(show∀q:List Value,List.drop 0 (cK s++q)=.int .i64 s.bR::aj s.data::aj s.scan::q fromλ_=>rfl)];simp only[bh,bP,bW];by_cases hm:s.bR=m
  ·rw[gp hm,eD] at h;rw[nX,(show∀q:List Value,List.drop 1 (cK s++q)=aj s.data::aj s.scan::q fromλ_=>rfl)];simp;rw[MM,h];simp
  grind
theorem aj7{w:Nat}(cs:List (List UInt8))(hcs:∀c∈cs,fJ.isPrefixOf c=true)(hl:cs.length<1000)(hw:2000<w){r:List bB}(h:yz 226 (λd=>fJ.isPrefixOf d) r=false)(x1:Int)(x2 x3 x4 x5 x6 x7 x8 x9 x10 x11:Value)(x12 x13:Int):
 yk w (dI (cs.map (λc=>⟨226,c,[]⟩)++r)) x1 x2 x3 x4 x5 x6 x7 x8 x9 x10 x11 x12 x13=some (dI r,x1,x2,x3,x4,x5,x6,x7,x8,x9,x10,x11,x12,x13,cs.flatMap fo):=by
 obtain⟨tk,htk⟩:∃tk:List (List UInt8)->Value×Bool×Value×Int×Value×Value×Value×Value×Value×Value×Value×Value×Value×Value×Int×Int,tk=λl=>match l with
  |[]=>(ae 0 [],false,dI r,x1,x2,x3,x4,x5,x6,x7,x8,x9,x10,x11,x12,x13)
  |c::l=>(aj c,true,dI (l.map (λc=>(⟨226,c,[]⟩:bB))++r),x1,x2,x3,x4,x5,x6,x7,x8,x9,x10,x11,x12,x13):=⟨_,rfl⟩
 have ht:∀l:List (List UInt8),(∀c∈l,fJ.isPrefixOf c=true)->tG w 226 (dI (l.map (λc=>(⟨226,c,[]⟩:bB))++r)) x1 x2 x3 x4 x5 x6 x7 x8 x9 x10 x11 x12 x13=some (tk l):=by
  intro l hl;rw[htk];cases l with
  |nil=>exact aj2 h _ _ _ _ _ _ _ _ _ _ _ _ _
  |cons c l=>have:=aj3 (w:=w) (s:=⟨226,c,[]⟩) (r:=l.map (λc=>(⟨226,c,[]⟩:bB))++r) rfl (hl c nA) x1 x2 x3 x4 x5 x6 x7 x8 x9 x10 x11 x12 x13;exact this
 unfold yk;rw[ht cs hcs];refine nb (ev:=λi _ (g:Value->Bool->Value->Int->Value->Value->Value->Value->Value->Value->Value->Value->Value->Value->Int->Int->List Value->Option (Value×Int×Value×Value×Value×Value×Value×Value×Value×Value×Value×Value×Int×Int×List Value))=>g (tk (cs.drop i)).1 (tk (cs.drop i)).2.1 (tk (cs.drop i)).2.2.1 (tk (cs.drop i)).2.2.2.1 (tk (cs.drop i)).2.2.2.2.1 (tk (cs.drop i)).2.2.2.2.2.1 (tk (cs.drop i)).2.2.2.2.2.2.1 (tk (cs.drop i)).2.2.2.2.2.2.2.1 (tk (cs.drop i)).2.2.2.2.2.2.2.2.1 (tk (cs.drop i)).2.2.2.2.2.2.2.2.2.1 (tk (cs.drop i)).2.2.2.2.2.2.2.2.2.2.1 (tk (cs.drop i)).2.2.2.2.2.2.2.2.2.2.2.1 (tk (cs.drop i)).2.2.2.2.2.2.2.2.2.2.2.2.1 (tk (cs.drop i)).2.2.2.2.2.2.2.2.2.2.2.2.2.1 (tk (cs.drop i)).2.2.2.2.2.2.2.2.2.2.2.2.2.2.1 (tk (cs.drop i)).2.2.2.2.2.2.2.2.2.2.2.2.2.2.2 ((cs.take i).flatMap fo)) (Inv:=λ_ _=>True) cs.length () trivial ?_ ?_ (by omega)
 ·intro i g _ hi _;refine⟨(),trivial,?_⟩;have hfl:((cs.take i).flatMap fo).length=i:=by
   rw[dc (k:=1) (λ_=>rfl),dJ,kU (by omega),gD]
  simp only[(show tk (cs.drop i)=(aj cs[i],true,dI ((cs.drop (i+1)).map (λc=>(⟨226,c,[]⟩:bB))++r),x1,x2,x3,x4,x5,x6,x7,x8,x9,x10,x11,x12,x13) from by rw[(cX hi),htk])];rw[hfl,(show aw i=true from by simp;omega),ht _ (λc hc=>hcs c (pY hc)),iO hi,fu];rfl
 ·intro g _ _;simp_all
theorem aj8{w:Nat}(r:List bB)(hl:r.length<2^40)(hw:r.length<w)(h:∀s∈r,o8 s.bR=false)(x1:Int)(x2 x3 x4 x5 x6 x7 x8 x9 x10 x11:Value)(x12 x13:Int):
 Of w (dI r) x1 x2 x3 x4 x5 x6 x7 x8 x9 x10 x11 x12 x13=some (false,dI r,x1,x2,x3,x4,x5,x6,x7,x8,x9,x10,x11,x12,x13):=by
 refine iL (ev:=λi (g:Value->Int->Int->Value->Int->Value->Value->Value->Value->Value->Value->Value->Value->Value->Value->Int->Int->Option (Bool×Value×Int×Value×Value×Value×Value×Value×Value×Value×Value×Value×Value×Int×Int))=>g (dI r) r.length i (dI r) x1 x2 x3 x4 x5 x6 x7 x8 x9 x10 x11 x12 x13) r.length ?_ ?_ hw
 ·intro i g hi;have c2:∀(s:bB)(q:List Value),cK s++q=.int .i64 s.bR::aj s.data::aj s.scan::q:=λ_ _=>rfl;have ha:=h _ (cG hi);unfold o8 at ha;simp;rw[show dI r=aD cK r from rfl,bu jA hi,aO (by omega) (by omega)];simp_all
 simp
noncomputable def SA(w:Nat)(aS q:Value)(a1:Int)(a2 a3 a4 a5 a6 a7 a8 a9 a10 a11:Value)(a12 a13:Int):Option (Int×Value×Value×Value×Value×Value×Value×Value×Value×Value×Value×Int×Int×Int):=
 ob (yk w q a1 a2 a3 a4 a5 a6 a7 a8 a9 a10 a11 a12 a13) λx=>AF w x (aS,true,q,0,q,q,q,q,q,q,q,q,q,q,0,0)
theorem acr{w m:Nat}(A:Hand w){aS:List UInt8}{cs:List (List UInt8)}{r:List bB}{core:List UInt8}{cd:List UInt8}(hcs:cs=fY cd)(hicc:cd.length<=65519)
 (hm:m<2^26) (hw:2*m+200000<w) (hr:∀s∈r,o8 s.bR=false) (hr1:r.length≠0) (hcore:mT core=true) (hcw:cJ (⟨216,[],[]⟩::r)=core) (hmay:kK (⟨216,[],[]⟩::r)=true) (hseg:wc (⟨216,[],[]⟩::r) m) (hlen:r.length<=m) (hcl:core.length<=m)
 {o:Int} {b1 b2 b3 b4 b5 b6 b7:Value} (h60:ym w (aj aS)=some (o,b1,b2,b3,b4,b5,b6,b7,0)) (a1:Int) (a2 a3 a4 a5 a6 a7 a8 a9 a10 a11:Value) (a12 a13:Int):
 SA w (aj aS) (dI (cs.map (λc=>(⟨226,c,[]⟩:bB))++r)) a1 a2 a3 a4 a5 a6 a7 a8 a9 a10 a11 a12 a13=some (o,b1,b2,b3,b4,b5,b6,b7,aj cd,aj core,a11,a12,a13,0):=by
 have hq:yz 226 (λd=>fJ.isPrefixOf d) r=false:=by
  cases r with
  |nil=>rfl
  |cons s r=>have:=hr s nA;unfold o8 at this;rw[gE] at this;show(decide (s.bR=226)&&_)=false;rw[fH (by omega)];rfl
 have hpre:∀c∈cs,fJ.isPrefixOf c=true:=by
  intro c hc;rw[hcs] at hc;unfold fY at hc;split at hc
  ·cases hc
  ·rw[oY.1 hc,pX];exact rY _ _
 have hchl:cs.length<=1:=by rw[hcs];unfold fY;split<;>simp
 have e0:ah 0 0=true:=rfl;unfold SA AF xu EF;rw[aj7 cs hpre (by omega) (by omega) hq];simp only[aB];rw[aj8 r (by omega) (by omega) hr];rw[h60];have hcv:ae ((cs.flatMap fo).length/1) (cs.flatMap fo)=aD fo (fY cd):=by rw[dc (k:=1) (λ_=>rfl),ky,gD,hcs];rfl
 rw[hcv,aka (by omega) hicc];simp only[aB,e0,bH,aF];rw[show dI r=aD cK r from rfl,zy jA,dc jA];have e1:(1+r.length).ble 1=false:=by rw[fW,gE];omega
 have r2:aw r.length=true:=by simp;omega
 have hn:=nextslicecap_le (need:=1+r.length) (old:=1) (by omega);have r3:(Builtin.nextslicecap (1+r.length) 1).ble 5000000000=true:=by rw[gW];omega
 rw[e1,r2,r3];rw[show List.take 3 (List.drop 0 [Value.int IntKind.i64 216,ae 0 [],ae 0 []])++r.flatMap cK=(⟨216,[],[]⟩::r:List bB).flatMap cK from rfl,Wp,Yh A _ (by omega) hseg (by rw[cm];omega) ⟨by rw[cm];omega,by omega,by omega⟩ hmay (by rw[hcw];omega),hcw];simp;rw[Ob core (by omega) (by omega),hcore];rfl
theorem ahr{sh:List aZ}{s:Nat}{d:aT}(h:cD sh s d=true):Cu d:=by
 rintro tags subs blob rfl
 simp only[cD,jU] at h
 grind
theorem ahs{sh:List aZ}{s:Nat}{tags:List aJ}{subs:cA}{blob:List UInt8}(h:cD sh s (.mk tags subs blob)=true):∀p∈aN subs,Cu p.2 :=by simp[cD] at h;intro p hp;exact ahr (Ju h.2.2.2.2 p hp).2
theorem jm.more{x:db}{m k:Nat}(h:jm x m)(hk:m<=k):jm x k:=by obtain⟨⟨r0,r2,r3,r4,r1⟩,d0,d2,d3,d4,d1,hmk,hth⟩:=h;exact⟨⟨by omega,by omega,by omega,by omega,by omega⟩,λt ht=>by have:=d0 t ht;omega,λt ht=>by have:=d2 t ht;omega,λt ht=>by have:=d3 t ht;omega,λt ht=>by have:=d4 t ht;omega,λt ht=>by have:=d1 t ht;omega,by omega,by omega⟩
theorem Zo{w:Nat}(W:dD w){x:db}{b:List UInt8}(h:iH x=.ok b)(hx:jm x 9000)(hw:800000<w):ym w (aj b)=some (x.order,au x.cj,au x.bD,au x.bG,au x.bj,au x.first,aj x.bC,aj x.cC,0):=by
 have hr:=hx.rows;obtain⟨-,-,hp2,hp3,hp4⟩:=yU h (by unfold qz at hr⊢;omega);have hce:iI x=0:=by unfold iH at h;split at h<;>grind
 have TR:=C0 W hx hce;have hl:(er (eP x) cV).length<=65533:=by rw[hp3,aP] at hp2;omega
 obtain⟨-,k1,k2,-⟩:=YO hx (by decide);have hsp:=BN (eP x).dE 0 8 TR.hd;have hsp3:(fb (eP x)).length=(ji 0 8 (eP x).dE).length+1:=rfl;have h114:=aiD W.hand (by omega) (by omega) (MR (b:=er (eP x) cV) (by omega) (by omega) I5 (λs hs=>by have:=QB s hs;omega) (by decide) (by decide) TR.sM (S:=fb (eP x)) (by omega) (by rw[hp4];rfl)) TR.check (by rw[akX];exact SR hce) (hx.more (by omega)) TR.je TR.hd (λd hd tags subs blob he p hp=>by obtain⟨s,hs⟩:=Jt TR.hh d hd;rw[he] at hs;exact ahs hs p hp);exact aj9 hp3 hp2 h114
theorem ZZ{core:List UInt8}{r:List bB}(c4:cJ (⟨216,[],[]⟩::r)=core)(hmay:kK (⟨216,[],[]⟩::r)=true):wc (⟨216,[],[]⟩::r) core.length:=by
 intro s hs;rcases cO.1 hs with rfl|hs2
 ·simp
 ·have h1:=MB hs;by_cases ha:iG s.bR=true
  ·obtain⟨-,-,q,-⟩:=OS hmay hs
   grind
  ·unfold cP at h1
   grind
theorem Q6{x:ou}{aS:List UInt8}{r:List bB}(c2:CL x.core=⟨216,[],[]⟩::r)(c4:cJ (⟨216,[],[]⟩::r)=x.core):(eY x aS).length<=100+aS.length+x.cF.length+x.cd.length+x.core.length:=by
 have e:eY x aS=cP ⟨216,[],[]⟩++(cP ⟨225,aS,[]⟩++(cJ (if x.cF.length=0 then[] else[⟨226,x.cF,[]⟩])++(cJ ((fY x.cd).map (λc=>⟨226,c,[]⟩))++cJ r))):=by unfold eY jO;rw[c2];simp[cJ]
 have k1:(cP ⟨216,[],[]⟩).length=2:=rfl;have k2:(cP ⟨225,aS,[]⟩).length<=aS.length+4:=by unfold cP;split<;>simp<;>omega
 have k3:(cJ (if x.cF.length=0 then[] else[⟨226,x.cF,[]⟩])).length<=x.cF.length+4:=by
  split
  ·simp[cJ]
  ·simp[cJ];unfold cP;split<;>simp<;>omega
 have k4:(cJ ((fY x.cd).map (λc=>⟨226,c,[]⟩))).length<=x.cd.length+30:=by
  unfold fY;split
  ·simp[cJ]
  ·simp[cJ];unfold cP;split<;>simp[fJ]<;>omega
 have k5:(cJ r).length<=x.core.length:=by have:=bU List.length c4;rw[kR,aP] at this;omega
 simp_all;omega
theorem ZO(w:Nat)(l:List UInt8)(hl:l.length<=1000000000):GR w (aj l)=some (aj l):=by
 unfold GR;rw[cw];by_cases h:l.length=0
 ·have:l=[]:=oX.1 h;subst this;rfl
 ·have e1:Nat.beq l.length 0=false:=by
   rw[Bool.eq_false_iff];intro q;exact h (bT q)
  rw[e1];have hn:=nextslicecap_le (need:=0+l.length) (old:=0) (by omega);have e5:(0+l.length).ble 0=false:=by rw[fW,gE];omega
  have e6:Nat.blt 0 l.length=true:=by rw[mr,bX];omega
  have r1:aw l.length=true:=by simp;omega
  unfold Oe EG;rw[cw,e6,gY,iv,e5,r1,(show(Builtin.nextslicecap (0+l.length) 0).ble 5000000000=true from by rw[gW];omega)];simp;rw[nL]
theorem X0{w m:Nat}(y:List UInt8)(hy:y.length<2^26)(W:dD w){x:ou}{aS:List UInt8}(h:yJ x aS)(hx:jm x.aG 9000)(hm:m<2^24)(hc:x.core.length<=m/\x.cd.length<=m/\x.cF.length<=m)(hw:2*m+800000+y.length<w):
 rT w (aj (eY x aS++y))=some (x.aG.order,au x.aG.cj,au x.aG.bD,au x.aG.bG,au x.aG.bj,au x.aG.first,aj x.aG.bC,aj x.aG.cC,aj x.cd,aj x.core,aj x.cF,if x.cF.length=0 then 0 else((aS.length+10:Nat):Int),((eY x aS).length:Int),0):=by
 have hb:=W.jZ;have hA:=W.hand;obtain⟨-,hp1,hp2,hp3,hp4⟩:=yU h.app h.rows;have hrd:ofM (eY x aS++y)=.ok (jO x aS) (eY x aS).length:=acF (Jy h.core hp2 h.cd (by rcases h.cF with q|q;omega;exact q.2)) y;obtain⟨r,c1,c2,c3,c4,c5,c6⟩:=CM h.core;have hrl:r.length<=x.core.length:=by simpa using(DC _ _ _ _ _ _ c1)
 have hmayC:kK (⟨216,[],[]⟩::r)=true:=by show(true&&iz r)=true;rw[c3];rfl
 have hr0:r.length≠0:=by obtain⟨s,hs,_⟩:=c5;intro q;rw[oX.1 q] at hs;cases hs
 have h60:=Zo W h.app hx (by omega);have himl:=Q6 (aS:=aS) c2 c4;have hi3:=h.cd;have htail:=λq=>acr (m:=m) hA (aS:=aS) (cs:=fY x.cd) (r:=r) (core:=x.core) (cd:=x.cd) rfl h.cd (by omega) (by omega) c6 hr0 h.core c4 hmayC (λs hs=>by have:=ZZ c4 hmayC s hs;omega) (by omega) (by omega) h60 0 (ae 0 []) (ae 0 []) (ae 0 []) (ae 0 []) (ae 0 []) (ae 0 []) (ae 0 []) (ae 0 []) (ae 0 []) q;have hL:jO x aS=⟨216,[],[]⟩::⟨225,aS,[]⟩::((if x.cF.length=0 then[] else[⟨226,x.cF,[]⟩])++((fY x.cd).map (λc=>⟨226,c,[]⟩)++r)):=by unfold jO;rw[c2];rfl
 unfold rT xu AF EF;rw[GP _ (by rw[aP];omega) (by rw[aP];omega),hrd];simp only[aB,(rfl),bH,aF];rw[hL,rJ];have hbl:∀(s:bB)(l:List bB),((s::l).length.ble (s::l).length&&Nat.ble 1 (s::l).length)=true:=by intro s l;rw[fW,fW,gp (aL _),gp (by rw[cm];omega)];rfl
 rw[hbl,aE,EY,aj4 (s:=⟨225,aS,[]⟩) rfl hp1];simp only[aB,bH,aF];by_cases hmp:x.cF.length=0
 ·rw[az hmp,az hmp,gC];have hno:yz 226 (λd=>gh.isPrefixOf d) ((fY x.cd).map (λc=>(⟨226,c,[]⟩:bB))++r)=false:=by
   unfold fY;split
   ·show yz 226 _ r=false;cases r with
    |nil=>rfl
    |cons s r=>have:=c6 s nA;unfold o8 at this;rw[gE] at this;show(decide (s.bR=226)&&_)=false;rw[fH (by omega)];rfl
   ·rfl
  rw[aj0 hno];have:x.cF=[]:=oX.1 hmp;rw[this];exact htail (ae 0 []) 0 ((eY x aS).length:Int)
 ·rw[ar hmp,ar hmp];obtain⟨m1,m2⟩:=h.cF.resolve_left hmp;rw[show[⟨226,x.cF,[]⟩]++((fY x.cd).map (λc=>⟨226,c,[]⟩)++r)=(⟨226,x.cF,[]⟩:bB)::((fY x.cd).map (λc=>⟨226,c,[]⟩)++r) from rfl,aj1 (s:=⟨226,x.cF,[]⟩) rfl m1];simp only[aB,aE];rw[ZO w _ (by omega)];simp only[aB];rw[cw,cc,cc,cf,aO (n:=(6:Int)+(aS.length:Int)) (by omega) (by omega),aO (by omega) (by omega),show(6:Int)+(aS.length:Int)+4=((aS.length+10:Nat):Int) by omega];exact htail (aj x.cF) ((aS.length+10:Nat):Int) ((eY x aS).length:Int)
theorem ajn{w m:Nat}(W:dD w){x:ou}{aS:List UInt8}(h:yJ x aS)(hx:jm x.aG 9000)(hm:m<2^24)(hc:x.core.length<=m/\x.cd.length<=m/\x.cF.length<=m)(hw:2*m+800000<w):
 rT w (aj (eY x aS))=some (x.aG.order,au x.aG.cj,au x.aG.bD,au x.aG.bG,au x.aG.bj,au x.aG.first,aj x.aG.bC,aj x.aG.cC,aj x.cd,aj x.core,aj x.cF,if x.cF.length=0 then 0 else((aS.length+10:Nat):Int),((eY x aS).length:Int),0):=by
 have:=X0 [] (by decide) W h hx hm hc (by simpa using hw);rwa[dQ] at this
def fm(p:cL):List Value:=[.int .i64 p.attr,.int .i64 p.size,.int .i64 p.at_,.int .i64 p.eK,.int .i64 p.eL]
theorem nq(p:cL):(fm p).length=5:=rfl
def dP(l:List cL):Value:=aD fm l
theorem Au{w:Nat}(hw:8<=w)(n:Int){o:Int}(ho:o=1\/o=2):ia w n 4 o=some (if 0<=n/\n<4294967296 then(aj (aW n.toNat 4 o),true) else(ae 0 [],false)):=by
 rw[rM hw,az (by rcases ho with rfl|rfl<;>rfl),show(4:Int).toNat=4 from rfl,Lg]
 grind
theorem uW{w:Nat}(hw:8<=w)(n:Int){o:Int}(ho:o=1\/o=2):ia w n 2 o=some (if 0<=n/\n<65536 then(aj (aW n.toNat 2 o),true) else(ae 0 [],false)):=by
 rw[rM hw,az (by rcases ho with rfl|rfl<;>rfl),show(2:Int).toNat=2 from rfl,show oP n 2 o=if 0<=n/\n<65536 then some (aW n.toNat 2 o) else none from rfl]
 grind
theorem En(l:List UInt8)(hl:l.length<=100):(aw l.length&&(l.map aX).length.beq (l.length*1))=true:=by rw[(show aw l.length=true from by simp;omega),cZ,gD,mL];rfl
theorem Eo(X:List Value)(l:List UInt8)(hX:X.length<=100)(hl:l.length<=100):(aw X.length&&(aw l.length&&(l.map aX).length.beq (l.length*1)))=true:=by rw[(show aw X.length=true from by simp;omega),En l hl];rfl
theorem Ni{w:Nat}(hw:8<=w)(p:cL){o:Int}(ho:o=1\/o=2):FQ w p.attr p.size p.at_ p.eK p.eL o=some (if kh p=true then(aj (eC o p),true) else(ae 0 [],false)):=by
 unfold FQ Bj kN;simp only[aB];unfold kh;rw[Au hw _ ho];by_cases h1:0<=p.attr/\p.attr<4294967296
 case neg=>rw[ar h1,ar (by simp only[bX];exactλq=>h1 q.1)];rfl
 rw[az h1];simp only[aB,aF];rw[gY,iv,En _ (by rw[ef];omega),Au hw _ ho];by_cases h2:0<=p.size/\p.size<4294967296
 case neg=>rw[ar h2,ar (by simp only[bX];exactλq=>h2 q.2.1)];rfl
 rw[az h2];simp only[aB,aF];rw[gY,iv,Eo _ _ (by simp[ef]) (by rw[ef];omega),Au hw _ ho];by_cases h3:0<=p.at_/\p.at_<4294967296
 case neg=>rw[ar h3,ar (by simp only[bX];exactλq=>h3 q.2.2.1)];rfl
 rw[az h3];simp only[aB,aF];rw[gY,iv,Eo _ _ (by simp[ef]) (by rw[ef];omega),uW hw _ ho];by_cases h4:0<=p.eK/\p.eK<65536
 case neg=>rw[ar h4,ar (by simp only[bX];exactλq=>h4 q.2.2.2.1)];rfl
 rw[az h4];simp only[aB,aF];rw[gY,iv,Eo _ _ (by simp[ef]) (by rw[ef];omega),uW hw _ ho];by_cases h5:0<=p.eL/\p.eL<65536
 case neg=>rw[ar h5,ar (by simp only[bX];exactλq=>h5 q.2.2.2.2)];rfl
 rw[az h5,az (by rw[bX];exact⟨h1,h2,h3,h4,h5⟩)];simp only[aB,aF];rw[gY,iv,Eo _ _ (by simp[ef]) (by rw[ef];omega)]
 congr 2
 rw[nL];unfold eC;simp
theorem aiQ{w:Nat}(hw:100<w)(n:Nat)(hn:n<4294967296):FU w 4 (ae 1 [Value.int IntKind.i64 (n:Int)])=some (4,1,aj (eI n 4),true):=by
 unfold FU Mm;rw[xV,show kindOf 4=(4,4,1) from rfl];simp;have h211:Ga w 4 (ae 1 [Value.int IntKind.i64 (n:Int)]) 4 4 1=some (4,1,true,(eI n 4).map aX):=by
  unfold Ga;have hl:∀K:Nat->Option (Int×Int×Bool×List Value),ak (ae 1 [Value.int IntKind.i64 (n:Int)]) K=K 1:=λ_=>rfl;rw[hl,hl,eA _ _ (by omega),show ai 0 (Int.ofNat 1)=true from rfl,show(0:Int)=((0:Nat):Int) from rfl,bQ,(show∀K:List Value->Option (Int×Int×Bool×List Value),aC 1 0 (ae 1 [Value.int IntKind.i64 (n:Int)]) K=K [Value.int IntKind.i64 (n:Int)] fromλ_=>rfl)];simp only[bh,bP];have h212:Gb w 4 4 1 (n:Int)=some (aj (eI n 4),true):=by unfold Gb Mq;rw[Au (by omega) _ (.inr rfl),az (by omega)];rfl
  rw[h212];simp only[aB];rw[gY,iv,gD,oC,aE,eA _ _ (by omega),show ag IntKind.i64 (Int.add ((0:Nat):Int) 1)=1 from rfl,show ai 1 (Int.ofNat 1)=false from rfl,aF,gC,cZ,ky,<-nL];rfl
 rw[h211];simp;rw[nL]
def VS(view:List aJ):Prop:=view.length<=9000/\∀t∈view,t.data.length<=9000
theorem Y9{w:Nat}(W:dD w){o:Int}(ho:o=1\/o=2){view:List aJ}(hv:VS view)(hr:cR 5 view=true)(h0:view.length≠0):ox w 10000 kB o (fV o view).dE:=by
 have hl:=hv.1;refine OH W Ib (XU (by have:=W.jZ;omega)) (by decide) (λs hs=>?_) ho (by simp[fV]) (by simp[fV]) (λd hd'=>?_) (by simp[fV,kF,fP,jJ]) (by simp[fV,gP,dw,gX]) (OP hr h0 (by omega))
 ·have:s=0:=by simp[kB] at hs;omega
  rw[this];decide
 ·simp[fV] at hd';subst hd';exact⟨by omega,by show 0<=_;omega,by show 0<=_;omega,λt ht=>by have:=hv.2 t ht;omega,trivial⟩
theorem akg{w:Nat}(W:dD w)(o:Int){view:List aJ}(hv:VS view):GY w o (au view)=some (match qQ o view with| .ok b=>(aj b,0)| .error e=>(ae 0 [],e)):=by
 have hb:=W.jZ;have hl:=hv.1;have hlen:∀K:Nat->Option (Value×Int),ak (au view) K=K view.length:=λK=>cI cq view K;unfold GY qQ Mj;by_cases ho:o=1\/o=2
 case neg=>rw[az (.inl ho)];rw[(show ah o 1=false from by rw[bW,gE];exactλq=>ho (.inl q)),(show ah o 2=false from by rw[bW,gE];exactλq=>ho (.inr q))];rfl
 have hrest:(ak (au view) λ(x2:Nat)=>bif ah (Int.ofNat x2) 0 then some (ae 0 [],1) else ob (nv w 5 (au view)) λ(x3:Bool)=>bif !x3 then some (ae 0 [],6) else ob (xP w) λx4=>ob (vl w o (ae 1 (List.drop 0 [au view,ae 0 [],ae 0 []])) x4) λx5=>some (x5.fst,x5.snd))=some (match(if¬(o=1\/o=2)\/view.length=0 then .error 1 else if cR 5 view=false then .error 6 else if 65533<4+gJ (fV o view) then .error 7 else .ok (gh++er (fV o view) kB):Except Int (List UInt8)) with| .ok b=>(aj b,0)| .error e=>(ae 0 [],e)):=by
  rw[hlen];by_cases h0:view.length=0
  ·rw[az (.inr h0),h0];rfl
  have e1:ah (Int.ofNat view.length) 0=false:=by rw[bW,gE,cf];omega
  rw[ar (by intro q;rcases q with q|q;exact q ho;exact h0 q),e1,qC (by omega) 5 view (by omega) (λt ht=>by have:=hv.2 t ht;omega) (by omega)]
  cases hr:cR 5 view with
  |false=>rfl
  |true=>
   have T:=Y9 W ho hv hr h0;have e2:xP w=some (cg kB):=rfl;rw[e2];simp only[aB,aF];have e3:ae 1 (List.drop 0 [au view,ae 0 [],ae 0 []])=cQ (fV o view).dE:=by show _=ae 1 (cS (.mk view .nil [])++[]);rfl
   rw[e3,(XK T),show(⟨o,(fV o view).dE⟩:mn)=fV o view from rfl];by_cases h7:65533<4+gJ (fV o view)
   ·rw[az h7,az h7];rfl
   ·rw[ar h7,ar h7];rfl
 rcases ho with rfl|rfl<;>simp_all
structure aU where
 aG:db
 cd:List UInt8
 core:List UInt8
 attr:Int
 eK:Int
 eL:Int
 view:List aJ
def dM(p:aU):List Value:=[.int .i64 p.aG.order,au p.aG.cj,au p.aG.bD,au p.aG.bG,au p.aG.bj,au p.aG.first,aj p.aG.bC,aj p.aG.cC,aj p.cd,aj p.core,.int .i64 p.attr,.int .i64 p.eK,.int .i64 p.eL,au p.view]
theorem kL(p:aU):(dM p).length=14:=rfl
def cT(l:List aU):Value:=aD dM l
theorem nc(p:aU)(r:List Value):dM p++r=.int .i64 p.aG.order::au p.aG.cj::au p.aG.bD::au p.aG.bG::au p.aG.bj::au p.aG.first::aj p.aG.bC::aj p.aG.cC::aj p.cd::aj p.core::.int .i64 p.attr::.int .i64 p.eK::.int .i64 p.eL::au p.view::r:=rfl
def TS(l:List aJ):Prop:=l.length<=60/\∀t∈l,t.data.length<=600
structure fg(p:aU):Prop where
 t0:TS p.aG.cj
 t2:TS p.aG.bD
 t3:TS p.aG.bG
 t4:TS p.aG.bj
 t1:TS p.aG.first
 tv:TS p.view
 mkr:p.aG.bC.length<=2000
 th:p.aG.cC.length<=2000
 ic:p.cd.length<=2000
 co:p.core.length<=2000
theorem fg.sK{p:aU}(h:fg p):jm p.aG 9000:=by obtain⟨⟨a0,b0⟩,⟨a2,b2⟩,⟨a3,b3⟩,⟨a4,b4⟩,⟨a1,b1⟩,-,m1,m2,-,-⟩:=h;exact⟨⟨by omega,by omega,by omega,by omega,by omega⟩,λt ht=>by have:=b0 t ht;omega,λt ht=>by have:=b2 t ht;omega,λt ht=>by have:=b3 t ht;omega,λt ht=>by have:=b4 t ht;omega,λt ht=>by have:=b1 t ht;omega,by omega,by omega⟩
theorem fg.vs{p:aU}(h:fg p):VS p.view:=⟨by have:=h.tv.1;omega,λt ht=>by have:=h.tv.2 t ht;omega⟩
def jH(p:aU):Bool:=match iH p.aG with| .ok _=>false| .error _=>true
def yY(_:aU):Bool:=false
def nI(p:aU):Bool:=!mT p.core
def oB(p:aU):Bool:=!decide ((0<=p.attr/\p.attr<4294967296)/\(0<=p.eK/\p.eK<65536)/\(0<=p.eL/\p.eL<65536))
def nJ(p:aU):Bool:=!cR 5 p.view
theorem Pp{x:db}{e:Int}(h:iH x=.error e):e≠0:=by
 unfold iH at h
 grind
theorem aiH{w:Nat}(W:dD w){p:aU}(h:fg p)(a b c:Int)(v x y:Value):Fw w p.aG.order (au p.aG.cj) (au p.aG.bD) (au p.aG.bG) (au p.aG.bj) (au p.aG.first) (aj p.aG.bC) (aj p.aG.cC) x y a b c v=some (jH p):=by
 unfold Fw jH;rw[N2 W h.sK];cases he:iH p.aG with
 |ok b=>rfl
 |error e=>have:=Pp he;simp_all
theorem aiI{w:Nat}(W:dD w){p:aU}(h:fg p)(o a b c:Int)(v x1 x2 x3 x4 x5 x6 x7 y:Value):Fx w o x1 x2 x3 x4 x5 x6 x7 (aj p.cd) y a b c v=some (yY p):=by
 have hi:=h.ic;unfold Fx yY;rw[cw,cf,Yl w _ (by omega)];simp only[aB,aV];have:wx p.cd.length<=1:=by unfold wx;omega
 rw[fH (by omega)]
theorem aiJ{w:Nat}(W:dD w){p:aU}(h:fg p)(o a b c:Int)(v x1 x2 x3 x4 x5 x6 x7 x8:Value):Fy w o x1 x2 x3 x4 x5 x6 x7 x8 (aj p.core) a b c v=some (nI p):=by have hb:=W.jZ;have hi:=h.co;unfold Fy nI;rw[Ob _ (by omega) (by omega)];rfl
theorem aiK{w:Nat}(W:dD w)(p:aU)(o:Int)(v x1 x2 x3 x4 x5 x6 x7 x8 x9:Value):FC w o x1 x2 x3 x4 x5 x6 x7 x8 x9 p.attr p.eK p.eL v=some (oB p):=by
 have hb:=W.jZ;unfold FC oB;rw[Au (by omega) _ (.inr rfl),uW (by omega) _ (.inr rfl),uW (by omega) _ (.inr rfl)];by_cases h1:0<=p.attr/\p.attr<4294967296
 ·by_cases h2:0<=p.eK/\p.eK<65536
  ·by_cases h3:0<=p.eL/\p.eL<65536
   ·simp_all
   ·simp[h3]
  ·simp[h2]
 ·simp[h1]
theorem aiL{w:Nat}(W:dD w){p:aU}(h:fg p)(o a b c:Int)(x1 x2 x3 x4 x5 x6 x7 x8 x9:Value):FH w o x1 x2 x3 x4 x5 x6 x7 x8 x9 a b c (au p.view)=some (nJ p):=by have hb:=W.jZ;obtain⟨a1,b1⟩:=h.tv;unfold FH nJ;rw[qC (by omega) 5 p.view (by omega) (λt ht=>by have:=b1 t ht;omega) (by omega)];rfl
theorem ai1{w:Nat}(W:dD w){l:List aU}(h:∀p∈l,fg p)(hl:l.length<=2000):Ns w (cT l)=some (cW jH l):=by
 have hb:=W.jZ;refine mB l jH (ev:=λi (g:Value->Int->Int->Option Int)=>g (aD dM l) l.length i) ?_ ?_ (by omega)
 ·intro i g hi;simp_all;rw[bu kL hi,nc];simp;rw[aiH W (h _ (cG hi)),aO (by omega) (by omega)];simp
 simp
theorem ai2{w:Nat}(W:dD w){l:List aU}(h:∀p∈l,fg p)(hl:l.length<=2000):Nt w (cT l)=some (cW yY l):=by
 have hb:=W.jZ;refine mB l yY (ev:=λi (g:Value->Int->Int->Option Int)=>g (aD dM l) l.length i) ?_ ?_ (by omega)
 ·intro i g hi;simp_all;rw[bu kL hi,nc];simp;rw[aiI W (h _ (cG hi)),aO (by omega) (by omega)];simp
 simp
theorem ai3{w:Nat}(W:dD w){l:List aU}(h:∀p∈l,fg p)(hl:l.length<=2000):Nu w (cT l)=some (cW nI l):=by
 have hb:=W.jZ;refine mB l nI (ev:=λi (g:Value->Int->Int->Option Int)=>g (aD dM l) l.length i) ?_ ?_ (by omega)
 ·intro i g hi;simp_all;rw[bu kL hi,nc];simp;rw[aiJ W (h _ (cG hi)),aO (by omega) (by omega)];simp
 simp
theorem ai4{w:Nat}(W:dD w){l:List aU}(h:∀p∈l,fg p)(hl:l.length<=2000):Nv w (cT l)=some (cW oB l):=by
 have hb:=W.jZ;refine mB l oB (ev:=λi (g:Value->Int->Int->Option Int)=>g (aD dM l) l.length i) ?_ ?_ (by omega)
 ·intro i g hi;simp_all;rw[bu kL hi,nc];simp;rw[aiK W,aO (by omega) (by omega)];simp
 simp
theorem ai5{w:Nat}(W:dD w){l:List aU}(h:∀p∈l,fg p)(hl:l.length<=2000):Nw w (cT l)=some (cW nJ l):=by
 have hb:=W.jZ;refine mB l nJ (ev:=λi (g:Value->Int->Int->Option Int)=>g (aD dM l) l.length i) ?_ ?_ (by omega)
 ·intro i g hi;simp_all;rw[bu kL hi,nc];simp;rw[aiL W (h _ (cG hi)),aO (by omega) (by omega)];simp
 simp
theorem yf{w:Nat}(l:List aJ)(hl:l.length<2^40)(hw:l.length<w):rV w (au l) (au l)=some true:=by
 have hlr:∀(K:Nat->Option Bool),ak (au l) K=K l.length:=λK=>cI cq l K;have tg:∀(y:aJ)(r:List Value),cq y++r=Value.int .i64 y.tag::.int .i64 y.ty::.int .i64 y.aA::aj y.data::r:=λ_ _=>rfl;unfold rV;rw[hlr,hlr,show ah (Int.ofNat l.length) (Int.ofNat l.length)=true by rw[bW,bX],bH,aF,hlr];refine iL (ev:=λi (g:Value->Value->Int->Int->Option Bool)=>g (au l) (au l) l.length i) l.length ?_ ?_ hw
 ·intro i g hi;have e1:((i:Int)<(l.length:Int)):=by omega
  simp only[aV,e1,aY,aE,bQ];rw[show au l=aD cq l from rfl,bu gI hi,tg];simp only[bh,bP];rw[bu gI hi,tg];simp only[bh,bP];unfold On GN;rw[ye];simp only[bW,aY,aE,aB,bH,aF,cc];rw[aO (by omega) (by omega)];rfl
 ·intro g;have e1:¬((l.length:Int)<(l.length:Int)):=by omega
  simp only[aV,e1,bN,aF]
theorem ajY{w:Nat}{x:db}(h:jm x 9000)(hw:10000<w):GO w x.order (au x.cj) (au x.bD) (au x.bG) (au x.bj) (au x.first) (aj x.bC) (aj x.cC) x.order (au x.cj) (au x.bD) (au x.bG) (au x.bj) (au x.first) (aj x.bC) (aj x.cC)=some true:=by obtain⟨⟨r0,r2,r3,r4,r1⟩,-⟩:=h;unfold GO yq;simp only[aB];rw[yf _ (by omega) (by omega)];simp only[aB,bH,aF];rw[yf _ (by omega) (by omega)];simp only[aB,bH,aF];rw[yf _ (by omega) (by omega)];simp only[aB,bH,aF];rw[yf _ (by omega) (by omega)];simp only[aB,bH,aF];rw[yf _ (by omega) (by omega)];simp only[aB,bH,aF];rw[ye,ye];simp only[bW,aY,aE,aB]
noncomputable def RE(w:Nat)(x0:Int)(x1 x3 x5 x7:Value):Option (Int×Value×Value×Bool):=
 ob (ko w 45058 7 x3 x5 x7) λ(x78:Value×Value×Value×Value)=>ob (ko w 45057 4 x78.snd.fst x78.snd.snd.fst x78.snd.snd.snd) λ(x79:Value×Value×Value×Value)=>ob (jB w x79.fst 0 4 2) λ(x80:Int×Bool)=>bif !x80.snd then some (0,ae 0 [],ae 0 [],false) else bif ai x80.fst 2 then some (0,ae 0 [],ae 0 [],false) else ak x78.fst λ(x81:Nat)=>bif !ah (Int.ofNat x81) (ag IntKind.i64 (Int.mul 16 x80.fst)) then some (0,ae 0 [],ae 0 [],false) else ob (ko w 45057 4 x79.snd.fst x79.snd.snd.fst x79.snd.snd.snd) λ(x82:Value×Value×Value×Value)=>ak x82.fst λ(x83:Nat)=>bif !ah (Int.ofNat x83) 4 then some (0,ae 0 [],ae 0 [],false) else ob (ko w 45056 7 x82.snd.fst x82.snd.snd.fst x82.snd.snd.snd) λ(x84:Value×Value×Value×Value)=>cn 1 x84.fst λ(x85:Nat)(x86:List Value)=>ob (oV x86) λ(x87:List Int)=>bif !mq (mkStr x87).data.toList (ByteArray.mk #[48,49,48,48]).data.toList then some (0,ae 0 [],ae 0 [],false) else lp JI (zK w) w x78.fst 0 x0 x1 0 (ae 0 []) x0 (ae 0 []) [] []
theorem J9{w:Nat}(hw:5<=w)(b:List UInt8)(hb:b.length<2^50){o:Int}(ho:o=1\/o=2)(p s:Nat)(hs:s=2\/s=4)(hp:p+s<=b.length):jB w (aj b) (p:Int) (s:Int) o=some ((ca b p s o:Int),true):=by have:=wI (l:=b) (p:=p) (s:=s) (order:=o) (by omega) ho (by omega);unfold ca;rw[A8 hw b (by omega) _ _ _ (by omega),this];simp
theorem aiG{w:Nat}(hw:5<=w)(b:List UInt8)(hb:b.length<2^50){o:Int}(ho:o=1\/o=2)(p:Nat)(hp:p+16<=b.length):A9 w (aj b) (p:Int) o=some ((np b p o).attr,(np b p o).size,(np b p o).at_,(np b p o).eK,(np b p o).eL):=by have n4:∀q:Nat,q+4<=b.length->jB w (aj b) (q:Int) 4 o=some ((ca b q 4 o:Int),true):=λq hq=>J9 hw b hb ho q 4 (.inr rfl) hq;have n2:∀q:Nat,q+2<=b.length->jB w (aj b) (q:Int) 2 o=some ((ca b q 2 o:Int),true):=λq hq=>J9 hw b hb ho q 2 (.inl rfl) hq;unfold A9 Bj kN;simp only[aB,cc];rw[aO (n:=(p:Int)+4) (by omega) (by omega),aO (n:=(p:Int)+4+4) (by omega) (by omega),aO (n:=(p:Int)+4+4+4) (by omega) (by omega),aO (n:=(p:Int)+4+4+4+2) (by omega) (by omega)];rw[show(p:Int)+4+4+4+2=((p+14:Nat):Int) by omega,show(p:Int)+4+4+4=((p+12:Nat):Int) by omega,show(p:Int)+4+4=((p+8:Nat):Int) by omega,show(p:Int)+4=((p+4:Nat):Int) by omega];rw[n4 p (by omega),n4 (p+4) (by omega),n4 (p+8) (by omega),n2 (p+12) (by omega),n2 (p+14) (by omega)];simp only[aB];rfl
theorem KX(b:List UInt8)(o:Int):∀(n p:Nat),(placesOf b o p n).length=n
 |0,_=>rfl
 |n+1,p=>by show(placesOf b o (p+16) n).length+1=n+1;rw[KX]
theorem UI(b:List UInt8)(o:Int):∀(n p i:Nat)(h:i<(placesOf b o p n).length),(placesOf b o p n)[i]=np b (p+16*i) o
 |0,_,i,h=>absurd h (Nat.not_lt_zero _)
 |n+1,p,0,h=>rfl
 |n+1,p,i+1,h=>by
  show(placesOf b o (p+16) n)[i]'(by simpa[placesOf] using h)=_
  rw[UI b o n (p+16) i]
  congr 1
  omega
def vM:List aT->List aJ->List aJ
 |[],v=>v
 | .mk tags _ _::r,_=>vM r tags
theorem aby{w:Nat}(ds:List aT)(hw:ds.length<w)(hl:ds.length<1000)(o x0:Int)(a:Value)(P:List cL)(c:List Value)(v:List aJ):
 lp RG Dh w (aD cS ds) ds.length 0 x0 a o (au v) c (P.flatMap fm)=some (o,dP P,au (vM ds v),true):=by
 refine nb (σ:=List aJ) (ev:=λi s (k:Cg)=>k (aD cS ds) ds.length i x0 a o (au s) c (P.flatMap fm)) (Inv:=λi s=>vM (ds.drop i) s=vM ds v) ds.length v ?_ ?_ ?_ hw
 ·rw[dX]
 ·intro i g s hi hI;rw[cX hi] at hI;have e1:((i:Int)<(ds.length:Int)):=by omega
  obtain⟨⟨tags,subs,blob⟩,hd⟩:∃d,ds[i]=d:=⟨_,rfl⟩;rw[hd] at hI;refine⟨tags,hI,?_⟩;unfold Dh xw;simp only[aV,e1,aY,aE,bQ];rw[bu kH hi,hd,zf];simp only[bh,cc];rw[aO (by omega) (by omega)];rfl
 ·intro g s hI;rw[qT,vM] at hI;subst hI;have e1:¬((ds.length:Int)<(ds.length:Int)):=by omega
  unfold Dh xw;simp only[aV,e1,bN,aF];rw[dc nq,jk _ (by decide)];rfl
theorem abz{w:Nat}{d:List UInt8}{n:Nat}(hd:d.length=16*n)(hn:n<10000){o:Int}(ho:o=1\/o=2)(D0:aT)(ds:List aT)(hl:ds.length<900)(hw:200000<w)(x0:Int)(a b:Value)(c:List Value)(v:List aJ)(y:Int):
 ∃q:Unit,lp JI (zK w) w (aj d) 0 o (cQ (D0::ds)) x0 a o (au v) c []=some (o,dP (placesOf d o 0 n),au (vM ds v),true):=by
 refine⟨(),?_⟩;refine iL (ev:=λi (k:Cf)=>k (aj d) ((16*i:Nat):Int) o (cQ (D0::ds)) x0 a o (au v) c (((placesOf d o 0 n).take i).flatMap fm)) n ?_ ?_ (by omega)
 ·intro i g hi;have e1:(((16*i:Nat):Int)<(d.length:Int)):=by omega
  have hiP:i<(placesOf d o 0 n).length:=by rw[KX];exact hi
  unfold zK tb;rw[cw];simp only[aV,cf,e1,aY,aE];rw[aiG (by omega) d (by omega) ho (16*i) (by omega)];simp only[aB];have hr1:aw (((placesOf d o 0 n).take i).flatMap fm).length=true:=by rw[dc nq,dJ];simp;omega
  have hpc:fm (placesOf d o 0 n)[i]=[.int .i64 (np d (16*i) o).attr,.int .i64 (np d (16*i) o).size,.int .i64 (np d (16*i) o).at_,.int .i64 (np d (16*i) o).eK,.int .i64 (np d (16*i) o).eL]:=by rw[UI,gm];rfl
  rw[hr1,cc,aO (by omega) (by omega),show((16*i:Nat):Int)+16=((16*(i+1):Nat):Int) by omega,iO hiP,fu,show[(placesOf d o 0 n)[i]].flatMap fm=fm (placesOf d o 0 n)[i] from by simp,hpc];rfl
 ·intro g;have e1:¬(((16*n:Nat):Int)<(d.length:Int)):=by omega
  unfold zK tb;rw[cw];simp only[aV,cf,e1,bN,aF];rw[show cQ (D0::ds)=aD cS (D0::ds) from rfl,cI];have e2:1<=(D0::ds).length:=by rw[cm];omega
  simp only[fW,aL,e2,aY,jj,aE];rw[um kH _ (aL _),List.drop_succ_cons,dX,fe (by rw[cm];omega),cI,fe (by rw[KX];omega)];exact aby ds (by omega) (by omega) o x0 a _ c v
def gT(o:Int)(l:List cL):List aJ:=[⟨45056,7,4,[48,49,48,48]⟩,⟨45057,4,1,eI l.length 4⟩,⟨45058,7,((16*l.length:Nat):Int),l.flatMap (eC o)⟩]
theorem RF{w:Nat}(hw:200000<w){o:Int}(ho:o=1\/o=2){l:List cL}(h2:2<=l.length)(hl:16*l.length<=65536)(hp:∀p∈l,kh p=true)(D0:aT)(ds:List aT)(hds:ds.length<900)(y z:Value):
 RE w o (cQ (D0::ds)) (au (gT o l)) y z=some (o,dP l,au (vM ds []),true):=by
 have hlen:(l.flatMap (eC o)).length=16*l.length:=qx o l;have hd:∀t∈gT o l,t.data.length<=1000000000:=by
  intro t ht;simp only[gT,cO,mK,mN] at ht;rcases ht with rfl|rfl|rfl
  ·simp
  ·simp only[oC];omega
  ·simp only[hlen];omega
 have hr:fE (gT o l)=true:=by simp[gT,fE]
 have hL:(gT o l).length=3:=rfl;have f1:=Fu (w:=w) (gT o l) 45058 hr (by rw[hL];omega) (by rw[hL];omega) hd;have f2:=Fu (w:=w) (gT o l) 45057 hr (by rw[hL];omega) (by rw[hL];omega) hd;have f3:=Fu (w:=w) (gT o l) 45056 hr (by rw[hL];omega) (by rw[hL];omega) hd;rw[show iy (gT o l) 45058=some ⟨45058,7,((16*l.length:Nat):Int),l.flatMap (eC o)⟩ from rfl] at f1;rw[show iy (gT o l) 45057=some ⟨45057,4,1,eI l.length 4⟩ from rfl] at f2;rw[show iy (gT o l) 45056=some ⟨45056,7,4,[48,49,48,48]⟩ from rfl] at f3;have g1:∀a b:Value,ko w 45058 7 (au (gT o l)) a b=some (aj (l.flatMap (eC o)),au (gT o l),a,b):=by intro a b;unfold ko;rw[f1];rfl
 have g2:∀a b:Value,ko w 45057 4 (au (gT o l)) a b=some (aj (eI l.length 4),au (gT o l),a,b):=by intro a b;unfold ko;rw[f2];rfl
 have g3:∀a b:Value,ko w 45056 7 (au (gT o l)) a b=some (aj [48,49,48,48],au (gT o l),a,b):=by intro a b;unfold ko;rw[f3];rfl
 have hn:jB w (aj (eI l.length 4)) 0 4 2=some ((l.length:Int),true):=by have:=J9 (w:=w) (by omega) (eI l.length 4) (by rw[oC];omega) (.inr rfl) 0 4 (.inr rfl) (by rw[oC];omega);rw[nh (b:=eI l.length 4) (pre:=[]) (post:=[]) (n:=l.length) (p:=0) (s:=4) (order:=2) (by simp[aW]) rfl (.inr (.inr rfl)) (.inr rfl) (by omega)] at this;exact this
 obtain⟨-,h6⟩:=abz (w:=w) (d:=l.flatMap (eC o)) (n:=l.length) hlen (by omega) ho D0 ds hds hw 0 (ae 0 []) (ae 0 []) [] [] 0;have hpl:placesOf (l.flatMap (eC o)) o 0 l.length=l:=KW ho l [] [] 0 (by simp) rfl hp;rw[hpl] at h6;unfold RE;rw[g1];simp only[aB];rw[g2];simp only[aB];rw[hn];simp only[aB,bH,aF];rw[show ai (l.length:Int) 2=false by rw[aV,gE];omega,aF,cw,oI,aO (by omega) (by omega),show ah (Int.ofNat (l.flatMap (eC o)).length) (16*(l.length:Int))=true by rw[bW,bX,cf,hlen];omega,bH,aF,g2];simp only[aB];rw[cw,oC,show(!ah (Int.ofNat 4) 4)=false from rfl,aF,g3];simp only[aB];rw[gY,iv,B5];simp only[aB];rw[Dt,show(!mq [48,49,48,48] (ByteArray.mk #[48,49,48,48]).data.toList)=false from rfl,aF];exact h6
theorem akb{w:Nat}(hw:200000<w){o:Int}(ho:o=1\/o=2){l:List cL}(h2:2<=l.length)(hl:16*l.length<=65536)(hp:∀p∈l,kh p=true){view:List aJ}(hv:VS view)(hr:cR 5 view=true):
 BF w o (cQ (dA o l view).dE)=some (o,dP l,au view,true):=by
 have hvl:=hv.1;have e0:∀(ds:List aT)(K:List Value->Option (Int×Value×Value×Bool)),aC 3 0 (cQ (eZ o l::ds)) K=K (cS (eZ o l)++ds.flatMap cS):=λds K=>bu kH (l:=eZ o l::ds) (m:=0) (by rw[cm];omega) K;have e1:cS (eZ o l)=[au (gT o l),ae 0 [],ae 0 []]:=by unfold eZ;rw[sC];rfl
 have e2:∀(ds:List aT)(K:Nat->Option (Int×Value×Value×Bool)),ak (cQ (eZ o l::ds)) K=K (eZ o l::ds).length:=λds K=>cI cS _ K;have e3:∀(K:Nat->Option (Int×Value×Value×Bool)),ak (au (gT o l)) K=K 3:=λK=>cI cq _ K;unfold dA;by_cases h0:view.length=0
 ·rw[az h0];have hve:view=[]:=oX.1 h0;have ht:=RF hw ho h2 hl hp (eZ o l) [] (by show 0<900;omega) (ae 0 []) (ae 0 []);unfold BF tb xw;rw[e0,e1];simp only[eV,bh];rw[e3,show(!ah (Int.ofNat 3) 3)=false from rfl,aF,e2,show ai 1 (Int.ofNat [eZ o l].length)=false from rfl,aF,hve];exact ht
 ·rw[ar h0];have ht:=RF hw ho h2 hl hp (eZ o l) [.mk view .nil []] (by show 1<900;omega) (ae 0 []) (ae 0 []);have x1:∀(K:List Value->Option (Int×Value×Value×Bool)),aC 3 1 (cQ (eZ o l::[.mk view .nil []])) K=K (cS (.mk view .nil [])++[]):=λK=>bu kH (l:=eZ o l::[.mk view .nil []]) (m:=1) (by show 1<2;omega) K;unfold BF tb xw;rw[e0,e1];simp only[eV,bh];rw[e3,show(!ah (Int.ofNat 3) 3)=false from rfl,aF,e2,show ai 1 (Int.ofNat [eZ o l,.mk view .nil []].length)=true from rfl,aE,x1,sC];simp only[eV,dX,bh];rw[qC (by omega) 5 view (by omega) (λt ht=>by have:=hv.2 t ht;omega) (by omega),hr];simp only[aB,bH,aF];exact ht
theorem X3{w:Nat}(W:dD w)(hw:800000<w){o:Int}{l:List cL}{view:List aJ}{b:List UInt8}(h:iK o l view=.ok b)(hv:VS view)(hS:(fb (dA o l view)).length<100000000):Bq w (aj b)=some (o,dP l,au view,0):=by
 have hvl:=hv.1;have ho:(o=1\/o=2)/\2<=l.length/\16*l.length<=65536/\(∀p∈l,kh p=true)/\cR 5 view=true:=by
  unfold iK at h;split at h
  ·cases h
  rename_i h1;split at h
  ·cases h
  rename_i h2;split at h
  ·cases h
  rename_i h3;split at h
  ·cases h
  rename_i h4;refine⟨by omega,by omega,by omega,λp hp=>ij.1 (by simpa using h2) p hp,by simpa using h3⟩
 obtain⟨r,hb,hr,hwk,-,hbl⟩:=Rf h (by omega);have hp:gh.isPrefixOf b=true:=by rw[hb,pX];exact rY _ _
 have hl4:b.length=r.length+4:=by rw[hb,aP];have:gh.length=4:=rfl;omega
 have h117:=MR (w:=w) (b:=r) (sh:=fX) (by omega) (by omega) Iy (λs hs=>by
  have:s=0\/s=1:=by simp[fX] at hs;omega
  rcases this with rfl|rfl<;>decide) (by decide) (by decide) (XV (by omega)) (o:=o) (ds:=(dA o l view).dE) (S:=fb (dA o l view)) hS hwk
 have h62:vz w (aj b) (cg fX)=some (o,cQ (dA o l view).dE,aD bV (fb (dA o l view)),0):=by
  have e1:¬((65533:Int)<(b.length:Int)):=by omega
  have e2:¬((b.length:Int)<(4:Int)):=by omega
  have e3:4<=b.length:=by omega
  have h116:xI w (aj b)=some true:=by unfold xI AK;have:ae 4 (List.drop 0 [Value.int IntKind.u8 77,Value.int IntKind.u8 80,Value.int IntKind.u8 70,Value.int IntKind.u8 0])=aj gh:=rfl;rw[this,AY,hp];rfl
  unfold vz;rw[cw];simp only[aV,cf,e1,bN,aF];rw[cw];simp only[e2,bN,aF];rw[h116];simp only[aB,bH,aF];rw[cw];simp only[fW,aL,e3,aY,jj,aE];rw[lM _ (aL _),fe (by rw[eS];omega),show b.drop 4=r by rw[hb];rfl,h117];rfl
 unfold Bq;rw[show yn w=some (cg fX) from rfl];simp only[aB];rw[h62];simp only[aB];rw[show(!ah 0 0)=false from rfl,aF,akb (by omega) ho.1 ho.2.1 ho.2.2.1 ho.2.2.2.1 hv ho.2.2.2.2];rfl
noncomputable def RC(w:Nat)(x0:Int)(x1 x2:Value):Option (Value×Int):=
 ak x1 λ(x48:Nat)=>bif ai (Int.ofNat x48) 2 then some (ae 0 [],1) else ak x1 λ(x49:Nat)=>lp qn (mY w) w x1 (Int.ofNat x49) 0 x0 x1 x2 []
theorem Rk{w:Nat}(W:dD w){o:Int}(ho:o=1\/o=2){l:List cL}(h2:2<=l.length)(hl:l.length<=600){view:List aJ}(hv:VS view)(hr:cR 5 view=true):ox w 10000 fX o (dA o l view).dE:=by
 have hvl:=hv.1;have hdirs:∀d∈(dA o l view).dE,d=eZ o l\/(d=.mk view .nil []/\view.length≠0):=by
  intro d hd;rcases cO.1 hd with rfl|hd
  ·exact .inl rfl
  ·split at hd
   ·cases hd
   ·rename_i h0;exact .inr ⟨oY.1 hd,h0⟩
 have hlen2:(dA o l view).dE.length<=2:=by unfold dA;split<;>simp
 refine OH W Iy (XV (by have:=W.jZ;omega)) (by decide) (λs hs=>?_) ho (by simp[dA]) (by omega) (λd hd=>?_) ?_ ?_ (Ri ⟨by omega,by omega⟩ hr (by omega))
 ·have:s=0\/s=1:=by simp[fX] at hs;omega
  rcases this with rfl|rfl<;>decide
 ·rcases hdirs d hd with rfl|⟨rfl,_⟩
  ·refine⟨by show 3<=_;omega,by show 0<=_;omega,by show 0<=_;omega,λt ht=>?_,trivial⟩;simp_all;rcases ht with rfl|rfl|rfl
   ·simp
   ·simp only[oC];omega
   ·simp only[(qx o l)];omega
  ·exact⟨by omega,by show 0<=_;omega,by show 0<=_;omega,λt ht=>by have:=hv.2 t ht;omega,trivial⟩
 ·unfold dA eZ;split<;>simp[kF,fP,jJ]
 ·unfold dA eZ;split<;>simp[gP,dw,gX]
theorem abx{w:Nat}(W:dD w){o:Int}(ho:o=1\/o=2){l:List cL}(h2:2<=l.length)(hl:l.length<=600){view:List aJ}(hv:VS view):
 lp qn (mY w) w (dP l) l.length 0 o (dP l) (au view) []=some (match iK o l view with| .ok b=>(aj b,0)| .error e=>(ae 0 [],e)):=by
 have hb:=W.jZ;have hvl:=hv.1;have hlen:∀i,((l.take i).flatMap (eC o)).length=16*(l.take i).length:=λi=>qx o _;have h1n:¬(¬(o=1\/o=2)\/l.length<2):=by
  rintro (q|q)
  ·exact q ho
  ·omega
 have hall:∀(k i v:Nat),i+k=l.length->k<v->l.all kh=true->lp qn (mY w) v (dP l) l.length i o (dP l) (au view) (((l.take i).flatMap (eC o)).map aX)=some (match iK o l view with| .ok b=>(aj b,0)| .error e=>(ae 0 [],e)):=by
  intro k;induction k with
  |zero=>
   intro i v hi hv2 ha;have e1:¬((i:Int)<(l.length:Int)):=by omega
   have htk:l.take i=l:=fe (by omega);have hpl:(l.flatMap (eC o)).length=16*l.length:=qx o l;rw[eA qn (mY w) (by omega),htk];unfold mY u7 u5 vc;simp only[aV,e1,bN,aF];rw[qC (by omega) 5 view (by omega) (λt ht=>by have:=hv.2 t ht;omega) (by omega)];simp only[aB];unfold iK;rw[ar h1n,ha,ar (by decide:¬(true=false))];cases hr:cR 5 view with
   |false=>rfl
   |true=>
    have T:=Rk W ho h2 hl hv hr;have h150:=XK T;rw[show(⟨o,(dA o l view).dE⟩:mn)=dA o l view from rfl] at h150;rw[ar (by decide:¬(true=false)),ar (by omega:¬(65536<16*l.length))];simp only[bH,aF,cZ,ky,cf];have e2:¬((65536:Int)<((l.flatMap (eC o)).length:Int)):=by omega
    simp only[e2,bN,aF];rw[show dP l=aD fm l from rfl,cI];rw[show[Value.int IntKind.i64 (l.length:Int)].length=1 from rfl,aiQ (by omega) l.length (by omega)];simp only[aB];rw[show au view=aD cq view from rfl,cI,show yn w=some (cg fX) from rfl];simp only[aB];have hd0:ae 3 [Value.int IntKind.i64 45056,Value.int IntKind.i64 7,Value.int IntKind.i64 4,ae 4 (List.drop 0 [Value.int IntKind.u8 48,Value.int IntKind.u8 49,Value.int IntKind.u8 48,Value.int IntKind.u8 48]),Value.int IntKind.i64 45057,Value.int IntKind.i64 4,Value.int IntKind.i64 1,aj (eI l.length 4),Value.int IntKind.i64 45058,Value.int IntKind.i64 7,Value.int IntKind.i64 ((l.flatMap (eC o)).length:Int),ae (l.flatMap (eC o)).length ((l.flatMap (eC o)).map aX)]=au (gT o l):=by unfold gT;rw[<-nL,hpl];rfl
    rw[hd0];have hdc:cS (eZ o l)=[au (gT o l),ae 0 [],ae 0 []]:=by unfold eZ;rw[sC];rfl
    have fin:(ob (vl w o (cQ (dA o l view).dE) (cg fX)) λ(x45:Value×Int)=>some (x45.fst,x45.snd))=some (match(if 65533<4+gJ (dA o l view) then .error 7 else .ok (gh++er (dA o l view) fX):Except Int (List UInt8)) with| .ok b=>(aj b,0)| .error e=>(ae 0 [],e)):=by
     rw[h150];by_cases h7:65533<4+gJ (dA o l view)
     ·rw[az h7,az h7];rfl
     ·rw[ar h7,ar h7];rfl
    by_cases h0:view.length=0
    ·have e3:¬((0:Int)<((view.length:Nat):Int)):=by omega
     simp only[e3,bN,aF];have hdd:ae 1 [au (gT o l),ae 0 [],ae 0 []]=cQ (dA o l view).dE:=by unfold dA;rw[az h0];show _=ae 1 (cS (eZ o l)++[]);rw[hdc];rfl
     rw[hdd];exact fin
    ·have e3:((0:Int)<((view.length:Nat):Int)):=by omega
     simp only[e3,aY,aE];have hdd:ae ((List.take 3 (List.drop 0 [au (gT o l),ae 0 [],ae 0 []])++List.take 3 (List.drop 0 [aD cq view,ae 0 [],ae 0 []])).length/3) (List.take 3 (List.drop 0 [au (gT o l),ae 0 [],ae 0 []])++List.take 3 (List.drop 0 [aD cq view,ae 0 [],ae 0 []]))=cQ (dA o l view).dE:=by unfold dA;rw[ar h0];show _=ae 2 (cS (eZ o l)++(cS (.mk view .nil [])++[]));rw[hdc,sC,show(List.take 3 (List.drop 0 [au (gT o l),ae 0 [],ae 0 []])++List.take 3 (List.drop 0 [aD cq view,ae 0 [],ae 0 []])).length=6 from rfl];rfl
     rw[hdd];exact fin
  |succ k ih=>
   intro i v hi hv2 ha;have hiL:i<l.length:=by omega
   have e1:((i:Int)<(l.length:Int)):=by omega
   have hp:=ij.1 ha _ (cG hiL);have:=ih (i+1) (v -1) (by omega) (by omega) ha;rw[eA qn (mY w) (by omega),<-this];generalize hg:lp qn (mY w) (v -1)=g;have tg:∀(y:cL)(r:List Value),fm y++r=.int .i64 y.attr::.int .i64 y.size::.int .i64 y.at_::.int .i64 y.eK::.int .i64 y.eL::r:=λ_ _=>rfl;unfold mY u7 u5 vc;simp only[aV,e1,aY,aE,bQ];rw[show dP l=aD fm l from rfl,bu nq hiL,tg];simp only[bh,bP];rw[Ni (by omega) l[i] ho,az hp];simp only[aB,bH,aF];rw[gY,iv];have r1:aw (List.map aX ((l.take i).flatMap (eC o))).length=true:=by rw[cZ,hlen,dJ];simp;omega
   rw[r1,En _ (by rw[Eb];omega),jj,aE,cc,aO (by omega) (by omega),iO hiL,fu,gV,show[l[i]].flatMap (eC o)=eC o l[i] by simp];rfl
 cases ha:l.all kh with
 |true=>exact hall l.length 0 w (by omega) (by omega) ha
 |false=>
  have hbad:∀(k i v:Nat),i+k=l.length->k<v->(l.drop i).all kh=false->lp qn (mY w) v (dP l) l.length i o (dP l) (au view) (((l.take i).flatMap (eC o)).map aX)=some (ae 0 [],1):=by
   intro k;induction k with
   |zero=>intro i v hi hv2 h;rw[show l.drop i=[] from vP (by omega)] at h;cases h
   |succ k ih=>
    intro i v hi hv2 h;have hiL:i<l.length:=by omega
    have e1:((i:Int)<(l.length:Int)):=by omega
    rw[cX hiL,List.all_cons] at h;have tg:∀(y:cL)(r:List Value),fm y++r=.int .i64 y.attr::.int .i64 y.size::.int .i64 y.at_::.int .i64 y.eK::.int .i64 y.eL::r:=λ_ _=>rfl;rw[eA qn (mY w) (by omega)];cases hp:kh l[i] with
    |false=>unfold mY u7 u5 vc;simp only[aV,e1,aY,aE,bQ];rw[show dP l=aD fm l from rfl,bu nq hiL,tg];simp only[bh,bP];rw[Ni (by omega) l[i] ho,hp];rfl
    |true=>
     rw[hp,eD] at h;have:=ih (i+1) (v -1) (by omega) (by omega) h;rw[<-this];generalize hg:lp qn (mY w) (v -1)=g;unfold mY u7 u5 vc;simp only[aV,e1,aY,aE,bQ];rw[show dP l=aD fm l from rfl,bu nq hiL,tg];simp only[bh,bP];rw[Ni (by omega) l[i] ho,az hp];simp only[aB,bH,aF];rw[gY,iv];have r1:aw (List.map aX ((l.take i).flatMap (eC o))).length=true:=by rw[cZ,hlen,dJ];simp;omega
     rw[r1,En _ (by rw[Eb];omega),jj,aE,cc,aO (by omega) (by omega),iO hiL,fu,gV,show[l[i]].flatMap (eC o)=eC o l[i] by simp];rfl
  have:=hbad l.length 0 w (by omega) (by omega) (by rw[dX];exact ha);unfold iK;rw[ar h1n,ha,az rfl];exact this
theorem Yk{w:Nat}(W:dD w)(o:Int){l:List cL}(hl:l.length<=600){view:List aJ}(hv:VS view):BG w o (dP l) (au view)=some (match iK o l view with| .ok b=>(aj b,0)| .error e=>(ae 0 [],e)):=by
 by_cases ho:o=1\/o=2
 case neg=>unfold BG iK u7 u5 vc;rw[az (.inl ho),(show ah o 1=false from by rw[bW,gE];exactλq=>ho (.inl q)),(show ah o 2=false from by rw[bW,gE];exactλq=>ho (.inr q))];rfl
 have hrest:RC w o (dP l) (au view)=some (match iK o l view with| .ok b=>(aj b,0)| .error e=>(ae 0 [],e)):=by
  unfold RC;rw[(show∀K:Nat->Option (Value×Int),ak (dP l) K=K l.length fromλK=>cI fm l K)];by_cases h2:l.length<2
  ·have e1:ai (Int.ofNat l.length) 2=true:=by rw[aV,bX,cf];omega
   unfold iK;rw[az (.inr h2),e1];rfl
  ·have e1:ai (Int.ofNat l.length) 2=false:=by rw[aV,gE,cf];omega
   rw[e1];exact abx W ho (by omega) hl hv
 rcases ho with rfl|rfl<;>exact hrest
def gN(ms:List aU):List cL:=ms.map λp=>⟨p.attr,0,0,p.eK,p.eL⟩
def iX(ms:List aU)(i:Nat):Except Int (List UInt8):=
 match ms[i]? with
 |none=>.ok []
 |some p=>if i=0 then(if 1<ms.length then iK p.aG.order (gN ms) p.view else .ok []) else if p.view.length=0 then .ok [] else qQ p.aG.order p.view
theorem ahX{w:Nat}(W:dD w){ms:List aU}(hl:ms.length<=600)(o:Int){view:List aJ}(hv:VS view):
 lp VI (EC w) w (cT ms) ms.length 0 o (au view) []=some (match iK o (gN ms) view with| .ok b=>(aj b,0)| .error e=>(ae 0 [],e)):=by
 have hb:=W.jZ;refine iL (ev:=λi (k:Cw)=>k (cT ms) ms.length i o (au view) ((gN (ms.take i)).flatMap fm)) ms.length ?_ ?_ (by omega)
 ·intro i g hi;have e1:((i:Int)<(ms.length:Int)):=by omega
  have r1:aw ((gN (ms.take i)).flatMap fm).length=true:=by rw[dc nq];unfold gN;simp;omega
  unfold EC EN;simp only[aV,e1,bQ];rw[show cT ms=aD dM ms from rfl,bu kL hi,r1,cc,aO (by omega) (by omega)];have hp:(gN (ms.take (i+1))).flatMap fm=(gN (ms.take i)).flatMap fm++[Value.int IntKind.i64 ms[i].attr,Value.int IntKind.i64 0,Value.int IntKind.i64 0,Value.int IntKind.i64 ms[i].eK,Value.int IntKind.i64 ms[i].eL]:=by unfold gN;rw[iO hi,gV,fu];rfl
  rw[hp];rfl
 ·intro g;unfold EC EN;simp only[aV,(show¬((ms.length:Int)<(ms.length:Int)) from by omega)];rw[oZ,dc nq,jk _ (by decide)];have:=Yk W o (l:=gN ms) (by unfold gN;rw[cZ];exact hl) hv;rw[show ae (gN ms).length ((gN ms).flatMap fm)=dP (gN ms) from rfl,this];rfl
theorem Yf{w:Nat}(W:dD w){ms:List aU}(h:∀p∈ms,fg p)(hl:ms.length<=600){i:Nat}(hi:i<ms.length):GJ w (cT ms) (i:Int)=some (match iX ms i with| .ok b=>(aj b,0)| .error e=>(ae 0 [],e)):=by
 have hm:=h _ (cG hi);have hlr:∀K:Nat->Option (Value×Int),ak (cT ms) K=K ms.length:=λK=>cI dM ms K;have hlv:∀K:Nat->Option (Value×Int),ak (au ms[i].view) K=K ms[i].view.length:=λK=>cI cq _ K;unfold GJ iX Mo;rw[cN hi,bQ,show cT ms=aD dM ms from rfl,bu kL hi,nc];simp only[bh,bP];rw[show aD dM ms=cT ms from rfl];by_cases h0:i=0
 ·rw[az h0,show ah (i:Int) 0=true by rw[bW,bX];omega,hlr];by_cases h1:1<ms.length
  ·rw[az h1,show ai 1 (Int.ofNat ms.length)=true by rw[aV,bX,cf];omega,hlr];exact ahX W hl _ hm.vs
  ·rw[ar h1,show ai 1 (Int.ofNat ms.length)=false by rw[aV,gE,cf];omega];rfl
 ·rw[ar h0,show ah (i:Int) 0=false by rw[bW,gE];omega,hlv];by_cases h1:ms[i].view.length=0
  ·rw[h1];rfl
  ·rw[ar h1,show ah (Int.ofNat ms[i].view.length) 0=false by rw[bW,gE,cf];omega,akg W _ hm.vs];rfl
theorem Ma{ms:List aU}{i:Nat}{b:List UInt8}(h:iX ms i=.ok b)(hm:∀p∈ms,fg p)(hl:ms.length<=600):b.length=0\/(gh.isPrefixOf b=true/\b.length<=65533):=by
 unfold iX at h;split at h
 ·injection h with h;subst h;exact .inl rfl
 rename_i p hp;have hmp:=hm p (nB hp);split at h
 ·split at h
  ·right;obtain⟨r,hb,-,-,-,hbl⟩:=Rf h (by have:=hmp.tv.1;omega);exact⟨by rw[hb,pX];exact rY _ _,hbl⟩
  ·injection h with h;subst h;exact .inl rfl
 ·split at h
  ·injection h with h;subst h;exact .inl rfl
  ·right;rename_i h0;unfold qQ at h;split at h
   ·cases h
   split at h
   ·cases h
   rename_i hr;split at h
   ·cases h
   injection h with h;have hlen:=vH (OP (o:=p.aG.order) (by simpa using hr) h0 (by have:=hmp.tv.1;omega));rw[<-h];refine⟨by rw[pX];exact rY _ _,?_⟩;rw[aP];have:gh.length=4:=rfl;omega
def fK(p:aU)(cF:List UInt8):ou:=⟨p.aG,p.cd,p.core,cF,0,0⟩
theorem Jz{ms:List aU}{i:Nat}(hi:i<ms.length){b aS:List UInt8}(h:iX ms i=.ok b)(hm:∀p∈ms,fg p)(hl:ms.length<=600)(ha:iH ms[i].aG=.ok aS)(hc:mT ms[i].core=true):yJ (fK ms[i] b) aS:=by have hmp:=hm _ (cG hi);refine⟨ha,?_,by have:=hmp.ic;show ms[i].cd.length<=_;omega,hc,Ma h hm hl⟩;have:=hmp.sK.rows;show qz ms[i].aG 65000;unfold qz at this⊢;omega
def kX(aS b:List UInt8):Int:=if b.length=0 then 0 else((aS.length+10:Nat):Int)
theorem Yb{w:Nat}(W:dD w)(hw:1000000<w){ms:List aU}{i:Nat}(hi:i<ms.length){b aS:List UInt8}(h:iX ms i=.ok b)(hm:∀p∈ms,fg p)(hl:ms.length<=600)(ha:iH ms[i].aG=.ok aS)(hc:mT ms[i].core=true):
 vw w (cT ms) (i:Int)=some (ms[i].aG.order,au ms[i].aG.cj,au ms[i].aG.bD,au ms[i].aG.bG,au ms[i].aG.bj,au ms[i].aG.first,aj ms[i].aG.bC,aj ms[i].aG.cC,aj ms[i].cd,aj ms[i].core,aj b,kX aS b,((eY (fK ms[i] b) aS).length:Int),true):=by
 have hmp:=hm _ (cG hi);have hok:=Jz hi h hm hl ha hc;have hic:=hmp.ic;have hco:=hmp.co;have hbl:b.length<=65533:=by rcases Ma h hm hl with q|q;omega;exact q.2
 unfold vw;rw[Yf W hm hl hi,h];simp only[aB];rw[bQ,show cT ms=aD dM ms from rfl,bu kL hi,nc];simp;rw[(show xX w ms[i].aG.order (au ms[i].aG.cj) (au ms[i].aG.bD) (au ms[i].aG.bG) (au ms[i].aG.bj) (au ms[i].aG.first) (aj ms[i].aG.bC) (aj ms[i].aG.cC) (aj ms[i].cd) (aj ms[i].core) (aj b) 0 0=some (aj (eY (fK ms[i] b) aS),0) from(XX W hok hmp.sK (by omega) ⟨by show ms[i].core.length<=_;omega,by show ms[i].cd.length<=_;omega,hbl⟩ (by omega) 0 0))];simp;rw[(ajn W hok hmp.sK (by omega) ⟨by show ms[i].core.length<=_;omega,by show ms[i].cd.length<=_;omega,hbl⟩ (by omega))];rfl
theorem ajR{w:Nat}(W:dD w){ms:List aU}{i:Nat}(hi:i<ms.length){e:Int}(h:iX ms i=.error e)(he:e≠0)(hm:∀p∈ms,fg p)(hl:ms.length<=600):
 vw w (cT ms) (i:Int)=some (0,ae 0 [],ae 0 [],ae 0 [],ae 0 [],ae 0 [],ae 0 [],ae 0 [],ae 0 [],ae 0 [],ae 0 [],0,0,false):=by
 unfold vw;rw[Yf W hm hl hi];simp_all
theorem ahY{ms:List aU}{i:Nat}{e:Int}(h:iX ms i=.error e):e≠0:=by
 unfold iX at h;split at h
 ·cases h
 split at h
 ·split at h
  ·unfold iK at h
   repeat' split at h
   all_goals(cases h<;>decide)
  ·cases h
 ·split at h
  ·cases h
  ·unfold qQ at h
   repeat' split at h
   all_goals(cases h<;>decide)
def bO(l:List Int):List Value:=l.map λn:Int=>.int .i64 n
theorem Nz{w:Nat}(n:Int)(st:List Int)(s:Int)(hn:1<=n/\n<=10000000)(hs:0<=s/\s<=4000000000)(hl:st.length<10000):vo w n (bO (st++[s]))=some (false,bO (st++[s]++[s+n])):=by
 have hdrop:List.drop (0+st.length*1) (bO (st++[s]))=[Value.int .i64 s]:=by unfold bO;rw[gV,List.drop_left' (by simp)];rfl
 unfold vo;rw[(show(bO (st++[s])).length=st.length+1 from by unfold bO;simp),ky,iT,cf,aO (by omega) (by omega),show((st.length+1:Nat):Int) -1=(st.length:Int) by omega,bQ,hdrop];simp;rw[XP,az ⟨by unfold lY;rw[bX];omega,by unfold lY;rw[bX];omega,by unfold lY;rw[bX];omega⟩];have r1:aw (st.length+1)=true:=by simp;omega
 have hap:bO (st++[s])++[Value.int IntKind.i64 (s+n)]=bO (st++[s]++[s+n]):=by unfold bO;simp
 simp_all
theorem akD{w:Nat}(L:List Int)(hL:∀n∈L,1<=n/\n<=3000000)(hl:L.length<=1000)(hw:2000<w):∃st:List Value,lp qJ (fT w) w L.length 0 (bO L) (bO [0])=some (-1,bO L,st):=by
 have key:∀(k i v:Nat)(st:List Int)(s:Int),i+k=L.length->k<v->st.length=i->0<=s/\s<=3000000*i->∃st':List Value,lp qJ (fT w) v L.length i (bO L) (bO (st++[s]))=some (-1,bO L,st'):=by
  intro k;induction k with
  |zero=>
   intro i v st s hi hv _ _;have e1:¬((i:Int)<(L.length:Int)):=by omega
   rw[eA qJ (fT w) (by omega)];unfold fT;simp only[aV,e1,bN,aF];exact⟨_,rfl⟩
  |succ k ih=>
   intro i v st s hi hv hst hs;have hiL:i<L.length:=by omega
   have e1:((i:Int)<(L.length:Int)):=by omega
   have hn:=hL _ (cG hiL);obtain⟨st',hst'⟩:=ih (i+1) (v -1) (st++[s]) (s+L[i]) (by omega) (by omega) (by rw[aP,hst];rfl) (by omega);refine⟨st',?_⟩;rw[eA qJ (fT w) (by omega),<-hst'];have hlen:(bO L).length=L.length:=by unfold bO;rw[cZ]
   have hdrop:List.drop (0+i*1) (bO L)=.int .i64 L[i]::bO (L.drop (i+1)):=by unfold bO;rw[gm,gD,<-List.map_drop,cX hiL,iD]
   have e2:i*1<L.length:=by omega
   unfold fT;simp only[aV,e1,aY,aE,bQ];rw[hlen];simp only[mr,e2,aY,jW,aE];rw[hdrop];simp only[bh,bP];rw[Nz _ st s ⟨hn.1,by omega⟩ ⟨hs.1,by omega⟩ (by omega)];simp only[aB,aF,cc];rw[aO (by omega) (by omega)];rfl
 exact key L.length 0 w [] 0 (by omega) (by omega) rfl ⟨by omega,by omega⟩
theorem aiN{w:Nat}(L:List Int)(hL:∀n∈L,1<=n/\n<=3000000)(hl:L.length<=1000)(hw:2000<w):∃st:List Value,tu w (bO L)=some (true,bO L,st):=by
 obtain⟨st,h⟩:=akD L hL hl hw;refine⟨st,?_⟩;have h2:xZ w (bO L) [Value.int .i64 0]=some (-1,bO L,st):=by unfold xZ;rw[(show(bO L).length=L.length from by unfold bO;rw[cZ]),ky];exact h
 unfold tu F5;simp_all
def IX(ms:List aU)(i:Nat):Bool:=match iX ms i with| .ok _=>false| .error _=>true
def qB(ms:List aU):Nat->Nat->Int
 |0,_=>-1
 |k+1,i=>if IX ms i=true then(i:Int) else qB ms k (i+1)
theorem Q7(x:ou)(aS:List UInt8):1<=(eY x aS).length:=by unfold eY jO;rw[kR,aP];have:(cP ⟨216,[],[]⟩).length=2:=rfl;omega
theorem Pr{ms:List aU}(h:∀p∈ms,jH p=false){i:Nat}(hi:i<ms.length):∃aS,iH ms[i].aG=.ok aS:=by
 have:=h _ (cG hi);unfold jH at this;cases he:iH ms[i].aG with
 |ok b=>simp
 |error e=>grind
theorem Q9{ms:List aU}{i:Nat}(hi:i<ms.length){b aS:List UInt8}(h:iX ms i=.ok b)(hm:∀p∈ms,fg p)(hl:ms.length<=600)(ha:iH ms[i].aG=.ok aS)(hc:mT ms[i].core=true):(eY (fK ms[i] b) aS).length<=3000000:=by
 have hmp:=hm _ (cG hi);have hok:=Jz hi h hm hl ha hc;obtain⟨r,c1,c2,c3,c4,c5,c6⟩:=CM hok.core;have h1:=Q6 (aS:=aS) c2 c4;obtain⟨-,-,hl2,-⟩:=yU hok.app hok.rows;have hbl:b.length<=65533:=by rcases Ma h hm hl with q|q;omega;exact q.2
 have hic:=hmp.ic;have hco:=hmp.co;have e1:(fK ms[i] b).cF.length=b.length:=rfl;have e2:(fK ms[i] b).cd.length=ms[i].cd.length:=rfl;have e3:(fK ms[i] b).core.length=ms[i].core.length:=rfl;omega
theorem akE{w:Nat}(L:List Int)(hL:∀n∈L,1<=n/\n<=3000000)(hl:L.length<=1000)(hw:2000<w):∃r:Int×List Value×List Value,lp qJ (fT w) w (L++[0]).length 0 (bO (L++[0])) (bO [0])=some r:=by
 have hll:(L++[0]:List Int).length=L.length+1:=by simp
 have key:∀(k i v:Nat)(st:List Int)(s:Int),i+k=L.length->k+1<v->st.length=i->0<=s/\s<=3000000*i->∃r:Int×List Value×List Value,lp qJ (fT w) v (L++[0]).length i (bO (L++[0])) (bO (st++[s]))=some r:=by
  intro k;induction k with
  |zero=>
   intro i v st s hi hv hst hs;have hiL:i<(L++[0]:List Int).length:=by omega
   have e1:((i:Int)<((L++[0]:List Int).length:Int)):=by omega
   have hget:(L++[0]:List Int)[i]=0:=by rw[List.getElem_append_right (by omega)];simp
   have hlen:(bO (L++[0])).length=(L++[0]).length:=by unfold bO;rw[cZ]
   have hdrop:List.drop (0+i*1) (bO (L++[0]))=.int .i64 0::bO ((L++[0]).drop (i+1)):=by unfold bO;rw[gm,gD,<-List.map_drop,cX hiL,iD,hget]
   have e2:i*1<(L++[0]:List Int).length:=by omega
   rw[eA qJ (fT w) (by omega)];unfold fT;simp only[aV,e1,aY,aE,bQ];rw[hlen];simp only[mr,e2,aY,jW,show Nat.beq 1 1=true from rfl,aE];rw[hdrop];simp only[bh,bP];have h190:∃x,vo w 0 (bO (st++[s]))=some (true,x):=by
    have hlen2:(bO (st++[s])).length=st.length+1:=by unfold bO;simp
    have hdrop2:List.drop (0+st.length*1) (bO (st++[s]))=[Value.int .i64 s]:=by unfold bO;rw[gV,gm,gD,List.drop_left' (by simp)];rfl
    unfold vo;rw[hlen2,ky,iT,cf,aO (by omega) (by omega),show((st.length+1:Nat):Int) -1=(st.length:Int) by omega,bQ];have e1:st.length*1<st.length+1:=by omega
    simp only[mr,e1,aY,jW,show Nat.beq 1 1=true from rfl,aE];rw[hdrop2];simp only[bh,bP];rw[XP,az ⟨by unfold lY;rw[bX];omega,by unfold lY;rw[bX];omega,by unfold lY;rw[bX];omega⟩];simp only[aB];have r1:aw (st.length+1)=true:=by simp;omega
    rw[r1];simp only[show ai 0 1=true from rfl,rX,ky,gD,mL,show aw 1=true from rfl,jj,aE,bH,aF];exact⟨_,rfl⟩
   obtain⟨x,h190⟩:=h190;rw[h190];exact⟨_,rfl⟩
  |succ k ih=>
   intro i v st s hi hv hst hs;have hiL0:i<L.length:=by omega
   have hiL:i<(L++[0]:List Int).length:=by omega
   have e1:((i:Int)<((L++[0]:List Int).length:Int)):=by omega
   have hget:(L++[0]:List Int)[i]=L[i]:=List.getElem_append_left hiL0;have hn:=hL _ (cG hiL0);obtain⟨r,hr⟩:=ih (i+1) (v -1) (st++[s]) (s+L[i]) (by omega) (by omega) (by rw[aP,hst];rfl) (by omega);refine⟨r,?_⟩;rw[eA qJ (fT w) (by omega),<-hr];generalize hg:lp qJ (fT w) (v -1)=g;have hlen:(bO (L++[0])).length=(L++[0]).length:=by unfold bO;rw[cZ]
   have hdrop:List.drop (0+i*1) (bO (L++[0]))=.int .i64 L[i]::bO ((L++[0]).drop (i+1)):=by unfold bO;rw[gm,gD,<-List.map_drop,cX hiL,iD,hget]
   have e2:i*1<(L++[0]:List Int).length:=by omega
   unfold fT;simp only[aV,e1,aY,aE,bQ];rw[hlen];simp only[mr,e2,aY,jW,show Nat.beq 1 1=true from rfl,aE];rw[hdrop];simp only[bh,bP];rw[Nz _ st s ⟨hn.1,by omega⟩ ⟨hs.1,by omega⟩ (by omega)];simp only[aB,aF,cc];rw[aO (by omega) (by omega)];rfl
 exact key L.length 0 w [] 0 (by omega) (by omega) rfl ⟨by omega,by omega⟩
theorem aiO{w:Nat}(L:List Int)(hL:∀n∈L,1<=n/\n<=3000000)(hl:L.length<=1000)(hw:2000<w):∃r:Bool×List Value×List Value,tu w (bO (L++[0]))=some r:=by
 obtain⟨r,h⟩:=akE L hL hl hw;have h2:xZ w (bO (L++[0])) [Value.int .i64 0]=some r:=by unfold xZ;rw[(show(bO (L++[0])).length=(L++[0]).length from by unfold bO;rw[cZ]),ky];exact h
 unfold tu F5;simp_all;cases(!ai r.fst 0)<;>grind
theorem ab5{w:Nat}(W:dD w)(hw:1000000<w){ms:List aU}(hm:∀p∈ms,fg p)(hl:ms.length<=600)(ha:∀p∈ms,jH p=false)(hc:∀p∈ms,nI p=false):
 ∃c:Value×List Value,F4 w (cT ms) (cT ms) []=some (qB ms ms.length 0,c):=by
 have key:∀(k i v:Nat)(L:List Int),i+k=ms.length->k<v->L.length=i->(∀n∈L,1<=n/\n<=3000000)->∃c:Value×List Value,lp zS (sO w) v (cT ms) ms.length i (cT ms) (bO L)=some (qB ms k i,c):=by
  intro k;induction k with
  |zero=>
   intro i v L hi hv hL _;have e1:¬((i:Int)<(ms.length:Int)):=by omega
   rw[eA zS (sO w) (by omega)];unfold sO;simp only[aV,e1,bN,aF];exact⟨_,rfl⟩
  |succ k ih=>
   intro i v L hi hv hL hL2;have hiL:i<ms.length:=by omega
   have e1:((i:Int)<(ms.length:Int)):=by omega
   have hlen:(bO L).length=i:=by unfold bO;rw[cZ,hL]
   have r1:aw i=true:=by simp;omega
   have rr:∀n:Int,(aw (bO L).length&&(aw ([Value.int IntKind.i64 n].length/1)&&[Value.int IntKind.i64 n].length.beq ([Value.int IntKind.i64 n].length/1*1)))=true:=by intro n;rw[hlen,r1];simp
   rw[eA zS (sO w) (by omega)];unfold qB IX;cases hs:iX ms i with
   |error e=>
    have h34:=ajR W hiL hs (ahY hs) hm hl;rw[az rfl];have h131:∃r:Bool×List Value×List Value,tu w (bO L++[Value.int IntKind.i64 0])=some r:=by obtain⟨st,hst⟩:∃r,tu w (bO (L++[0]))=some r:=aiO L hL2 (by omega) (by omega);refine⟨st,?_⟩;rw[<-hst];unfold bO;rw[gV];rfl
    obtain⟨r,h131⟩:=h131;unfold sO;simp only[aV,e1,aY,aE,bQ];rw[show cT ms=aD dM ms from rfl,bu kL hiL,nc];simp only[bh,bP];unfold FI;rw[show aD dM ms=cT ms from rfl,hlen,ky,cf,h34];simp only[aB];rw[<-hlen,rr 0,aE,h131];exact⟨_,rfl⟩
   |ok b=>
    obtain⟨aS,hcam⟩:=Pr ha hiL;have hcore:mT ms[i].core=true:=by have:=hc _ (cG hiL);unfold nI at this;simpa using this
    have h34:=Yb W hw hiL hs hm hl hcam hcore;have hsm:=Q9 hiL hs hm hl hcam hcore;have hps:=Q7 (fK ms[i] b) aS;have hL3:∀n∈L++[((eY (fK ms[i] b) aS).length:Int)],1<=n/\n<=3000000:=by intro n hn;rcases fF.1 hn with hn|hn<;>grind
    obtain⟨st,h131⟩:=aiN (w:=w) _ hL3 (by rw[aP,rX];omega) (by omega);have hap:bO L++[Value.int IntKind.i64 ((eY (fK ms[i] b) aS).length:Int)]=bO (L++[((eY (fK ms[i] b) aS).length:Int)]):=by unfold bO;simp
    obtain⟨c,hih⟩:=ih (i+1) (v -1) _ (by omega) (by omega) (by rw[aP,rX];omega) hL3;rw[ar (λq=>by cases q)];refine⟨c,?_⟩;rw[<-hih];generalize hg:lp zS (sO w) (v -1)=g;unfold sO;simp only[aV,e1,aY,aE,bQ];rw[show cT ms=aD dM ms from rfl,bu kL hiL,nc];simp only[bh,bP];unfold FI;rw[show aD dM ms=cT ms from rfl,hlen,ky,cf,h34];simp only[aB];have rr2:=rr ((eY (fK ms[i] b) aS).length:Int);rw[hlen] at rr2;rw[rr2,aE,hap,h131];simp only[aB,bH,aF,cc];rw[aO (by omega) (by omega)];rfl
 obtain⟨c,h⟩:=key ms.length 0 w [] (by omega) (by omega) rfl (λn hn=>by cases hn);refine⟨c,?_⟩;unfold F4;exact h
def wo(ms:List aU):Bool:=match ms with
 |[p]=>!decide (p.attr=0/\p.eK=0/\p.eL=0/\p.view.length=0)
 |_=>false
def gS(ms:List aU):Int×Int:=
 if ms.length<1\/1000<ms.length then(1,0)
 else if 0<=cW jH ms then(2,cW jH ms)
 else if 0<=cW nI ms then(4,cW nI ms)
 else if 0<=cW oB ms then(5,cW oB ms)
 else if 0<=cW nJ ms then(6,cW nJ ms)
 else if wo ms=true then(7,0)
 else if 0<=qB ms ms.length 0 then(8,qB ms ms.length 0)
 else(0,0)
theorem uF{α:Type}{p:α->Bool}{l:List α}(h:¬0<=cW p l):∀x∈l,p x=false:=by
 have h1:cW p l<0:=by omega
 rw[wN] at h1
 grind
theorem aa9{α:Type}(l:List α):cW (λ_=>false) l=-1:=by
 unfold cW
 grind
theorem Jw{α:Type}{p:α->Bool}{l:List α}(h:0<=cW p l):∃i:Nat,∃hi:i<l.length,cW p l=(i:Int)/\p l[i]=true:=by
 unfold cW at h⊢;cases hf:l.findIdx? p with
 |none=>grind
 |some i=>
  rw[List.findIdx?_eq_some_iff_getElem] at hf
  grind
theorem akc(w:Nat){ms:List aU}(hl:ms.length<=2000):GU w (cT ms)=some (if ms.length<1\/1000<ms.length then 0 else-1):=by
 have hlr:∀K:Nat->Option Int,ak (cT ms) K=K ms.length:=λK=>cI dM ms K;unfold GU;rw[hlr,hlr,Fv,Fv];simp only[aB,aV]
 grind
theorem akd(w:Nat){ms:List aU}(hl:ms.length<=2000)(h1:1<=ms.length):GV w (cT ms)=some (if wo ms=true then 0 else-1):=by
 have hlr:∀K:Nat->Option Int,ak (cT ms) K=K ms.length:=λK=>cI dM ms K;cases ms with
 |nil=>simp at h1
 |cons p r=>
  unfold GV;rw[(show∀K:List Value->Option Int,aC 14 0 (cT (p::r)) K=K (dM p++r.flatMap dM) fromλK=>bu kL (by rw[cm];omega) K),nc];simp;rw[hlr];cases r with
  |nil=>
   rw[(show∀K:Nat->Option Int,ak (au p.view) K=K p.view.length fromλK=>cI cq _ K),Fv,Fv];unfold wo;by_cases a1:p.attr=0
   case neg=>simp[a1]
   by_cases a2:p.eK=0
   case neg=>simp_all
   by_cases a3:p.eL=0
   case neg=>simp_all
   by_cases a4:p.view.length=0
   ·simp_all
   ·have:(0:Int)<(p.view.length:Int):=by omega
    simp_all
  |cons q r=>rfl
theorem Ym{w:Nat}(W:dD w)(hw:1000000<w){ms:List aU}(hm:∀p∈ms,fg p)(hl:ms.length<=600\/1000<ms.length)(hl2:ms.length<=2000):BH w (cT ms)=some (gS ms):=by
 unfold BH gS EH EM;rw[show NV w=some () from rfl];rw[akc w hl2];simp only[aB];by_cases h1:ms.length<1\/1000<ms.length
 ·rw[az h1,az h1];rfl
 rw[ar h1,ar h1,show(!ai (-1) 0)=false from rfl];have hlt:ms.length<=600:=by omega
 unfold Og MU;rw[ai1 W hm hl2];simp only[aB,aV];by_cases h2:0<=cW jH ms
 ·rw[az h2,fH (by omega)];rfl
 rw[ar h2,gp (by omega:cW jH ms<0)];unfold Oh MV;rw[ai2 W hm hl2];simp only[aB];rw[show cW yY ms=-1 from aa9 ms];simp only[show decide ((-1:Int)<0)=true from rfl,aF];unfold Oi MW;rw[ai3 W hm hl2];simp only[aB];by_cases h4:0<=cW nI ms
 ·rw[az h4,fH (by omega)];rfl
 rw[ar h4,gp (by omega:cW nI ms<0)];unfold Oj MX;rw[ai4 W hm hl2];simp only[aB];by_cases h5:0<=cW oB ms
 ·rw[az h5,fH (by omega)];rfl
 rw[ar h5,gp (by omega:cW oB ms<0)];unfold Ol MY;rw[ai5 W hm hl2];simp only[aB];by_cases h6:0<=cW nJ ms
 ·rw[az h6,fH (by omega)];rfl
 rw[ar h6,gp (by omega:cW nJ ms<0)];rw[akd w hl2 (by omega)];simp only[aB];by_cases h7:wo ms=true
 ·rw[az h7,az h7];rfl
 rw[ar h7,ar h7];simp only[show decide ((-1:Int)<0)=true from rfl,aF];unfold Om MS;obtain⟨c,h188⟩:=ab5 W hw hm hlt (uF h2) (uF h4);rw[h188];simp only[aB];by_cases h8:0<=qB ms ms.length 0
 ·rw[az h8,fH (by omega)];rfl
 rw[ar h8,gp (by omega:qB ms ms.length 0<0)];rfl
def jt(ms:List aU):Int:=
 if(gS ms).1 =0 then 0
 else if(gS ms).1 =1 then(if ms.length=0 then 1 else 7)
 else if(gS ms).1 =2 then(match ms[(gS ms).2.toNat]? with|some p=>(match iH p.aG with| .ok _=>0| .error e=>e)|none=>0)
 else if(gS ms).1 =4 then 2
 else if(gS ms).1 =5 then 1
 else if(gS ms).1 =7 then 1
 else if(gS ms).1 =6 then 6
 else 7
theorem M7{w:Nat}(W:dD w)(hw:1000000<w){ms:List aU}(hm:∀p∈ms,fg p)(hl:ms.length<=600\/1000<ms.length)(hl2:ms.length<=2000):xK w (cT ms)=some (jt ms):=by
 have hlr:∀K:Nat->Option Int,ak (cT ms) K=K ms.length:=λK=>cI dM ms K;unfold xK jt;rw[Ym W hw hm hl hl2];simp only[aB,bW,qe];by_cases h0:(gS ms).1 =0
 ·rw[az h0,az h0]
 rw[ar h0,ar h0];by_cases h1:(gS ms).1 =1
 ·rw[az h1,az h1,hlr];by_cases hz:ms.length=0<;>grind
 rw[ar h1,ar h1];by_cases h2:(gS ms).1 =2
 ·rw[az h2,az h2];have hidx:0<=cW jH ms/\(gS ms).2 =cW jH ms:=by
   unfold gS at h2⊢;split at h2
   ·exact absurd h2 (by decide)
   rename_i a;rw[ar a];split at h2
   ·rename_i b;rw[az b];exact⟨b,rfl⟩
   ·exfalso
    repeat' split at h2
    all_goals(simp only at h2;exact absurd h2 (show¬((_:Int)=2) by decide))
  obtain⟨i,hi,he,hb⟩:=Jw hidx.1;rw[hidx.2,he,bQ,show cT ms=aD dM ms from rfl,bu kL hi,mI,cN hi];have d0:∀r:List Value,List.drop 0 (dM ms[i]++r)=dM ms[i]++r:=λ_=>rfl;rw[d0,nc];simp;rw[N2 W (hm _ (cG hi)).sK];cases iH ms[i].aG<;>rfl
 rw[ar h2,ar h2]
 repeat' split
 all_goals rfl
theorem ak7{o:Int}{view:List aJ}(hv:TS view)(hr:cR 5 view=true):gJ (fV o view)<=40000:=by
 obtain⟨h1,h2⟩:=hv;have hV:=zi view (aI 8+(6+12*bE (.mk view .nil []))) λt ht=>⟨(Ds (((xk hr).2) t ht)).2.2.2,h2 t ht⟩;have hN:bE (.mk view .nil [])=view.length:=by show view.length+0+0=_;simp
 have hE:gJ (fV o view)=bZ (aI 8+(6+12*bE (.mk view .nil []))) view:=by show dZ 8 [.mk view .nil []]=_;simp[dZ,bt,ea]
 have e8:aI 8=8:=rfl;omega
theorem abf{o:Int}{l:List cL}(h2:2<=l.length)(hl:l.length<=6){view:List aJ}(hv:TS view)(hr:cR 5 view=true):gJ (dA o l view)<=40000:=by
 obtain⟨h1,h2'⟩:=hv;have hm:=(xk hr).2;have hlen:=qx o l;have m3:ec 7 ((16*l.length:Nat):Int) (l.flatMap (eC o))=true:=by unfold ec;have:(kindOf 7).1 =1:=rfl;rw[hlen];simp_all;omega
 obtain⟨e1,he1⟩:∃e1,bt 8 (eZ o l)=e1:=⟨_,rfl⟩;have hD:e1<=700:=by
  have hV:=zi (m:=100) [⟨45056,7,4,[48,49,48,48]⟩,⟨45057,4,1,eI l.length 4⟩,⟨45058,7,((16*l.length:Nat):Int),l.flatMap (eC o)⟩] (aI 8+(6+12*bE (eZ o l))) λt ht=>by
   simp at ht;rcases ht with rfl|rfl|rfl
   ·exact⟨(by decide),by simp⟩
   ·exact⟨Zr,by simp only[oC];omega⟩
   ·exact⟨m3,by simp_all;omega⟩
  have hN:bE (eZ o l)=3:=rfl;have e8:aI 8=8:=rfl;have:e1=bZ (aI 8+(6+12*bE (eZ o l))) [⟨45056,7,4,[48,49,48,48]⟩,⟨45057,4,1,eI l.length 4⟩,⟨45058,7,((16*l.length:Nat):Int),l.flatMap (eC o)⟩]:=by rw[<-he1];simp[eZ,bt,ea,dW]
  simp_all;omega
 have hT:gJ (dA o l view)=dZ e1 (if view.length=0 then[] else[.mk view .nil []]):=by rw[<-he1];rfl
 rw[hT];by_cases h0:view.length=0
 ·rw[az h0];show e1<=_;omega
 ·rw[ar h0];have hV:=zi view (aI e1+(6+12*bE (.mk view .nil []))) λt ht=>⟨(Ds (hm t ht)).2.2.2,h2' t ht⟩;have hN:bE (.mk view .nil [])=view.length:=by
   show view.length+0+0=_;omega
  have hE:dZ e1 [.mk view .nil []]=bZ (aI e1+(6+12*bE (.mk view .nil []))) view:=by simp[dZ,bt,ea,dW]
  have e8:=uq e1;omega
def wK(p:aU):Bool:=!jH p&&(!nI p&&(!oB p&&!nJ p))
theorem pB{p:aU}(h:wK p=true):jH p=false/\nI p=false/\oB p=false/\nJ p=false:=by
 unfold wK at h
 grind
theorem Jp{p:aU}(h:jH p=false):p.aG.order=1\/p.aG.order=2:=by
 unfold jH at h;cases he:iH p.aG with
 |error e=>grind
 |ok b=>
  unfold iH at he;split at he
  ·grind
  ·rename_i q;exact(sB (pU.1 q)).1
theorem VK{ms:List aU}(hm:∀p∈ms,fg p)(hl:ms.length<=6)(hg:∀p∈ms,wK p=true)(i:Nat):∃b,iX ms i=.ok b:=by
 unfold iX;split
 ·exact⟨_,rfl⟩
 rename_i p hp;have hpm:=nB hp;obtain⟨g1,g2,g3,g4⟩:=pB (hg p hpm);have ho:=Jp g1;have hv:=(hm p hpm).tv;have hr:cR 5 p.view=true:=by unfold nJ at g4;simpa using g4
 split
 ·split
  ·rename_i h1;have hpl:(gN ms).length=ms.length:=by unfold gN;rw[cZ]
   have hall:(gN ms).all kh=true:=by rw[ij];intro q hq;obtain⟨y,hy,rfl⟩:=List.mem_map.1 hq;have:=(pB (hg y hy)).2.2.1;unfold oB at this;unfold kh;simp only[Bool.not_eq_false',bX] at this⊢;obtain⟨a,b,c⟩:=this;exact⟨a,by decide,by decide,b,c⟩
   have he:=abf (o:=p.aG.order) (l:=gN ms) (by omega) (by omega) hv hr;unfold iK;rw[ar (by rintro (q|q);exact q ho;omega),hall,ar (by decide),hr,ar (by decide),ar (by omega),ar (by omega)];exact⟨_,rfl⟩
  ·exact⟨_,rfl⟩
 ·split
  ·exact⟨_,rfl⟩
  ·rename_i h0;have he:=ak7 (o:=p.aG.order) hv hr;unfold qQ;rw[ar (by rintro (q|q);exact q ho;exact h0 q),hr,ar (by decide),ar (by omega)];exact⟨_,rfl⟩
theorem VJ{ms:List aU}(h:∀i,∃b,iX ms i=.ok b):∀k i,qB ms k i=-1
 |0,i=>rfl
 |k+1,i=>by obtain⟨b,hb⟩:=h i;unfold qB IX;rw[hb];exact VJ h k (i+1)
theorem Dc{α:Type}{p:α->Bool}{l:List α}:(¬0<=cW p l)↔∀x∈l,p x=false:=by
 constructor
 ·exact uF
 ·intro h q;obtain⟨i,hi,_,hb⟩:=Jw q
  grind
theorem QG{ms:List aU}(hm:∀p∈ms,fg p)(h1:1<=ms.length)(hl:ms.length<=6):(gS ms).1 =0↔(∀p∈ms,wK p=true)/\wo ms=false:=by
 unfold gS;rw[ar (by omega)];constructor
 ·intro h;split at h
  ·exact absurd h (by simp)
  rename_i a1;split at h
  ·exact absurd h (by simp)
  rename_i a2;split at h
  ·exact absurd h (by simp)
  rename_i a3;split at h
  ·exact absurd h (by simp)
  rename_i a4;split at h
  ·exact absurd h (by simp)
  rename_i a5;refine⟨λp hp=>?_,by simpa using a5⟩;unfold wK;rw[uF a1 p hp,uF a2 p hp,uF a3 p hp,uF a4 p hp];rfl
 ·rintro ⟨hg,h1⟩
  rw[ar (Dc.2 λp hp=>(pB (hg p hp)).1),ar (Dc.2 λp hp=>(pB (hg p hp)).2.1),ar (Dc.2 λp hp=>(pB (hg p hp)).2.2.1),ar (Dc.2 λp hp=>(pB (hg p hp)).2.2.2),h1,ar (by decide),VJ (VK hm hl hg),ar (by decide)]
theorem PM(ms:List aU)(h:1<=ms.length):jt ms=0↔(gS ms).1 =0:=by
 unfold jt;constructor
 ·intro hc;split at hc
  ·rename_i q;exact q
  split at hc
  ·rw[ar (by omega)] at hc;cases hc
  split at hc
  ·rename_i h0 h1 h2;exfalso;have hidx:0<=cW jH ms/\(gS ms).2 =cW jH ms:=by
    unfold gS at h2⊢;split at h2
    ·exact absurd h2 (by decide)
    rename_i a;rw[ar a];split at h2
    ·rename_i b;rw[az b];exact⟨b,rfl⟩
    ·exfalso
     repeat' split at h2
     all_goals(simp only at h2;exact absurd h2 (show¬((_:Int)=2) by decide))
   obtain⟨i,hi,he,hb⟩:=Jw hidx.1;rw[hidx.2,he,mI,cN hi] at hc;unfold jH at hb;simp only at hc;cases ha:iH ms[i].aG with
   |ok b=>rw[ha] at hb;cases hb
   |error e=>rw[ha] at hc;exact Pp ha hc
  repeat' split at hc
  all_goals(exact absurd hc (by decide))
 ·intro h0;rw[az h0]
def PS:List UInt8:=[255,216,255,218,0,8,1,1,0,0,63,0,7,255,217]
def Ec:aU:=⟨⟨2,[⟨274,3,1,[0,1]⟩],[],[],[],[],[],[]⟩,[],PS,0,0,0,[]⟩
structure qX where
 p:aU
 b:List UInt8
 aS:List UInt8
def DX(x:Except Int (List UInt8)):List UInt8:=match x with| .ok b=>b| .error _=>[]
def aR(ms:List aU)(i:Nat):qX:=⟨(ms[i]?).getD Ec,DX (iX ms i),DX (iH ((ms[i]?).getD Ec).aG)⟩
def gZ(g:qX):List Value:=[.int .i64 g.p.aG.order,au g.p.aG.cj,au g.p.aG.bD,au g.p.aG.bG,au g.p.aG.bj,au g.p.aG.first,aj g.p.aG.bC,aj g.p.aG.cC,aj g.p.cd,aj g.p.core,aj g.b,.int .i64 (kX g.aS g.b),.int .i64 ((eY (fK g.p g.b) g.aS).length:Int)]
theorem wO(g:qX):(gZ g).length=13:=rfl
def fL(ms:List aU):List qX:=(List.range ms.length).map (aR ms)
structure gu(ms:List aU):Prop where
 mem:∀p∈ms,fg p
 le:ms.length<=6
 wJ:∀p∈ms,wK p=true
theorem gu.Q8{ms:List aU}(F:gu ms){i:Nat}(hi:i<ms.length):∃b aS,iX ms i=.ok b/\iH ms[i].aG=.ok aS/\mT ms[i].core=true/\aR ms i=⟨ms[i],b,aS⟩:=by
 obtain⟨b,hb⟩:=VK F.mem F.le F.wJ i;obtain⟨aS,hc⟩:=Pr (λp hp=>(pB (F.wJ p hp)).1) hi;refine⟨b,aS,hb,hc,?_,?_⟩
 ·have:=(pB (F.wJ _ (cG hi))).2.1;unfold nI at this
  grind
 ·unfold aR;rw[cN hi,qb,hb,hc];rfl
theorem C3{ms:List aU}(hm:∀p∈ms,fg p)(hl:ms.length<=6\/1000<ms.length)(h:jt ms=0):gu ms/\1<=ms.length:=by
 by_cases h0:ms.length<1\/1000<ms.length
 ·exfalso;unfold jt at h;rw[(show(gS ms).1 =1 from by unfold gS;rw[az h0])] at h;omega
 ·have h1:1<=ms.length:=by omega
  have h6:ms.length<=6:=by omega
  have:=(PM ms h1).1 h;have:=(QG hm h1 h6).1 this;exact⟨⟨hm,h6,this.1⟩,h1⟩
theorem ag6(a d e:Int)(x:db)(c:List UInt8)(hx:x=Ec.aG\/x=⟨1,[],[],[],[],[],[],[]⟩)(hc:c=PS\/c=[]):fg ⟨x,[],c,a,d,e,[]⟩:=by
 have t0:TS []:=⟨by decide,λt h=>by cases h⟩;have hcl:c.length<=2000:=by rcases hc with rfl|rfl<;>decide
 rcases hx with rfl|rfl
 ·exact⟨(show TS [⟨274,3,1,[0,1]⟩] from⟨by decide,λt h=>by rw[oY.1 h];decide⟩),t0,t0,t0,t0,t0,(show 0<=2000 by decide),(show 0<=2000 by decide),(show 0<=2000 by decide),hcl⟩
 ·exact⟨t0,t0,t0,t0,t0,t0,(show 0<=2000 by decide),(show 0<=2000 by decide),(show 0<=2000 by decide),hcl⟩
theorem J1:fg Ec:=ag6 0 0 0 _ _ (.inl rfl) (.inl rfl)
def mg(l:List aJ):Bool:=l.any (λt=>decide (600<t.data.length))||decide (60<l.length)
theorem ajA{w:Nat}(l:List aJ)(hl:l.length<2^63)(hw:l.length<w):X4 w (au l)=some (mg l):=by
 have hlr:∀K:Nat->Option Bool,ak (au l) K=K l.length:=λK=>cI cq l K;have key:∀(k i v:Nat),i+k=l.length->k<v->∀(z:Value->Int->Option Bool)(F:(Value->Int->Option Bool)->Value->Int->Option Bool),
  (∀(x3:Value->Int->Option Bool)(x4:Value)(x5:Int),F x3 x4 x5=ak x4 λ(x6:Nat)=>bif ai x5 (Int.ofNat x6) then ax x5 λ(x7:Nat)=>aC 4 x7 x4 λx8=>af (List.drop 2 (List.drop 1 x8)) λ(x9:Value)(x10:List Value)=>ak x9 λ(x11:Nat)=>bif ai 600 (Int.ofNat x11) then some true else x3 x4 (ag IntKind.i64 (x5.add 1)) else ak x4 λ(x12:Nat)=>some (ai 60 (Int.ofNat x12)))->
  lp z F v (au l) i=some ((l.drop i).any (λt=>decide (600<t.data.length))||decide (60<l.length)):=by
  intro k;induction k with
  |zero=>
   intro i v hi hv z F hF;have e1:¬((i:Int)<(l.length:Int)):=by omega
   rw[eA z F (by omega),hF,hlr,show l.drop i=[] from vP (by omega)];simp only[aV,cf,e1,bN,aF];rw[hlr,List.any_nil,yG]
   congr 1
   rw[ig,bX,bX];omega
  |succ k ih=>
   intro i v hi hv z F hF;have hiL:i<l.length:=by omega
   have e1:((i:Int)<(l.length:Int)):=by omega
   have dd:∀(y:aJ)(r:List Value),List.drop 2 (List.drop 1 (cq y++r))=aj y.data::r:=λ_ _=>rfl;rw[eA z F (by omega),hF,hlr];simp only[aV,cf,e1,aY,aE,bQ];rw[show au l=aD cq l from rfl,bu gI hiL,dd];simp only[bh];rw[cw,cX hiL,List.any_cons];by_cases h:600<l[i].data.length
   ·have e2:(600:Int)<(l[i].data.length:Int):=by omega
    simp_all
   ·have e2:¬((600:Int)<(l[i].data.length:Int)):=by omega
    simp only[h,e2,bN,aF];have:=ih (i+1) (v -1) (by omega) (by omega) z F hF;rw[cc,aO (by omega) (by omega)];exact this
 exact key l.length 0 w (by omega) hw _ _ (λ_ _ _=>rfl)
theorem yE{l:List aJ}(h:mg l=false):TS l:=by unfold mg at h;simp_all;exact⟨by omega,λt ht=>by have:=h.1 t ht;omega⟩
def B8(p:aU):Bool:=mg p.aG.cj||(mg p.aG.bD||(mg p.aG.bG||(mg p.aG.bj||(mg p.aG.first||(mg p.view||(decide (2000<p.aG.bC.length)||(decide (2000<p.aG.cC.length)||(decide (2000<p.cd.length)||decide (2000<p.core.length)))))))))
theorem ak5{p:aU}(h:B8 p=false):fg p:=by unfold B8 at h;simp_all;obtain⟨a0,a2,a3,a4,a1,av,b1,b2,b3,b4⟩:=h;exact⟨yE a0,yE a2,yE a3,yE a4,yE a1,yE av,by omega,by omega,by omega,by omega⟩
structure Hr(w:Nat)(ms:List aU):Prop where
 n:ms.length<2^63
 rows:∀p∈ms,∀l∈[p.aG.cj,p.aG.bD,p.aG.bG,p.aG.bj,p.aG.first,p.view],l.length<2^63/\l.length<w
theorem Vl(l:List aJ):rowOf (au l)=some (l.length,l.flatMap cq):=rfl
theorem XO(w:Nat)(a b:Int)(d:List UInt8)(hd:d.length<=1000000000):tB w a b (aj d)=some (a,b,aj d):=by unfold tB;rw[re w _ hd];rfl
theorem KM(w:Nat):∀l:List aJ,(∀t∈l,t.data.length<=1000000000)->nk (tB w) (l.flatMap cq)=some (l.flatMap cq)
 |[],_=>rfl
 |t::l,h=>by have e:(t::l).flatMap cq=.int .i64 t.tag::.int .i64 t.ty::.int .i64 t.aA::aj t.data::l.flatMap cq:=rfl;rw[e];unfold nk;rw[show bd [aj t.data]=true from rfl,aE,XO w _ _ _ (h t (by simp)),aB,KM w l λx hx=>h x (by grind),aB]
theorem Sg:∀(l:List aJ)(i:Nat)(p:aJ->Bool),(∀x (h:x<l.length),x<i->p l[x]=true)->(∀x (h:x<l.length),i<=x->p l[x]=false)->l.filter p=l.take i
 |[],_,_,_,_=>by simp
 |a::l,0,p,h1,h2=>by rw[pZ,List.filter_eq_nil_iff];intro x hx;obtain⟨k,hk,rfl⟩:=List.mem_iff_getElem.1 hx;simp_all
 |a::l,i+1,p,h1,h2=>by have h0:=h1 0 (by simp) (by simp);simp at h0;rw[jX,az h0,oi,Sg l i p (λx h q=>by have:=h1 (x+1) (by grind) (by omega);simpa using this) λx h q=>by have:=h2 (x+1) (by simp;omega) (by omega);simpa using this]
theorem Jo:∀(l:List aJ)(i:Nat)(p:aJ->Bool),(∀x (h:x<l.length),x<i->p l[x]=false)->(∀x (h:x<l.length),i<=x->p l[x]=true)->l.filter p=l.drop i
 |[],_,_,_,_=>by simp
 |a::l,0,p,h1,h2=>by rw[dX,List.filter_eq_self];intro x hx;obtain⟨k,hk,rfl⟩:=List.mem_iff_getElem.1 hx;simp_all
 |a::l,i+1,p,h1,h2=>by have h0:=h1 0 (by simp) (by simp);simp at h0;rw[jX,ar (by simp[h0]),List.drop_succ_cons,Jo l i p (λx h q=>by have:=h1 (x+1) (by grind) (by omega);simpa using this) λx h q=>by have:=h2 (x+1) (by simp;omega) (by omega);simpa using this]
theorem aag{w:Nat}(l:List aJ)(t:Int)(hr:fE l=true)(hl:l.length<2^20)(hw:l.length+2<w)(hd:∀t∈l,t.data.length<=1000000000):yc w (au l) t=some (au (oD l t)):=by
 obtain⟨i,a,b,c,h1,h2⟩:=Nr l t hr (by omega) hw;unfold yc wB;rw[Vl,aB,(dc gI l),mL,show Nat.blt l.length 1000000000=true by simp;omega];rw[show(true&&true)=true from rfl,KM w l hd,aB,show ae l.length (l.flatMap cq)=au l from rfl,a,aB];cases hf:iy l t with
 |none=>
  have:oD l t=l:=by unfold oD;rw[List.filter_eq_self];intro x hx;have:=List.find?_eq_none.1 (hf) x hx;simpa using this
  rw[this];rfl
 |some x=>
  obtain⟨hi,hx⟩:=c (by rw[hf];rfl);have ht:l[i].tag=t:=by have h0:=List.find?_some (hf);rw[hf] at hx;rw[<-lH hx];simpa using h0
  have e1:(decide ((0:Int)<=((i:Nat):Int))&&Nat.blt i l.length)=true:=by simp;omega
  have hdr:oD l t=l.take i++l.drop (i+1):=by
   unfold oD
   conv=>lhs;rw[<-lE i l,cX hi]
   rw[List.filter_append,jX,ar (by simp[ht])]
   congr 1
   ·rw[List.filter_eq_self];intro x hx;obtain⟨k,hk,rfl⟩:=List.mem_iff_getElem.1 hx;simp at hk;have:=h1 k (by omega) (by omega);simp;omega
   ·rw[List.filter_eq_self];intro x hx;obtain⟨k,hk,rfl⟩:=List.mem_iff_getElem.1 hx;simp at hk;have:=uY hr (show i<i+1+k by omega) (show i+1+k<l.length by omega);simp;omega
  simp only[Option.isSome_some,aE,e1,mI];rw[mW gI,wH gI,wH gI,fe (l:=l.drop (i+1)) (by simp),hdr,<-fu];unfold au aD;rw[show(l.take i++l.drop (i+1)).length=l.length -1 by simp;omega]
theorem ah5{w:Nat}(l:List aJ)(x:aJ)(hr:fE l=true)(hl:l.length<2^20)(hw:l.length+2<w)(hd:∀t∈l,t.data.length<=1000000000)(hx:x.data.length<=1000000000):Bn w (au l) x.tag x.ty x.aA (aj x.data)=some (au (jS l x)):=by
 obtain⟨i,a,b,c,h1,h2⟩:=Nr l x.tag hr (by omega) hw;unfold Bn xz;rw[Vl,aB,(dc gI l),mL,show Nat.blt l.length 1000000000=true by simp;omega,show bd [aj x.data]=true from rfl];rw[show(true&&true&&true)=true from rfl,aE,KM w l hd,XO w _ _ _ hx,aB,show ae l.length (l.flatMap cq)=au l from rfl,a];have hlt:l.filter (λy=>decide (y.tag<x.tag))=l.take i:=Sg l i _ (λk h q=>by have:=h1 k h q;simpa using this) λk h q=>by have:=h2 k h q;simp;omega
 cases hf:iy l x.tag with
 |none=>
  have cu:∀k (h:k<l.length),l[k].tag≠x.tag:=λk h=>by have:=List.find?_eq_none.1 (hf) l[k] (cG h);simpa using this
  simp_all;rw[mW gI,wH gI];unfold jS au aD;rw[hlt,(Jo l i _ (λk h q=>by have:=h1 k h q;simp;omega) λk h q=>by have:=h2 k h q;have:=cu k h;simp;omega),fu,show(l.take i++x::l.drop i).length=l.length+1 by simp;omega];rfl
 |some y=>
  obtain⟨hi,hy⟩:=c (by rw[hf];rfl);have ht:l[i].tag=x.tag:=by rw[hf] at hy;rw[<-lH hy];simpa using(List.find?_some (hf))
  have hgt:l.filter (λy=>decide (x.tag<y.tag))=l.drop (i+1):=Jo l (i+1) _ (λk h q=>by
   by_cases hk:k=i
   ·subst hk;simp;omega
   ·have:=h1 k h (by omega);simp;omega) λk h q=>by have:=uY hr (show i<k by omega) h;simp;omega
  simp_all;rw[mW gI,wH gI];unfold jS au aD;rw[hlt,hgt,fu,show(l.take i++x::l.drop (i+1)).length=l.length by simp;omega];rfl
theorem Iw(l:List UInt8):bm (l.map λb=>(b.toNat:Int))=l.map aX:=by unfold bm;rw[List.map_map];rfl
theorem Z4{w:Nat}(b:List UInt8)(hb:b.length<=65519):BC w (aj b)=some (aD fo (fY b),0):=by
 unfold BC ze;rw[sw,cZ,Yl w _ (by omega),aB];cases b with
 |nil=>rfl
 |cons a b=>
  rw[(show wx (a::b).length=1 from by unfold wx;simp_all;omega),show(ah ((1:Nat):Int) 1&&Nat.ble (a::b).length 65519)=true by rw[show Nat.ble (a::b).length 65519=true by rw[gW];exact hb];rfl];have e:bm (mw++(a::b).map λb=>(b.toNat:Int))=(fJ++1::1::(a::b)).map aX:=by rw[<-Iw];rfl
  rw[e,(show fY (a::b)=[fJ++1::1::(a::b)] from by unfold fY;rw[ar (by simp)])];unfold aD fo aj aD;rw[dL,(show∀l:List UInt8,l.flatMap pg=l.map aX fromλl=>by induction l with|nil=>rfl|cons x l ih=>rw[dL,ih];rfl),(show(fJ++1::1::(a::b)).length=14+(a::b).length from by simp[fJ];omega)]
  rfl
theorem ZC{w:Nat}(a b c d:List UInt8)(h0:0<a.length)(h:a.length+b.length+c.length+d.length<2^29):tr w (aj a) (aj b) (aj c) (d.map aX)=some ((d++(a++(b++c))).map aX):=by
 unfold tr;rw[OL,aB,sw,sw,sw,<-gV,<-gV,<-gV,Iw];have e:(Nat.blt 0 (d++(a++(b++c))).length&&Nat.ble (d++(a++(b++c))).length 1000000000)=true:=by simp;omega
 grind
theorem abS(t:Int):(kindOf t).1 <=8:=by
 unfold kindOf
 repeat' split
 all_goals decide
theorem acj{ty aA:Int}{l:List UInt8}(h:ec ty aA l=true):l.length<=524288:=by obtain⟨h0,h1,h2,h3⟩:=uO h;have:aA*(kindOf ty).1 <=aA*8:=Int.mul_le_mul_of_nonneg_left (abS ty) (by omega);omega
theorem acn{w:Nat}(l:List aJ)(h:∀t∈l,ec t.ty t.aA t.data=true)(hl:l.length<=65535)(hw:65540<=w):ny w (au l)=some false:=by
 have key:N5 w (au l)=some (-1):=by
  refine iL (ev:=λi (g:Value->Int->Int->Option Int)=>g (au l) (l.length:Int) i) l.length ?_ ?_ (by omega)
  ·intro i g hi;simp_all;rw[show au l=aD cq l from rfl,bu gI hi,(show∀(y:aJ)(r:List Value),cq y++r=Value.int .i64 y.tag::.int .i64 y.ty::.int .i64 y.aA::aj y.data::r fromλ_ _=>rfl)];simp;have hm:=h l[i] (cG hi);unfold NX;rw[xY w _ _ _ (by have:=acj hm;omega),hm,aO (by omega) (by omega)];rfl
  ·intro g;simp
 unfold ny;rw[key];rfl
theorem Lx(d:aT):(fM (dT d)&&(fM (dS d)&&fM (dB d)))=true:=by cases d;rfl
theorem aci{w:Nat}(hw:65540<=w){sh:List aZ}{s:Nat}{d:aT}(h:cD sh s d=true):mC (ku w) (ny w) (dT d) (dS d) (dB d)=true:=by
 unfold mC;rw[Lx];obtain⟨tags,subs,blob⟩:=d;unfold cD at h;simp_all;obtain⟨⟨h1,h2⟩,h3,_⟩:=h;have hn:bE (.mk tags subs blob)=tags.length+bY subs+(if blob.length=0 then 0 else 2):=rfl;have hT:∀t∈tags,ec t.ty t.aA t.data=true:=λt ht=>by unfold jU at h3;simp_all
 rw[show dT (.mk tags subs blob)=au tags from rfl,show dS (.mk tags subs blob)=ae (bY subs) (gA subs) from rfl,show dB (.mk tags subs blob)=aj blob from rfl,F9 w tags subs blob (by omega),acn tags hT (by omega) hw]
 grind
mutual
theorem Sn{w:Nat}(hw:65540<=w){sh:List aZ}:∀(d:aT)(s f:Nat),cD sh s d=true->fP d<=f->lX (mC (ku w) (ny w)) f (dT d) (dS d) (dB d)=true
 | .mk tags subs blob,s,0,h,hf=>by simp[fP] at hf
 | .mk tags subs blob,s,f+1,h,hf=>by unfold lX;rw[aci hw h];unfold cD at h;simp at h;obtain⟨⟨h1,h2⟩,_,_,_,h5⟩:=h;have hn:bE (.mk tags subs blob)=tags.length+bY subs+(if blob.length=0 then 0 else 2):=rfl;show(Nat.beq (gA subs).length (bY subs*4)&&Nat.blt (bY subs) 1000000000&&uN (lX (mC (ku w) (ny w)) f) (gA subs))=true;rw[YE,mL,show Nat.blt (bY subs) 1000000000=true by simp;omega,Sr hw subs _ f h5 (by simp only[fP] at hf;omega)];rfl
theorem Sr{w:Nat}(hw:65540<=w){sh:List aZ}:∀(s:cA)(S:aZ)(f:Nat),iS sh S s=true->jJ s<=f->uN (lX (mC (ku w) (ny w)) f) (gA s)=true
 | .nil,_,_,_,_=>rfl
 | .cons tag d r,S,f,h,hf=>by unfold iS at h;simp_all;unfold jJ at hf;rw[show gA (.cons tag d r)=.int .i64 tag::(cS d++gA r) from rfl,py];show((fM (dT d)&&(fM (dS d)&&fM (dB d)))&&lX (mC (ku w) (ny w)) f (dT d) (dS d) (dB d)&&uN (lX (mC (ku w) (ny w)) f) (gA r))=true;rw[Lx,Sn hw d _ f h.2.1 (by omega),Sr hw r S f h.2.2 (by omega)];rfl
end
theorem ack{w:Nat}(hw:65540<=w)(o:Int)(ds:List aT)(hn:ds.length<1000000000)(h:∀d∈ds,∃(sh:List aZ)(s:Nat),cD sh s d=true)(hd:kF ds<=w):vr w o (cQ ds)=some true:=by
 have hC:∀ds:List aT,(∀d∈ds,∃(sh:List aZ)(s:Nat),cD sh s d=true)->kF ds<=w->rp (lX (mC (ku w) (ny w)) w) (ds.flatMap cS)=true:=by
  intro ds;induction ds with
  |nil=>intro _ _;rfl
  |cons d ds ih=>intro h hd;obtain⟨sh,s,h0⟩:=h d (by simp);unfold kF at hd;rw[dL,py];show((fM (dT d)&&(fM (dS d)&&fM (dB d)))&&lX (mC (ku w) (ny w)) w (dT d) (dS d) (dB d)&&rp (lX (mC (ku w) (ny w)) w) (ds.flatMap cS))=true;rw[Lx,Sn hw d s w h0 (by omega),ih (λx hx=>h x (by grind)) (by omega)];rfl
 show cond (Nat.beq (ds.flatMap cS).length (ds.length*3)&&(Nat.blt ds.length 1000000000&&rp (lX (mC (ku w) (ny w)) w) (ds.flatMap cS))) (some true) none=some true;rw[(dc kH ds),mL,show Nat.blt ds.length 1000000000=true by simp;omega,hC ds h hd];rfl
theorem aa2{w:Nat}(hw:65540<=w):Hand w:=
 ⟨λo ds hn h hd=>ack hw o ds hn h hd,λl x h1 h2 h3 h4 h5=>ah5 l x h1 h2 h3 h4 h5,λl t h1 h2 h3 h4=>aag l t h1 h2 h3 h4,λb h=>Z4 b h,λa b c d h0 h=>ZC a b c d h0 h⟩
section
open Go.Shelf Go.RowKit Go.Lib Go.ChangeShapes Go.WideShapes Go.Deep
section
variable{H:Type} {enc:TypeId×Value->H} {P:Program} {w:World} {base:Nat} {spare:Nat->Bool} {held:Bool}
theorem ZD{b i:Nat}{y:Value}(h:w.cell? ⟨b,i,none⟩=some y):fD w b i=some y:=by
 unfold fD;split
 ·rename_i es c q;unfold World.cell? at h;simp only[q] at h;cases h
 ·exact h
theorem ZE{a:Addr}{y:Value}(h:w.cell? a=some y):a.spot=none:=by
 unfold World.cell? at h;split at h
 ·split at h
  ·cases h
  ·rename_i q;cases e:a.spot with
   |none=>rfl
   |some _=>rw[e] at q;exact absurd rfl q
 ·cases h
theorem Ul{α:Type}{f:α->List Value}(h:∀x,bd (f x)=true):∀l:List α,bd (l.flatMap f)=true
 |[]=>rfl
 |x::l=>by rw[dL];exact DY (h x) (Ul h l)
theorem OJ{α:Type}{t e:TypeId}{k:Nat}(f:α->List Value)(pf:∀p,bd (f p)=true)(ht:P.underlying t=some (.slice e))(hk:P.cellsOf e=k)(k0:0<k){fuel:Nat}{cs:List Value}{x:DataW H×List MemPlace}
 (each:∀fuel cs x,DataW.trod enc P w base spare held fuel e cs=some x->∃p:α,bL (λb i=>fD w b i) (f p) cs) (h:DataW.trod enc P w base spare held fuel t cs=some x):
 ∃(l:List α)(v:Value),cs=[v]/\aK (λb i=>fD w b i) (aD f l) v/\l.length<=maxLen:=by
 rcases open_slice ht h with⟨rfl,_⟩|⟨a,len,cap,m,n,D,Pl,rfl,hb,hl,hm,hmm,hx,hi⟩
 ·exact⟨[],_,rfl,.gH,il _⟩
 have hlm:len<=m:=by rw[hmm];split<;>omega
 have key:∀j,j<=len->∃(l:List α)(ys:List Value),l.length=j/\bL (λb i=>fD w b i) (l.flatMap f) ys/\ys.length=j*k/\∀q y,ys[q]? =some y->w.cell? (a.add q)=some y:=by
  intro j;induction j with
  |zero=>intro _;exact⟨[],[],rfl,.nil,by simp,λq y h=>by simp at h⟩
  |succ j ih=>
   intro hj;obtain⟨l,ys,e1,e2,e3,e4⟩:=ih (by omega);obtain⟨cs',hc,htr⟩:=hi j (by omega);obtain⟨p,hp⟩:=each _ _ _ htr;rw[hk] at hc;obtain⟨_,hcl,hat⟩:=World.cells?_some hc;refine⟨l++[p],ys++cs',by simp[e1],?_,by simp[e3,hcl,lG],λq y hq=>?_⟩
   ·rw[fu,dL,lD,dQ];exact e2.join hp
   ·rcases iE q ys.length with hlt|hge
    ·rw[List.getElem?_append_left hlt] at hq;exact e4 q y hq
    ·rw[List.getElem?_append_right hge] at hq;have hql:=(pV.1 hq).1;have:=hat (q -ys.length) (by omega);rw[hq] at this;rw[<-this,Go.Deep.add_add]
     congr 2
     omega
 obtain⟨l,ys,e1,e2,e3,e4⟩:=key len (aL _);refine⟨l,_,rfl,?_,by omega⟩;by_cases h0:len=0
 ·have:l=[]:=kS (by omega);subst this;subst h0;exact .gH
 ·obtain⟨y0,hy0⟩:∃y,ys[0]? =some y:=⟨_,cN (by rw[e3];exact Nat.mul_pos (by omega) k0)⟩;obtain⟨b,o,sp⟩:=a;have hs:sp=none:=by
   have:=ZE (e4 0 y0 hy0);unfold Addr.add at this;first|exact this|(split at this<;>exact this)|simpa using this
  subst hs;subst e1;refine aK.row e2 (λi y hy=>ZD ?_) rfl hl (Ul pf l);have:=e4 i y hy;rwa[Addr.add_lit] at this
end
end
section
open Go.Shelf Go.RowKit Go.Lib Go.ChangeShapes Go.WideShapes Go.Deep
theorem PG:Tryz.prog.cellsOf 136=4:=by kernel_rfl
theorem ui:Tryz.prog.cellsOf 3=1:=by kernel_rfl
theorem ZI:Tryz.prog.cellsOf 5=1:=by kernel_rfl
theorem ZJ:Tryz.prog.cellsOf 134=3:=by kernel_rfl
theorem zc:Tryz.prog.cellsOf 26=1:=by kernel_rfl
theorem wq:Tryz.prog.cellsOf 25=1:=by kernel_rfl
theorem ZG:Tryz.prog.cellsOf 28=8:=by kernel_rfl
theorem PF:Tryz.prog.cellsOf 30=14:=by kernel_rfl
theorem ZH:Tryz.prog.cellsOf 22=1:=by kernel_rfl
theorem ZF:Tryz.prog.cellsOf 24=1:=by kernel_rfl
section
variable{H:Type} {enc:TypeId×Value->H} {w:World} {base:Nat} {spare:Nat->Bool} {held:Bool}
theorem jw{t:TypeId}{fs:Array Field}{fuel:Nat}{cs:List Value}{x:DataW H×List MemPlace}(ht:Tryz.prog.underlying t=some (.struct fs))(h:DataW.trod enc Tryz.prog w base spare held fuel t cs=some x)(i:Nat)(f:Field)(hf:fs[i]? =some f){k:Nat}(hk:Tryz.prog.cellsOf f.type=k):
 ∃n y,DataW.trod enc Tryz.prog w base spare held n f.type ((cs.drop f.offset).take k)=some y:=by
 obtain⟨xs,n,_,_,_,hl,hat⟩:=DataW.trod_struct ht h;have hi:i<fs.size:=(jV.1 hf).1;subst hk;exact⟨n,_,(hat i f hf).trans (cN (by omega))⟩
theorem lenOf{t:TypeId}{fs:Array Field}{fuel:Nat}{cs:List Value}{x:DataW H×List MemPlace}(ht:Tryz.prog.underlying t=some (.struct fs))(h:DataW.trod enc Tryz.prog w base spare held fuel t cs=some x){k:Nat}(hk:Tryz.prog.cellsOf t=k):cs.length=k:=by obtain⟨_,_,_,_,hl,_⟩:=DataW.trod_struct ht h;rw[hl,hk]
theorem uX{fuel:Nat}{cs:List Value}{x:DataW H×List MemPlace}(h:DataW.trod enc Tryz.prog w base spare held fuel 3 cs=some x):∃n,cs=[.int .i64 n]:=by obtain⟨n,e,_⟩:=DataW.trod_int Tryz.underlying3 h;exact⟨n,e⟩
theorem ahg{fuel:Nat}{cs:List Value}{x:DataW H×List MemPlace}(h:DataW.trod enc Tryz.prog w base spare held fuel 5 cs=some x):∃b:UInt8,bL (λb i=>fD w b i) (pg b) cs:=by
 obtain⟨n,rfl,_,q⟩:=DataW.trod_int Tryz.underlying5 h;have hq:0<=n/\n<=255:=by unfold Lit.wf at q;rw[bq] at q;exact⟨oo q.1,oo q.2⟩
 refine⟨UInt8.ofNat n.toNat,?_⟩;have e:pg (UInt8.ofNat n.toNat)=[.int .u8 n]:=by
  unfold pg aX;have:((UInt8.ofNat n.toNat).toNat:Int)=n:=by rw[qW];omega
  rw[this]
 rw[e];exact .cons (.int _ _) .nil
theorem Ax{fuel:Nat}{cs:List Value}{x:DataW H×List MemPlace}(h:DataW.trod enc Tryz.prog w base spare held fuel 26 cs=some x):∃(l:List UInt8)(v:Value),cs=[v]/\aK (λb i=>fD w b i) (aj l) v/\l.length<=maxLen:=
 OJ pg (λ_=>rfl) Tryz.underlying26 ZI (by decide) (λ_ _ _ h=>ahg h) h
theorem ahi{fuel:Nat}{cs:List Value}{x:DataW H×List MemPlace}(h:DataW.trod enc Tryz.prog w base spare held fuel 136 cs=some x):∃t:aJ,bL (λb i=>fD w b i) (cq t) cs:=by
 have hl:=lenOf Tryz.underlying136 h PG
 match cs,hl with
 |[a,b,c,d],_=>obtain⟨_,_,h0⟩:=jw Tryz.underlying136 h 0 _ rfl ui;obtain⟨_,_,h1⟩:=jw Tryz.underlying136 h 1 _ rfl ZJ;obtain⟨_,_,h2⟩:=jw Tryz.underlying134 h1 0 _ rfl ui;obtain⟨_,_,h3⟩:=jw Tryz.underlying134 h1 1 _ rfl ui;obtain⟨_,_,h4⟩:=jw Tryz.underlying134 h1 2 _ rfl zc;obtain⟨n0,e0⟩:=uX h0;obtain⟨n1,e1⟩:=uX h2;obtain⟨n2,e2⟩:=uX h3;obtain⟨l,v,e3,L,_⟩:=Ax h4;have e0:[a]=[.int .i64 n0]:=e0;have e1:[b]=[.int .i64 n1]:=e1;have e2:[c]=[.int .i64 n2]:=e2;have e3:[d]=[v]:=e3;cases e0;cases e1;cases e2;cases e3;exact⟨⟨n0,n1,n2,l⟩,.cons (.int _ _) (.cons (.int _ _) (.cons (.int _ _) (.cons L .nil)))⟩
theorem xg{fuel:Nat}{cs:List Value}{x:DataW H×List MemPlace}(h:DataW.trod enc Tryz.prog w base spare held fuel 25 cs=some x):∃(l:List aJ)(v:Value),cs=[v]/\aK (λb i=>fD w b i) (au l) v/\l.length<=maxLen:=
 OJ cq (λ_=>rfl) Tryz.underlying25 PG (by decide) (λ_ _ _ h=>ahi h) h
def yM(p:aU):Prop:=∀l∈[p.aG.cj,p.aG.bD,p.aG.bG,p.aG.bj,p.aG.first,p.view],l.length<=maxLen
theorem ahh{fuel:Nat}{cs:List Value}{x:DataW H×List MemPlace}(h:DataW.trod enc Tryz.prog w base spare held fuel 30 cs=some x):∃p:{p:aU//yM p},bL (λb i=>fD w b i) (dM p.1) cs:=by
 have hl:=lenOf Tryz.underlying30 h PF
 match cs,hl with
 |[a0,a1,a2,a3,a4,a5,a6,a7,a8,a9,a10,a11,a12,a13],_=>obtain⟨_,_,hE⟩:=jw Tryz.underlying30 h 0 _ rfl ZG;obtain⟨_,_,h0⟩:=jw Tryz.underlying28 hE 0 _ rfl ui;obtain⟨_,_,h1⟩:=jw Tryz.underlying28 hE 1 _ rfl wq;obtain⟨_,_,h2⟩:=jw Tryz.underlying28 hE 2 _ rfl wq;obtain⟨_,_,h3⟩:=jw Tryz.underlying28 hE 3 _ rfl wq;obtain⟨_,_,h4⟩:=jw Tryz.underlying28 hE 4 _ rfl wq;obtain⟨_,_,h5⟩:=jw Tryz.underlying28 hE 5 _ rfl wq;obtain⟨_,_,h6⟩:=jw Tryz.underlying28 hE 6 _ rfl zc;obtain⟨_,_,h7⟩:=jw Tryz.underlying28 hE 7 _ rfl zc;obtain⟨_,_,h8⟩:=jw Tryz.underlying30 h 1 _ rfl zc;obtain⟨_,_,h9⟩:=jw Tryz.underlying30 h 2 _ rfl zc;obtain⟨_,_,h10⟩:=jw Tryz.underlying30 h 3 _ rfl ui;obtain⟨_,_,h11⟩:=jw Tryz.underlying30 h 4 _ rfl ui;obtain⟨_,_,h12⟩:=jw Tryz.underlying30 h 5 _ rfl ui;obtain⟨_,_,h13⟩:=jw Tryz.underlying30 h 6 _ rfl wq;obtain⟨n0,e0⟩:=uX h0;obtain⟨l1,v1,e1,L1,m1⟩:=xg h1;obtain⟨l2,v2,e2,L2,m2⟩:=xg h2;obtain⟨l3,v3,e3,L3,m3⟩:=xg h3;obtain⟨l4,v4,e4,L4,m4⟩:=xg h4;obtain⟨l5,v5,e5,L5,m5⟩:=xg h5;obtain⟨l6,v6,e6,L6,_⟩:=Ax h6;obtain⟨l7,v7,e7,L7,_⟩:=Ax h7;obtain⟨l8,v8,e8,L8,_⟩:=Ax h8;obtain⟨l9,v9,e9,L9,_⟩:=Ax h9;obtain⟨n10,e10⟩:=uX h10;obtain⟨n11,e11⟩:=uX h11;obtain⟨n12,e12⟩:=uX h12;obtain⟨l13,v13,e13,L13,m13⟩:=xg h13;have e0:[a0]=[.int .i64 n0]:=e0;have e1:[a1]=[v1]:=e1;have e2:[a2]=[v2]:=e2;have e3:[a3]=[v3]:=e3;have e4:[a4]=[v4]:=e4;have e5:[a5]=[v5]:=e5;have e6:[a6]=[v6]:=e6;have e7:[a7]=[v7]:=e7;have e8:[a8]=[v8]:=e8;have e9:[a9]=[v9]:=e9;have e10:[a10]=[.int .i64 n10]:=e10;have e11:[a11]=[.int .i64 n11]:=e11;have e12:[a12]=[.int .i64 n12]:=e12;have e13:[a13]=[v13]:=e13;cases e0;cases e1;cases e2;cases e3;cases e4;cases e5;cases e6;cases e7;cases e8;cases e9;cases e10;cases e11;cases e12;cases e13;refine⟨⟨⟨⟨n0,l1,l2,l3,l4,l5,l6,l7⟩,l8,l9,n10,n11,n12,l13⟩,λl hl=>?_⟩,.cons (.int _ _) (.cons L1 (.cons L2 (.cons L3 (.cons L4 (.cons L5 (.cons L6 (.cons L7 (.cons L8 (.cons L9 (.cons (.int _ _) (.cons (.int _ _) (.cons (.int _ _) (.cons L13 .nil)))))))))))))⟩;simp only[cO,mK,mN] at hl;rcases hl with rfl|rfl|rfl|rfl|rfl|rfl<;>assumption
theorem ahf{fuel:Nat}{cs:List Value}{x:DataW H×List MemPlace}(h:DataW.trod enc Tryz.prog w base spare held fuel 24 cs=some x):∃(ms:List aU)(v:Value),cs=[v]/\aK (λb i=>fD w b i) (cT ms) v/\ms.length<=maxLen/\∀p∈ms,yM p:=by
 have hl:=lenOf Tryz.underlying24 h ZF
 match cs,hl with
 |[a],_=>
  obtain⟨_,_,h0⟩:=jw Tryz.underlying24 h 0 _ rfl ZH;obtain⟨l,v,e,L,hm⟩:=OJ (λp:{p:aU//yM p}=>dM p.1) (λ_=>rfl) Tryz.underlying22 PF (by decide) (λ_ _ _ h=>ahh h) h0;have e:[a]=[v]:=e;cases e;refine⟨l.map (·.1),a,rfl,?_,by simpa using hm,λp hp=>?_⟩
  ·have:cT (l.map (·.1))=aD (λp:{p:aU//yM p}=>dM p.1) l:=by
    unfold cT aD;rw[cZ,List.flatMap_map]
   rw[this];exact L
  ·obtain⟨q,_,rfl⟩:=List.mem_map.1 hp;exact q.2
end
end
def dk(ms:List aU)(i:Nat):Nat:=(eY (fK (aR ms i).p (aR ms i).b) (aR ms i).aS).length
def dK(ms:List aU):Nat->Nat
 |0=>0
 |i+1=>dK ms i+dk ms i
def kc(ms:List aU):Nat:=(aR ms 0).aS.length+14
def qw(ms:List aU)(i:Nat):cL:=⟨(aR ms i).p.attr,dk ms i,if i=0 then 0 else(dK ms i:Int) -kc ms,(aR ms i).p.eK,(aR ms i).p.eL⟩
def iA(ms:List aU):List cL:=(List.range ms.length).map (qw ms)
def gj(ms:List aU)(i:Nat):List UInt8:=if i=0/\1<ms.length then DX (iK (aR ms 0).p.aG.order (iA ms) (aR ms 0).p.view) else(aR ms i).b
def gM(ms:List aU)(i:Nat):List UInt8:=eY (fK (aR ms i).p (gj ms i)) (aR ms i).aS
def ct(ms:List aU):List (List UInt8):=(List.range ms.length).map (gM ms)
theorem pJ(ms:List aU):(iA ms).length=ms.length:=by unfold iA;rw[cZ,List.length_range]
theorem rD(ms:List aU):(ct ms).length=ms.length:=by unfold ct;rw[cZ,List.length_range]
theorem gu.at_{ms:List aU}(F:gu ms){i:Nat}(hi:i<ms.length):(aR ms i).p=ms[i]/\iX ms i=.ok (aR ms i).b/\iH ms[i].aG=.ok (aR ms i).aS/\mT ms[i].core=true:=by obtain⟨b,aS,k1,k2,k3,k4⟩:=F.Q8 hi;rw[k4];exact⟨rfl,k1,k2,k3⟩
theorem mz{ms:List aU}(F:gu ms){i:Nat}(hi:i<ms.length):1<=dk ms i/\dk ms i<=3000000:=by obtain⟨h1,h2,h3,h4⟩:=F.at_ hi;have h6:=F.le;unfold dk;rw[h1];exact⟨Q7 _ _,Q9 hi h2 F.mem (by omega) h3 h4⟩
theorem BW{ms:List aU}(F:gu ms):∀i,i<=ms.length->dK ms i<=3000000*i
 |0,_=>aL _
 |i+1,h=>by have:=BW F i (by omega);have:=(mz F (i:=i) (by omega)).2;unfold dK;omega
theorem BX(ms:List aU):∀{i j:Nat},i<=j->dK ms i<=dK ms j
 |i,0,h=>by rw[Nat.le_zero.1 h];exact aL _
 |i,j+1,h=>by
  rcases iE i (j+1) with q|q
  ·have:=BX ms (show i<=j by omega);show dK ms i<=dK ms j+dk ms j;omega
  ·rw[show i=j+1 by omega];exact aL _
theorem It{x:ou}{aS:List UInt8}:aS.length+x.cF.length+6<=(eY x aS).length:=by
 unfold eY jO;rw[kR,kR];have a1:(cP ⟨216,[],[]⟩).length=2:=rfl;have a2:(cP ⟨225,aS,[]⟩).length=aS.length+4:=by rw[show cP ⟨225,aS,[]⟩=[255,UInt8.ofNat (225:Int).toNat,UInt8.ofNat ((aS.length+2)/256),UInt8.ofNat ((aS.length+2)%256)]++aS++[] from rfl];simp only[aP,cm,List.length_nil];omega
 rw[aP,aP,a1,a2];split
 ·rename_i h;omega
 ·rw[List.singleton_append,kR,aP];have a3:(cP ⟨226,x.cF,[]⟩).length=x.cF.length+4:=by
   rw[show cP ⟨226,x.cF,[]⟩=[255,UInt8.ofNat (226:Int).toNat,UInt8.ofNat ((x.cF.length+2)/256),UInt8.ofNat ((x.cF.length+2)%256)]++x.cF++[] from rfl];simp only[aP,cm,List.length_nil];omega
  omega
theorem KY{ms:List aU}(F:gu ms)(h2:1<ms.length):
 ∃b,iK (aR ms 0).p.aG.order (iA ms) (aR ms 0).p.view=.ok b/\b.length=(aR ms 0).b.length/\gj ms 0=b/\14<b.length:=by
 obtain⟨h1,k1,k2,k3⟩:=F.at_ (i:=0) (by omega);have h6:=F.le;unfold iX at k1;rw[cN (by omega:0<ms.length)] at k1;simp only[dW] at k1;rw[az h2] at k1;rw[h1];have hpl:(gN ms).length=ms.length:=by unfold gN;rw[cZ]
 have hwl:=pJ ms;have hn:2<=ms.length/\16*ms.length<=65536:=by omega
 obtain⟨N,hN⟩:=aba ms[0].aG.order hn ms[0].view;obtain⟨A,B,hAB⟩:=abe ms[0].aG.order hn ms[0].view;have hhead:kc ms<=dk ms 0:=by
  unfold kc dk;have:=It (x:=fK (aR ms 0).p (aR ms 0).b) (aS:=(aR ms 0).aS);have e:(fK (aR ms 0).p (aR ms 0).b).cF=(aR ms 0).b:=rfl;rw[e] at this;obtain⟨e1,_⟩:=Rg k1;have e2:(aR ms 0).b.length=4+(er (dA ms[0].aG.order (gN ms) ms[0].view) fX).length:=by rw[e1,aP];rfl
  have e3:8<=(er (dA ms[0].aG.order (gN ms) ms[0].view) fX).length:=by unfold er;simp only[aP,ef];split<;>(simp;omega)
  omega
 have hall:(iA ms).all kh=true:=by
  rw[ij];intro p hp;unfold iA at hp;obtain⟨i,hi,rfl⟩:=List.mem_map.1 hp;have hi:=List.mem_range.1 hi;obtain⟨g1,g2,g3,g4⟩:=F.at_ hi;have:=pB (F.wJ _ (cG hi));have bp:=this.2.2.1;unfold oB at bp;simp at bp;have l1:=mz F hi;have s1:=BW F i (by omega);unfold kh qw;rw[g1];rw[bX];refine⟨bp.1,⟨by show 0<=(dk ms i:Int);omega,by show(dk ms i:Int)<_;omega⟩,?_,bp.2.1,bp.2.2⟩;show 0<=(if i=0 then(0:Int) else(dK ms i:Int) -kc ms)/\(if i=0 then(0:Int) else(dK ms i:Int) -kc ms)<4294967296;by_cases hi0:i=0
  ·rw[az hi0];omega
  ·rw[ar hi0];have:=BX ms (show 1<=i by omega);have e:dK ms 1=dk ms 0:=by show dK ms 0+dk ms 0=_;show 0+dk ms 0=_;omega
   omega
 have hb:=k1;unfold iK at hb;split at hb
 ·cases hb
 split at hb
 ·cases hb
 split at hb
 ·cases hb
 split at hb
 ·cases hb
 split at hb
 ·cases hb
 rename_i q1 q2 q3 q4 q5;rw[hN _ hpl] at q5;injection hb with hb;refine⟨gh++er (dA ms[0].aG.order (iA ms) ms[0].view) fX,?_,?_,?_,?_⟩
 ·unfold iK;rw[ar (by rw[hwl];rw[hpl] at q1;exact q1),ar (by rw[hall];decide),ar q3,ar (by rw[hwl];omega),ar (by rw[hN _ hwl];exact q5)]
 ·rw[<-hb,hAB _ hwl,hAB _ hpl];simp only[aP,qx,hwl,hpl]
 ·unfold gj;rw[az ⟨rfl,h2⟩,h1];unfold iK;rw[ar (by rw[hwl];rw[hpl] at q1;exact q1),ar (by rw[hall];decide),ar q3,ar (by rw[hwl];omega),ar (by rw[hN _ hwl];exact q5)];rfl
 ·rw[hAB _ hwl];simp only[aP,qx,hwl];have:gh.length=4:=rfl;omega
def kY(L:List Int)(i:Nat):Int:=(L.take i).sum
def nZ(L:List Int):List Int:=(List.range (L.length+1)).map (kY L)
theorem CB{L:List Int}{i:Nat}(h:i<L.length):kY L (i+1)=kY L i+L[i]:=by unfold kY;rw[iO h,List.sum_append];simp
theorem akG(L:List Int):(nZ L).length=L.length+1:=by unfold nZ;rw[cZ,List.length_range]
theorem akF(L:List Int){i:Nat}(h:i<(nZ L).length):(nZ L)[i]=kY L i:=by simp[nZ]
theorem Ih{L:List Int}(hL:∀n∈L,1<=n/\n<=3000000):∀i,i<=L.length->(i:Int)<=kY L i/\kY L i<=3000000*i
 |0,_=>by unfold kY;simp
 |i+1,h=>by have:=Ih hL i (by omega);have:=hL _ (cG (show i<L.length by omega));rw[CB (by omega)];omega
theorem JD(L:List Int):L.flatMap dH=bO L:=by
 unfold bO;induction L with
 |nil=>rfl
 |cons a l ih=>rw[dL,iD,ih];rfl
theorem ajh{w:Nat}(L:List Int)(hL:∀n∈L,1<=n/\n<=3000000)(hl:L.length<=1000)(hw:2000<w):Gi w (aD dH L) [Value.int .i64 0]=some (-1,bO (nZ L)):=by
 unfold Gi;rw[cI];refine iL (ev:=λi (g:Value->Int->Int->List Value->Option (Int×List Value))=>g (aD dH L) L.length i (bO ((List.range (i+1)).map (kY L)))) L.length ?_ ?_ (by omega)
 ·intro i g hi;have e1:((i:Int)<(L.length:Int)):=by omega
  have hn:=hL _ (cG hi);have ha:=Ih hL i (by omega);simp only[aV,e1,aY,aE,bQ];rw[bu ql hi,show dH L[i]++(L.drop (i+1)).flatMap dH=.int .i64 L[i]::(L.drop (i+1)).flatMap dH from rfl];simp only[bh,bP];rw[List.range_succ,gV,iD,List.map_nil,Nz _ _ _ ⟨hn.1,by omega⟩ ⟨by omega,by omega⟩ (by simp;omega)];simp only[aB,aF,cc];rw[aO (by omega) (by omega),List.range_succ,gV,iD,List.map_nil,List.range_succ,gV,iD,List.map_nil,CB hi];rfl
 ·intro g;have e1:¬((L.length:Int)<(L.length:Int)):=by omega
  simp only[aV,e1,bN,aF];rfl
theorem aiM{w:Nat}(L:List Int)(hL:∀n∈L,1<=n/\n<=3000000)(hl:L.length<=1000)(hw:2000<w):FJ w (aD dH L)=some (aD dH (nZ L),true):=by unfold FJ Ny;rw[ajh L hL hl hw];simp only[aB,aD,JD];rw[show(bO (nZ L)).length=(nZ L).length by unfold bO;rw[cZ],ky];rfl
theorem aiB(w:Nat)(P:List cL)(h0:0<P.length)(hl:P.length<=1000):Fl w (dP P)=some (P.flatMap fm):=by
 unfold Fl dP;rw[cI,zy nq];have hn:=nextslicecap_le (need:=0+P.length) (old:=0) (by omega);have e4:(Builtin.nextslicecap (0+P.length) 0).ble 5000000000=true:=by rw[gW];omega
 have e5:(P.flatMap fm).length.beq (P.length*5)=true:=by rw[dc nq];exact mL _
 have e6:Nat.blt 0 P.length=true:=by simp;omega
 have e7:(0+P.length).ble 0=false:=by
  cases h:P.length with
  |zero=>omega
  |succ n=>rw[gm];rfl
 have e8:aw P.length=true:=by simp;omega
 rw[e6,e5,e7,e8,e4];rfl
def pI(L:List Int)(h:Int)(P:List cL):List cL:=(List.range P.length).map λi=>⟨(P[i]?.getD ⟨0,0,0,0,0⟩).attr,L[i]?.getD 0,if i=0 then 0 else kY L i -h,(P[i]?.getD ⟨0,0,0,0,0⟩).eK,(P[i]?.getD ⟨0,0,0,0,0⟩).eL⟩
theorem UR(A B vs:List Value)(k:Nat):aQ (A.length+k) vs (A++B)=A++aQ k vs B:=by
 induction vs generalizing k B with
 |nil=>rfl
 |cons v vs ih=>rw[aQ,aQ,show A.length+k+1=A.length+(k+1) by omega,List.set_append_right (A.length+k) v (by omega),show A.length+k -A.length=k by omega,ih]
theorem KV(L:List Int)(h:Int)(P:List cL):(pI L h P).length=P.length:=by simp[pI]
theorem UH(L:List Int)(h:Int)(P:List cL){i:Nat}(hi:i<P.length)(hL:i<L.length)(q:i<(pI L h P).length):(pI L h P)[i]=⟨P[i].attr,L[i],if i=0 then 0 else kY L i -h,P[i].eK,P[i].eL⟩:=by simp[pI,hi,hL]
set_option maxHeartbeats 1000000 in
theorem aiu{w:Nat}(L:List Int)(hL:∀n∈L,1<=n/\n<=3000000)(hl:L.length<=1000)(hw:2000<w)(h:Int)(hh:0<=h/\h<=kY L 1)(P:List cL)(hP:P.length=L.length)(h0:0<P.length):
 Ff w (aD dH L) h (dP P)=some (dP (pI L h P),true):=by
 unfold Ff;rw[aiM L hL hl hw,aiB w P h0 (by omega)];simp only[aB,bH,aF];rw[show dP P=aD fm P from rfl,cI,cI,hP];have e0:ai h 0=false:=by rw[aV,gE];omega
 rw[show ah (Int.ofNat L.length) (Int.ofNat L.length)=true by rw[bW,bX],bH,aF,e0,aF,dc nq,jk _ (by decide)];have hmono:∀i,1<=i->i<=L.length->kY L 1<=kY L i:=by
  intro i h1;induction i with
  |zero=>omega
  |succ i ih=>
   intro h2;rcases Nat.eq_zero_or_pos i with rfl|q
   ·exact Int.le_refl _
   ·have:=ih q (by omega);have:=hL _ (cG (show i<L.length by omega));rw[CB (i:=i) (by omega)];omega
 refine iL (ev:=λi (g:Value->Int->Value->Int->Int->List Value->Option (Value×Bool))=>g (aD dH L) h (aD dH (nZ L)) P.length i (((pI L h P).take i++P.drop i).flatMap fm)) P.length ?_ ?_ (by omega)
 ·intro i g hi;have e1:((i:Int)<(P.length:Int)):=by omega
  have hiL:i<L.length:=by omega
  have hiS:i<(nZ L).length:=by rw[akG];omega
  have hiQ:i<(pI L h P).length:=by rw[KV];exact hi
  have hn:=hL _ (cG hiL);have ha:=Ih hL i (by omega);have tg:∀(p:cL)(r:List Value),fm p++r=.int .i64 p.attr::.int .i64 p.size::.int .i64 p.at_::.int .i64 p.eK::.int .i64 p.eL::r:=λ_ _=>rfl;rw[fu,cX hi,dL,tg,iO hiQ,dO,fu,fu,dL,lD,dQ,tg,UH L h P hi hiL hiQ];have hA:(((pI L h P).take i).flatMap fm).length=i*5:=by rw[dc nq,dJ];congr 1;omega
  generalize((pI L h P).take i).flatMap fm=A at hA⊢;generalize(P.drop (i+1)).flatMap fm=B;have put1:∀(a s t v:Value)(B:List Value),aQ (0+i*5+1) [v] (A++(a::s::t::B))=A++(a::v::t::B):=λa s t v B=>by rw[show 0+i*5+1=A.length+1 by omega,UR];rfl
  have uW:∀(a s t v:Value)(B:List Value),aQ (0+i*5+2) [v] (A++(a::s::t::B))=A++(a::s::v::B):=λa s t v B=>by rw[show 0+i*5+2=A.length+2 by omega,UR];rfl
  have dr2:∀(a s t:Value)(B:List Value),List.drop (0+i*5+2) (A++(a::s::t::B))=t::B:=λa s t B=>by rw[show 0+i*5+2=A.length+2 by omega,List.drop_append];simp
  have b1:∀(a s t d e:Value),(i*5).blt (A++(a::s::t::d::e::B)).length=true:=λa s t d e=>by simp;omega
  have b2:∀(a s t d e:Value)(k:Nat),k<=5->(0+i*5+k).ble (A++(a::s::t::d::e::B)).length=true:=λa s t d e k hk=>by simp;omega
  have c1:∀z:Int,(SV.i IntKind.i64 z).cells.length.beq 1=true:=λ_=>rfl;simp only[aV,e1,aY,aE,bQ];rw[bu ql hiL,show dH L[i]++(L.drop (i+1)).flatMap dH=.int .i64 L[i]::(L.drop (i+1)).flatMap dH from rfl];simp only[bh,bP];rw[b1,show Nat.beq 5 5=true from rfl,eD,aE,c1,eD,show 0+i*5+1+1=0+i*5+2 from rfl,b2 _ _ _ _ _ 2 (by omega),aE,put1,b1,eD,aE,show Nat.beq 1 1=true from rfl,eD,show 0+i*5+2+1=0+i*5+3 from rfl,b2 _ _ _ _ _ 3 (by omega),aE,uW];by_cases h1:i=0
  ·subst h1;rw[show decide ((0:Int)<((0:Nat):Int))=false from rfl,aF,b1,eD,aE,dr2];simp only[bh,bP];rw[cc,aO (by omega) (by omega)];rfl
  ·have e2:((0:Int)<(i:Int)):=by omega
   have hm:=hmono i (by omega) (by omega);rw[gp e2,aE,bu ql hiS,show∀r,dH (nZ L)[i]++r=.int .i64 (nZ L)[i]::r fromλ_=>rfl,akF];simp only[bh,bP];rw[b1,eD,aE,iT,aO (by omega) (by omega),c1,eD,show 0+i*5+2+1=0+i*5+3 from rfl,b2 _ _ _ _ _ 3 (by omega),aE,uW,b1,eD,aE,dr2];simp only[bh,bP];have e3:¬(kY L i -h<0):=by omega
   rw[fH e3,aF,cc,aO (by omega) (by omega),ar h1];rfl
 ·intro g;have e1:¬((P.length:Int)<(P.length:Int)):=by omega
  simp only[aV,e1,bN,aF];rw[vP (aL _),dQ,fe (by rw[KV];exact aL _),dc nq,jk _ (by decide)];rfl
theorem Rj{w:Nat}(W:dD w){o:Int}(ho:o=1\/o=2){l:List cL}(h2:2<=l.length)(hl:l.length<=600){view:List aJ}(hv:VS view)(hr:cR 5 view=true):(fb (dA o l view)).length<100000000:=by
 have T:=Rk W ho h2 hl hv hr;have h:=BN (dA o l view).dE 0 8 T.hd;have hc:gP (dA o l view).dE<=2:=by unfold dA eZ;simp only;split<;>simp[gP,dw,gX]
 have h2:gP (dA o l view).dE*(10000+2)<=2*(10000+2):=vT _ hc;have h3:(fb (dA o l view)).length=(ji 0 8 (dA o l view).dE).length+1:=rfl;omega
def lf(x:qX×List UInt8):List Value:=[.int .i64 x.1.p.aG.order,au x.1.p.aG.cj,au x.1.p.aG.bD,au x.1.p.aG.bG,au x.1.p.aG.bj,au x.1.p.aG.first,aj x.1.p.aG.bC,aj x.1.p.aG.cC,aj x.1.p.cd,aj x.1.p.core,aj x.2,.int .i64 (kX x.1.aS x.1.b),.int .i64 ((eY (fK x.1.p x.1.b) x.1.aS).length:Int)]
theorem Q0(x:qX×List UInt8):(lf x).length=13:=rfl
def iJ(ms:List aU):List (qX×List UInt8):=(List.range ms.length).map λi=>(aR ms i,gj ms i)
theorem aa5(ms:List aU):(iJ ms).length=ms.length:=by unfold iJ;rw[cZ,List.length_range]
theorem JB(ms:List aU):(fL ms).length=ms.length:=by unfold fL;rw[cZ,List.length_range]
theorem JA(ms:List aU){i:Nat}(h:i<(fL ms).length):(fL ms)[i]=aR ms i:=by simp[fL]
theorem aa4(ms:List aU){i:Nat}(h:i<(iJ ms).length):(iJ ms)[i]=(aR ms i,gj ms i):=by simp[iJ]
def ke(ms:List aU):List Int:=(List.range ms.length).map λi=>(dk ms i:Int)
theorem JU(ms:List aU):(ke ms).length=ms.length:=by unfold ke;rw[cZ,List.length_range]
theorem JT(ms:List aU){i:Nat}(h:i<(ke ms).length):(ke ms)[i]=dk ms i:=by simp[ke]
theorem Ii(ms:List aU):∀i,i<=ms.length->kY (ke ms) i=(dK ms i:Int)
 |0,_=>rfl
 |i+1,h=>by
  have hi:i<(ke ms).length:=by rw[JU];omega
  rw[CB hi,Ii ms i (by omega),JT];show _=((dK ms i+dk ms i:Nat):Int);omega
theorem aiR{w:Nat}(W:dD w)(hw:1000000<w){ms:List aU}(F:gu ms)(hc:jt ms=0):FV w (cT ms)=some ((fL ms).flatMap gZ):=by
 have hlr:∀K:Nat->Option (List Value),ak (cT ms) K=K ms.length:=λK=>cI dM ms K;have h6:=F.le;have hm:=F.mem;unfold FV;rw[M7 W hw hm (by omega) (by omega)];simp only[aB,bW];rw[gp hc,bH,aF,hlr];have hil:=JB ms;refine iL (ev:=λi (g:Int->Int->Value->List Value->Option (List Value))=>g ms.length i (cT ms) (((fL ms).take i).flatMap gZ)) ms.length ?_ ?_ (by omega)
 ·intro i g hi;obtain⟨b,aS,k1,k2,k3,k4⟩:=F.Q8 hi;have e1:((i:Int)<(ms.length:Int)):=by omega
  have hiI:i<(fL ms).length:=by omega
  have hget:(fL ms)[i]=⟨ms[i],b,aS⟩:=by rw[JA];exact k4
  simp only[aV,e1,aY,aE];rw[Yb W hw hi k1 hm (by omega) k2 k3];have hr1:aw (((fL ms).take i).flatMap gZ).length=true:=by rw[dc wO];simp;omega
  rw[aB,hr1,cc,aO (by omega) (by omega),iO hiI,fu,hget];rfl
 ·intro g;have e1:¬((ms.length:Int)<(ms.length:Int)):=by omega
  simp only[aV,e1,bN,aF];rw[fe (by omega)]
theorem aiz{w:Nat}(hw:1000000<w)(ms:List aU)(h6:ms.length<=6):Fj w ((fL ms).flatMap gZ)=some ((fL ms).flatMap gZ,bO (ke ms)):=by
 unfold Fj;have hil:=JB ms;have hll:=JU ms;rw[dc wO,jk _ (by decide)];refine iL (ev:=λi (g:Int->Int->List Value->List Value->Option (List Value×List Value))=>g (fL ms).length i ((fL ms).flatMap gZ) (bO ((ke ms).take i))) ms.length ?_ ?_ (by omega)
 ·intro i g hi;have e1:((i:Int)<((fL ms).length:Int)):=by omega
  have hiI:i<(fL ms).length:=by omega
  have hiL:i<(ke ms).length:=by omega
  have hlt:(i*13).blt ((fL ms).flatMap gZ).length=true:=by rw[dc wO];simp;omega
  have og:∀(y:qX)(r:List Value),gZ y++r=.int .i64 y.p.aG.order::au y.p.aG.cj::au y.p.aG.bD::au y.p.aG.bG::au y.p.aG.bj::au y.p.aG.first::aj y.p.aG.bC::aj y.p.aG.cC::aj y.p.cd::aj y.p.core::aj y.b::.int .i64 (kX y.aS y.b)::.int .i64 ((eY (fK y.p y.b) y.aS).length:Int)::r:=λ_ _=>rfl;simp only[aV,e1,aY,aE,bQ];rw[show Nat.beq 13 13=true from rfl,eD,hlt,aE,gm,mW wO,cX hiI,dL,og];simp only[bh,bP];have hr:aw (bO ((ke ms).take i)).length=true:=by unfold bO;simp;omega
  rw[show∀a b c d e f g h i j k l m,ML w a b c d e f g h i j k l m=some m fromλ_ _ _ _ _ _ _ _ _ _ _ _ _=>rfl,aB,hr,JA,cc,aO (by omega) (by omega),iO hiL,JT,show(i:Int)+1=((i+1:Nat):Int) by omega];rw[show∀z:Value,(true&&(aw ([z].length/1)&&[z].length.beq ([z].length/1*1)))=true fromλz=>by simp,aE];unfold bO dk;rw[gV];rfl
 ·intro g;have e1:¬((ms.length:Int)<((fL ms).length:Int)):=by omega
  simp only[aV,e1,bN,aF];rw[fe (by omega)]
def Ik(ms:List aU):(Int×Int×Value×Value×List Value)⊕(Value×Int):=
 if jt ms=0 then .inl (if ms.length=1 then(0,0,ae 0 [],ae 0 [],(iJ ms).flatMap lf) else(0,(aR ms 0).p.aG.order,dP (iA ms),au (aR ms 0).p.view,(iJ ms).flatMap lf)) else .inr (.pointer none,jt ms)
theorem aa6{ms:List aU}(h:ms.length=1):(fL ms).flatMap gZ=(iJ ms).flatMap lf:=by
 unfold fL iJ;rw[h];have:gj ms 0=(aR ms 0).b:=by unfold gj;rw[ar (by omega)]
 show gZ (aR ms 0)++[]=lf (aR ms 0,gj ms 0)++[];rw[this];rfl
theorem aa7{ms:List aU}(h:1<ms.length):aQ 10 [aj (gj ms 0)] ((fL ms).flatMap gZ)=(iJ ms).flatMap lf:=by
 obtain⟨n,hn⟩:∃n,ms.length=n+1:=⟨ms.length -1,by omega⟩;unfold fL iJ;rw[hn,tQ,iD,iD,dL,dL];have e:((List.range n).map Nat.succ).map (aR ms)=((List.range n).map Nat.succ).map (aR ms):=rfl;have k:∀l:List Nat,((l.map Nat.succ).map (aR ms)).flatMap gZ=((l.map Nat.succ).map λi=>(aR ms i,gj ms i)).flatMap lf:=by
  intro l;induction l with
  |nil=>rfl
  |cons a l ih=>
   rw[iD,iD,iD,dL,dL,ih];have:gj ms (Nat.succ a)=(aR ms (Nat.succ a)).b:=by unfold gj;rw[ar (λq=>Nat.succ_ne_zero a q.1)]
   rw[this];rfl
 rw[k];rfl
theorem ais{w:Nat}(W:dD w)(hw:1000000<w){ms:List aU}(hm:∀p∈ms,fg p)(hl:ms.length<=6\/1000<ms.length)(hl2:ms.length<=2000):Fc w (cT ms)=some (Ik ms):=by
 unfold Fc Ik;rw[M7 W hw hm (by omega) hl2];simp only[aB,bW];by_cases hc:jt ms=0
 case neg=>rw[ar hc,fH hc];rfl
 obtain⟨F,h1⟩:=C3 hm hl hc;have h6:=F.le;have hil:=JB ms;rw[az hc,gp hc,bH,aF,aiR W hw F hc];simp only[aB];rw[show((fL ms).flatMap gZ).length/13=ms.length by rw[dc wO,jk _ (by decide),hil]];by_cases hn:ms.length=1
 ·rw[az hn,aa6 hn,hn];rfl
 have h2:1<ms.length:=by omega
 have e2:¬((Int.ofNat ms.length:Int)=1):=by show¬((ms.length:Int)=1);omega
 rw[ar hn,fH e2,aF];obtain⟨g1,k1,k2,k3⟩:=F.at_ (i:=0) (by omega);have hmp:=hm _ (cG (show 0<ms.length by omega));have gd:=pB (F.wJ _ (cG (show 0<ms.length by omega)));have ho:=Jp gd.1;have hr:cR 5 ms[0].view=true:=by have:=gd.2.2.2;unfold nJ at this;simpa using this
 have hpl:(gN ms).length=ms.length:=by unfold gN;rw[cZ]
 have hix:iK ms[0].aG.order (gN ms) ms[0].view=.ok (aR ms 0).b:=by unfold iX at k1;rw[cN (by omega:0<ms.length)] at k1;simp only[dW] at k1;rw[az h2] at k1;exact k1
 obtain⟨bw,j1,j2,j3,j4⟩:=KY F h2;have h27:=X3 W (by omega) hix hmp.vs (Rj W ho (by omega) (by omega) hmp.vs hr);have hcons:(fL ms).flatMap gZ=gZ (aR ms 0)++((fL ms).drop 1).flatMap gZ:=by
  have hi0:0<(fL ms).length:=by omega
  have:=cX hi0;rw[dX] at this;rw[<-JA ms hi0,<-dL,<-this]
 have hlen:((fL ms).flatMap gZ).length=ms.length*13:=by rw[dc wO,hil]
 have hb0:Nat.blt 0 ((fL ms).flatMap gZ).length=true:=by rw[hlen];simp;omega
 have hb11:Nat.ble 11 ((fL ms).flatMap gZ).length=true:=by rw[hlen];simp;omega
 have d10:∀r:List Value,List.drop 10 (gZ (aR ms 0)++r)=aj (aR ms 0).b::.int .i64 (kX (aR ms 0).aS (aR ms 0).b)::.int .i64 ((eY (fK (aR ms 0).p (aR ms 0).b) (aR ms 0).aS).length:Int)::r:=λ_=>rfl;have d11:∀r:List Value,List.drop 11 (gZ (aR ms 0)++r)=.int .i64 (kX (aR ms 0).aS (aR ms 0).b)::.int .i64 ((eY (fK (aR ms 0).p (aR ms 0).b) (aR ms 0).aS).length:Int)::r:=λ_=>rfl;have t10:List.drop 10 ((fL ms).flatMap gZ)=aj (aR ms 0).b::.int .i64 (kX (aR ms 0).aS (aR ms 0).b)::.int .i64 ((eY (fK (aR ms 0).p (aR ms 0).b) (aR ms 0).aS).length:Int)::((fL ms).drop 1).flatMap gZ:=by rw[hcons,d10]
 have t11:List.drop 11 ((fL ms).flatMap gZ)=.int .i64 (kX (aR ms 0).aS (aR ms 0).b)::.int .i64 ((eY (fK (aR ms 0).p (aR ms 0).b) (aR ms 0).aS).length:Int)::((fL ms).drop 1).flatMap gZ:=by rw[hcons,d11]
 have hat:kX (aR ms 0).aS (aR ms 0).b=(((aR ms 0).aS.length+10:Nat):Int):=by unfold kX;rw[ar (by omega)]
 have l0:=mz F (i:=0) (by omega);have hcl:kc ms<=dk ms 0:=by unfold kc dk;have:=It (x:=fK (aR ms 0).p (aR ms 0).b) (aS:=(aR ms 0).aS);have e:(fK (aR ms 0).p (aR ms 0).b).cF=(aR ms 0).b:=rfl;rw[e] at this;omega
 have hcam:(aR ms 0).aS.length+14<=3000000:=by have:=hcl;unfold kc at this;omega
 have hLL:∀n∈ke ms,1<=n/\n<=3000000:=by intro n hn;unfold ke at hn;obtain⟨i,hi,rfl⟩:=List.mem_map.1 hn;have:=mz F (List.mem_range.1 hi);omega
 have hll:=JU ms;have hat1:kY (ke ms) 1=dk ms 0:=by rw[Ii ms 1 (by omega)];show((dK ms 0+dk ms 0:Nat):Int)=_;show((0+dk ms 0:Nat):Int)=_;omega
 have h67:=aiu (w:=w) (ke ms) hLL (by omega) (by omega) (kc ms:Int) ⟨by omega,by omega⟩ (gN ms) (by omega) (by omega);have hplw:pI (ke ms) (kc ms:Int) (gN ms)=iA ms:=by
  refine List.ext_getElem (by rw[KV,pJ,hpl]) λi q1 q2=>?_;have hi:i<ms.length:=by rw[pJ] at q2;exact q2
  rw[UH _ _ _ (by omega) (by omega),JT,Ii ms i (by omega)];have e1:∀q,(gN ms)[i]'q=⟨ms[i].attr,0,0,ms[i].eK,ms[i].eL⟩:=λq=>by simp only[gN,List.getElem_map]
  rw[e1];have e2:(iA ms)[i]=qw ms i:=by simp[iA]
  rw[e2];unfold qw;rw[(F.at_ hi).1]
 rw[hplw] at h67;have hrow:ae ((bO (ke ms)).length/1) (bO (ke ms))=aD dH (ke ms):=by unfold aD;rw[JD,ky];unfold bO;rw[cZ]
 have h84:=Yk W ms[0].aG.order (l:=iA ms) (by rw[pJ];omega) hmp.vs;rw[show Nat.beq 13 13=true from rfl,eD,hb0,aE,t10];simp only[bh];rw[h27];simp only[aB];rw[aiz hw ms h6];simp only[aB];rw[eD,hb0,aE,t11];simp only[bh,bP];rw[hat,cc,aO (by omega) (by omega),hrow,show(((aR ms 0).aS.length+10:Nat):Int)+4=(kc ms:Int) by unfold kc;omega,h67];simp only[aB];rw[h84,g1] at*;rw[j1];simp only[aB];rw[aE,hb11,jW];rw[<-j3,aa7 h2];rfl
theorem Wk(d:List UInt8):(cP ⟨226,d,[]⟩).length=d.length+4:=by rw[show cP ⟨226,d,[]⟩=[255,UInt8.ofNat (226:Int).toNat,UInt8.ofNat ((d.length+2)/256),UInt8.ofNat ((d.length+2)%256)]++d++[] from rfl];simp
theorem qq{ms:List aU}(F:gu ms){i:Nat}(hi:i<ms.length):yJ (fK ms[i] (gj ms i)) (aR ms i).aS/\(gj ms i).length<=65533/\(gM ms i).length=dk ms i:=by
 obtain⟨g1,k1,k2,k3⟩:=F.at_ hi;have h6:=F.le;have I:=Jz hi k1 F.mem (by omega) k2 k3;have hlen:(gj ms i).length=(aR ms i).b.length->(gM ms i).length=dk ms i:=λh=>by
  unfold gM dk eY;have:∀(x y:ou)(aS:List UInt8),x.cd=y.cd->x.core=y.core->x.cF.length=y.cF.length->(cJ (jO x aS)).length=(cJ (jO y aS)).length:=by
   intro x y aS e1 e2 e3;unfold jO;rw[e1,e2,e3];by_cases h0:y.cF.length=0
   ·rw[az h0,az h0]
   ·rw[ar h0,ar h0];simp only[kR,List.singleton_append,aP];rw[Wk,Wk,e3]
  exact this (fK (aR ms i).p (gj ms i)) (fK (aR ms i).p (aR ms i).b) _ rfl rfl h
 by_cases h0:i=0/\1<ms.length
 ·obtain⟨rfl,h2⟩:=h0;obtain⟨bw,j1,j2,j3,j4⟩:=KY F h2;obtain⟨e1,_⟩:=Rg j1;have hb:=I.cF;have q:(aR ms 0).b.length<=65533:=by
   rcases hb with q|q
   ·have:(aR ms 0).b.length=0:=q;omega
   ·exact q.2
  rw[<-j3] at j2 j4;refine⟨⟨I.app,I.rows,I.cd,I.core,.inr ⟨?_,?_⟩⟩,by omega,hlen j2⟩
  ·show gh.isPrefixOf (gj ms 0)=true;rw[j3,e1];exact pX.2 (rY _ _)
  ·show(gj ms 0).length<=65533;omega
 ·have e:gj ms i=(aR ms i).b:=by unfold gj;rw[ar h0]
  rw[e] at hlen⊢;have hb:=I.cF;refine⟨I,?_,hlen rfl⟩;rcases hb with q|q
  ·have:(aR ms i).b.length=0:=q;omega
  ·exact q.2
theorem Wy{w:Nat}(W:dD w)(hw:1000000<w){ms:List aU}(F:gu ms):xD w (aD lf (iJ ms))=some (aD fo (ct ms)):=by
 have h6:=F.le;have hil:=aa5 ms;have hpl:=rD ms;unfold xD;rw[cI];refine iL (ev:=λi (g:Value->Int->Int->List Value->Option Value)=>g (aD lf (iJ ms)) (iJ ms).length i (((ct ms).take i).flatMap fo)) ms.length ?_ ?_ (by omega)
 ·intro i g hi;have e1:((i:Int)<((iJ ms).length:Int)):=by omega
  have hiI:i<(iJ ms).length:=by omega
  have hiP:i<(ct ms).length:=by omega
  have hmp:=F.mem _ (cG hi);have hic:=hmp.ic;have hco:=hmp.co;obtain⟨I,q1,q2⟩:=qq F hi;obtain⟨g1,_⟩:=F.at_ hi;have og:∀(y:qX×List UInt8)(r:List Value),lf y++r=.int .i64 y.1.p.aG.order::au y.1.p.aG.cj::au y.1.p.aG.bD::au y.1.p.aG.bG::au y.1.p.aG.bj::au y.1.p.aG.first::aj y.1.p.aG.bC::aj y.1.p.aG.cC::aj y.1.p.cd::aj y.1.p.core::aj y.2 ::.int .i64 (kX y.1.aS y.1.b)::.int .i64 ((eY (fK y.1.p y.1.b) y.1.aS).length:Int)::r:=λ_ _=>rfl;have h24:=XX (m:=65533) W I hmp.sK (by omega) ⟨by show ms[i].core.length<=_;omega,by show ms[i].cd.length<=_;omega,q1⟩ (by omega) (kX (aR ms i).aS (aR ms i).b) ((eY (fK (aR ms i).p (aR ms i).b) (aR ms i).aS).length:Int);simp only[aV,e1,aY,aE,bQ];rw[bu Q0 hiI,og,aa4];simp only[bh,bP];have hpw:(ct ms)[i]=gM ms i:=by simp[ct]
  have h59:Fe w (aR ms i).p.aG.order (au (aR ms i).p.aG.cj) (au (aR ms i).p.aG.bD) (au (aR ms i).p.aG.bG) (au (aR ms i).p.aG.bj) (au (aR ms i).p.aG.first) (aj (aR ms i).p.aG.bC) (aj (aR ms i).p.aG.cC) (aj (aR ms i).p.cd) (aj (aR ms i).p.core) (aj (gj ms i)) (kX (aR ms i).aS (aR ms i).b) ((eY (fK (aR ms i).p (aR ms i).b) (aR ms i).aS).length:Int)=some (aj (gM ms i)):=by unfold Fe gM;rw[g1] at h24⊢;refine Eq.trans (bU (λz=>ob z _) h24) ?_;rfl
  rw[h59,aB,show aw (((ct ms).take i).flatMap fo).length=true by rw[dc (k:=1) (λ_=>rfl)];simp;omega,iO hiP,fu,hpw,cc,aO (by omega) (by omega)];rfl
 ·intro g;have e1:¬((ms.length:Int)<((iJ ms).length:Int)):=by omega
  simp only[aV,e1,bN,aF];rw[fe (by omega),dc (k:=1) (λ_=>rfl),gD,ky];rfl
theorem aib{w:Nat}(W:dD w)(hw:1000000<w){ms:List aU}(hm:∀p∈ms,fg p)(hl:ms.length<=6\/1000<ms.length)(hl2:ms.length<=2000):E7 w (cT ms)=some (if jt ms=0 then(aD fo (ct ms),0) else(ae 0 [],jt ms)):=by
 unfold E7;rw[ais W hw hm hl hl2,aB];unfold Ik;by_cases hc:jt ms=0
 ·obtain⟨F,h1⟩:=C3 hm hl hc;rw[az hc,az hc];have hrow:ae (((iJ ms).flatMap lf).length/13) ((iJ ms).flatMap lf)=aD lf (iJ ms):=by
   unfold aD;rw[dc Q0,jk _ (by decide)]
  split
  ·rw[iC];show(bif !ah 0 0 then _ else ob (xD w (ae (((iJ ms).flatMap lf).length/13) ((iJ ms).flatMap lf))) _)=_;rw[hrow,Wy W hw F];rfl
  ·rw[iC];show(bif !ah 0 0 then _ else ob (xD w (ae (((iJ ms).flatMap lf).length/13) ((iJ ms).flatMap lf))) _)=_;rw[hrow,Wy W hw F];rfl
 ·rw[ar hc,ar hc,G9,bW,fH hc];rfl
theorem Vn:∀ls:List (List UInt8),xn (ls.flatMap fo)=some (ls.map λl=>l.map λb=>(b.toNat:Int))
 |[]=>rfl
 |l::ls=>by rw[dL,show fo l++ls.flatMap fo=aj l::ls.flatMap fo from rfl,xn,sw,Vn ls];rfl
theorem PD(l:List UInt8):ae l.length (l.map aX)=aj l:=by unfold aj aD;rw[iv]
theorem aiA(w:Nat)(ls:List (List UInt8))(h0:0<ls.length)(hl:ls.length<=1000)(ht:ls.flatten.length<=1000000000):Fk w (aD fo ls)=some (aj ls.flatten):=by
 have hfl:(ls.flatMap fo).length=ls.length:=by rw[dc (k:=1) (λ_=>rfl),gD]
 show cond (Nat.blt 0 ls.length&&(Nat.beq ls.length (ls.flatMap fo).length&&Nat.ble ls.length 1000)) (ob (xn (ls.flatMap fo)) λls=>cond (Nat.ble ls.flatten.length 1000000000) (some (ae ls.flatten.length (bm ls.flatten))) none) none=_;have e1:(Nat.blt 0 ls.length&&(Nat.beq ls.length (ls.flatMap fo).length&&Nat.ble ls.length 1000))=true:=by rw[hfl];simp;omega
 rw[e1,aE,Vn,aB];have e2:(ls.map λl=>l.map λb=>(b.toNat:Int)).flatten=ls.flatten.map λb=>(b.toNat:Int):=by rw[List.map_flatten]
 rw[e2,cZ,show Nat.ble ls.flatten.length 1000000000=true by rw[gW];exact ht,aE,Iw,PD]
theorem KQ{ms:List aU}(F:gu ms):(ct ms).flatten.length<=18000000:=by
 have h6:=F.le;have:∀l:List Nat,(∀i∈l,i<ms.length)->((l.map (gM ms)).flatten).length<=3000000*l.length:=by
  intro l;induction l with
  |nil=>intro _;exact aL _
  |cons a l ih=>intro h;have:=ih λi hi=>h i (mJ _ hi);have q:=(qq F (h a (by simp))).2.2;have q2:=(mz F (h a (by simp))).2;rw[iD,List.flatten_cons,aP,cm];omega
 have:=this (List.range ms.length) λi hi=>List.mem_range.1 hi;rw[List.length_range] at this;show((List.range ms.length).map (gM ms)).flatten.length<=_;omega
theorem aif{w:Nat}(W:dD w)(hw:1000000<w){ms:List aU}(hm:∀p∈ms,fg p)(hl:ms.length<=6\/1000<ms.length)(hl2:ms.length<=2000):AX w (cT ms)=some (if jt ms=0 then(aj (ct ms).flatten,0) else(ae 0 [],jt ms)):=by
 unfold AX;rw[aib W hw hm hl hl2,aB];by_cases hc:jt ms=0
 ·obtain⟨F,h1⟩:=C3 hm hl hc;have h6:=F.le;have:=KQ F;rw[az hc,az hc];show(bif !ah 0 0 then _ else ob (Fk w (aD fo (ct ms))) _)=_;rw[aiA w _ (by rw[rD];omega) (by rw[rD];omega) (by omega)];rfl
 ·rw[ar hc,ar hc,bW,fH hc];rfl
theorem aic{w:Nat}(l:List UInt8)(hl:l.length<2^40)(hw:l.length<w):rK w (aj l) (aj l)=some true:=by
 unfold rK;rw[cw,cw,show ah (Int.ofNat l.length) (Int.ofNat l.length)=true by rw[bW,bX],bH,aF];refine iL (ev:=λi (g:Value->Value->Int->Option Bool)=>g (aj l) (aj l) i) l.length ?_ ?_ hw
 ·intro i g hi;have e1:((i:Int)<(l.length:Int)):=by omega
  rw[cw];simp only[aV,cf,e1,aY,aE,bQ];rw[nQ hi];simp only[bh,o9];rw[nQ hi];simp only[bh,o9];rw[show ah (l[i].toNat:Int) (l[i].toNat:Int)=true by rw[bW,bX],bH,aF,cc,aO (by omega) (by omega)];rfl
 ·intro g;have e1:¬((l.length:Int)<(l.length:Int)):=by omega
  rw[cw];simp only[aV,cf,e1,bN,aF]
def CA(h:Int)(i:Nat)(p:cL):Int:=if i=0 then p.at_ else p.at_+h
def fN(P:List cL)(i:Nat):Int:=((P.take i).map (·.size)).sum
def sY(h z:Int)(P:List cL)(i:Nat)(p:cL):Bool:=decide (CA h i p=fN P i/\1<=p.size/\p.size<=z -fN P i)
def H9(h z:Int)(P:List cL):Bool:=(List.range P.length).all λi=>match P[i]? with|some p=>sY h z P i p|none=>true
def CD(P:List cL)(h z:Int):Option (List Int):=if H9 h z P=true/\P.length≠0/\fN P P.length=z then some ((List.range (P.length+1)).map (fN P)) else none
theorem OD{P:List cL}{i:Nat}(h:i<P.length):fN P (i+1)=fN P i+P[i].size:=by unfold fN;rw[iO h,gV,List.sum_append];simp
theorem Ij(a b:Int)(h:-1099511627776<=a/\a<=1099511627776)(k:-1099511627776<=b/\b<=1099511627776):ag .i64 (a+b)=a+b/\ag .i64 (a -b)=a -b:=⟨aO (by omega) (by omega),aO (by omega) (by omega)⟩
theorem Se{α γ:Type}{z:α}{F:α->α}{w:Nat}(m:Nat)(ok:Nat->Bool)(r0 r1:γ)(ev:Nat->α->γ)(hs:∀i g,i<m->(∀j,j<i->ok j=true)->ev i (F g)=if ok i=true then ev (i+1) g else r0)(he:∀g,(∀j,j<m->ok j=true)->ev m (F g)=r1)(h:m<w):ev 0 (lp z F w)=if(List.range m).all ok=true then r1 else r0:=by
 have key:∀(d i v:Nat),i+d=m->d<v->(∀j,j<i->ok j=true)->ev i (lp z F v)=if(List.range m).all ok=true then r1 else r0:=by
  intro d;induction d with
  |zero=>
   intro i v hi hv ho;obtain rfl:i=m:=by omega
   rw[eA z F (by omega),he _ ho,az (by rw[ij];exactλj hj=>ho j (List.mem_range.1 hj))]
  |succ d ih=>
   intro i v hi hv ho;rw[eA z F (by omega),hs i _ (by omega) ho];by_cases c:ok i=true
   ·rw[az c,ih (i+1) (v -1) (by omega) (by omega) λj hj=>by
     rcases iE j i with q|q
     ·exact ho j q
     ·rw[show j=i by omega];exact c]
   ·rw[ar c,ar λk=>c (ij.1 k i (List.mem_range.2 (by omega)))]
 exact key m 0 w (by omega) (by omega) λj hj=>by omega
theorem YH{P:List cL}{h z:Int}(hz:0<=z):∀i,i<=P.length->(∀j,j<i->(match P[j]? with|some p=>sY h z P j p|none=>true)=true)->(i:Int)<=fN P i/\fN P i<=z\/i=0/\fN P i=0
 |0,_,_=>.inr ⟨rfl,rfl⟩
 |i+1,hi,ho=>by have h1:=YH hz i (by omega) λj hj=>ho j (by omega);have h2:=ho i (by omega);rw[cN (by omega)] at h2;obtain⟨_,a,b⟩:=oo h2;rw[OD (by omega)];omega
theorem aih{w:Nat}(P:List cL)(hP:∀p∈P,-4294967296<=p.at_/\p.at_<=4294967296/\-4294967296<=p.size/\p.size<=4294967296)(hl:P.length<=5000)(h z:Int)(hh:0<=h/\h<=4294967296)(hz:0<=z/\z<=4294967296)(hw:P.length<w):
 E9 w (dP P) h z=some (match CD P h z with|some l=>(aD dH l,true)|none=>(ae 0 [],false)):=by
 have hlr:∀{β:Type}(K:Nat->Option β),ak (dP P) K=K P.length:=λK=>cI fm P K;unfold E9;rw[hlr];refine(Se (ev:=λi (g:Value->Int->Int->Int->Value->Int->Int->List Value->Option (Value×Bool))=>g (dP P) h z (fN P i) (dP P) P.length i (bO ((List.range i).map (fN P)))) P.length (λi=>match P[i]? with|some p=>sY h z P i p|none=>true) (some (ae 0 [],false)) (if P.length≠0/\fN P P.length=z then some (aD dH ((List.range (P.length+1)).map (fN P)),true) else some (ae 0 [],false)) ?_ ?_ hw).trans ?_
 ·intro i g hi ho;have e1:((i:Int)<(P.length:Int)):=by omega
  have hb:=YH (h:=h) hz.1 i (by omega) ho;obtain⟨p1,p2,p3,p4⟩:=hP _ (cG hi);have w1:=(Ij P[i].at_ h (by omega) (by omega)).1;have w2:=(Ij z (fN P i) (by omega) (by omega)).2;have w3:=(Ij (fN P i) P[i].size (by omega) (by omega)).1;have w4:ag .i64 ((i:Int)+1)=((i+1:Nat):Int):=by rw[aO (by omega) (by omega)];rfl
  simp only[aV,e1,aY,aE,bQ,dP];rw[bu nq hi];simp only[fm,eV,gC,bh,bP,cc,iT,bW,w1,w2,w3,w4,cN hi];have hlen:(bO ((List.range i).map (fN P))).length=i:=by simp[bO]
  have room:aw (bO ((List.range i).map (fN P))).length=true:=by rw[hlen];unfold aw;rw[gW];omega
  have nx:∀v:Int,v=fN P i->bO ((List.range i).map (fN P))++[Value.int .i64 v]=bO ((List.range (i+1)).map (fN P)):=λv e=>by rw[e,List.range_succ,gV];simp[bO]
  have r2:∀v:Int,(aw ([Value.int .i64 v].length/1)&&[Value.int .i64 v].length.beq ([Value.int .i64 v].length/1*1))=true:=λv=>(show(Nat.ble (1/1) 1000000000&&Nat.beq 1 (1/1*1))=true by decide);simp only[r2,room,jj,aE];rw[OD hi];by_cases h0:i=0
  ·have e2:¬((0:Int)<(i:Int)):=by omega
   simp only[e2,bN,aF,sY,CA,az h0];by_cases c1:P[i].at_=fN P i
   ·by_cases c2:1<=P[i].size
    ·by_cases c3:P[i].size<=z -fN P i
     ·rw[nx _ c1];simp[c1,c2,c3,Int.not_lt.2 c2,Int.not_lt.2 c3]
     ·simp[c1,c2,c3,Int.not_lt.2 c2,Int.not_le.1 c3]
    ·simp[c1,c2,Int.not_le.1 c2]
   ·simp[c1]
  ·have e2:(0:Int)<(i:Int):=by omega
   simp only[e2,aY,aE,sY,CA,ar h0];by_cases c1:P[i].at_+h=fN P i
   ·by_cases c2:1<=P[i].size
    ·by_cases c3:P[i].size<=z -fN P i
     ·rw[nx _ c1];simp[c1,c2,c3,Int.not_lt.2 c2,Int.not_lt.2 c3]
     ·simp[c1,c2,c3,Int.not_lt.2 c2,Int.not_le.1 c3]
    ·simp[c1,c2,Int.not_le.1 c2]
   ·simp[c1]
 ·intro g ho;have e1:¬((P.length:Int)<(P.length:Int)):=by omega
  have hlen:(bO ((List.range P.length).map (fN P))).length=P.length:=by simp[bO]
  have room:aw (bO ((List.range P.length).map (fN P))).length=true:=by rw[hlen];unfold aw;rw[gW];omega
  have r2:∀v:Int,(aw ([Value.int .i64 v].length/1)&&[Value.int .i64 v].length.beq ([Value.int .i64 v].length/1*1))=true:=λv=>(show(Nat.ble (1/1) 1000000000&&Nat.beq 1 (1/1*1))=true by decide);have nx:bO ((List.range P.length).map (fN P))++[Value.int .i64 (fN P P.length)]=bO ((List.range (P.length+1)).map (fN P)):=by rw[List.range_succ,gV];simp[bO]
  simp only[aV,e1,bN,aF,hlr,bW,r2,room,jj,aE,nx];by_cases c1:P.length=0
  ·simp[c1]
  ·by_cases c2:fN P P.length=z
   ·simp[c1,c2,aD,JD,bO]
   ·simp[c1,c2]
 ·unfold CD H9;by_cases c:(List.range P.length).all (λi=>match P[i]? with|some p=>sY h z P i p|none=>true)=true
  ·rw[az c];by_cases d:P.length≠0/\fN P P.length=z
   ·rw[az d,az ⟨c,d⟩]
   ·rw[ar d,ar λq=>d q.2]
  ·rw[ar c,ar λq=>c q.1]
theorem Y7{o:Int}{view:List aJ}{b:List UInt8}(h:qQ o view=.ok b)(hm:view.length<=65000):
 ∃r,b=gh++r/\tM r kB=.ok (fV o view,fb (fV o view))/\(o=1\/o=2)/\view.length≠0/\cR 5 view=true/\b.length<=65533:=by
 unfold qQ at h;split at h
 ·cases h
 rename_i h1;split at h
 ·cases h
 rename_i h2;split at h
 ·cases h
 rename_i h3;injection h with h;have hr:cR 5 view=true:=by simpa using h2
 have ho:o=1\/o=2:=by omega
 have h0:view.length≠0:=by omega
 have hh:=OP (o:=o) hr h0 hm;have hlen:=vH hh;refine⟨_,h.symm,OQ ho Ib (by decide) (by simp[fV]) hh (Yq h3),ho,h0,hr,?_⟩;rw[<-h,aP,hlen];have:gh.length=4:=rfl;omega
theorem aiF{w:Nat}(W:dD w)(hw:800000<w){o:Int}{view:List aJ}{b:List UInt8}(h:qQ o view=.ok b)(hv:VS view):Ft w (aj b)=some (o,au view,0):=by
 have hvl:=hv.1;obtain⟨r,hb,hwk,ho,h0,hr,hbl⟩:=Y7 h (by omega);have hp:gh.isPrefixOf b=true:=by rw[hb,pX];exact rY _ _
 have hl4:b.length=r.length+4:=by rw[hb,aP];have:gh.length=4:=rfl;omega
 have hS:(fb (fV o view)).length<100000000:=by
  have T:=Y9 W ho hv hr h0;have h:=BN (fV o view).dE 0 8 T.hd;have hc:gP (fV o view).dE<=2:=by simp[fV,gP,dw,gX]
  have h2:gP (fV o view).dE*(10000+2)<=2*(10000+2):=vT _ hc;have h3:(fb (fV o view)).length=(ji 0 8 (fV o view).dE).length+1:=rfl;omega
 have h117:=MR (w:=w) (b:=r) (sh:=kB) (by omega) (by omega) Ib (λs hs=>by
  have:s=0:=by simp[kB] at hs;omega
  rw[this];decide) (by decide) (by decide) (XU (by omega)) (o:=o) (ds:=(fV o view).dE) (S:=fb (fV o view)) hS hwk
 have h62:vz w (aj b) (cg kB)=some (o,cQ (fV o view).dE,aD bV (fb (fV o view)),0):=by
  have e1:¬((65533:Int)<(b.length:Int)):=by omega
  have e2:¬((b.length:Int)<(4:Int)):=by omega
  have e3:4<=b.length:=by omega
  have h116:xI w (aj b)=some true:=by unfold xI AK;have:ae 4 (List.drop 0 [Value.int IntKind.u8 77,Value.int IntKind.u8 80,Value.int IntKind.u8 70,Value.int IntKind.u8 0])=aj gh:=rfl;rw[this,AY,hp];rfl
  unfold vz;rw[cw];simp only[aV,cf,e1,bN,aF];rw[cw];simp only[e2,bN,aF];rw[h116];simp only[aB,bH,aF];rw[cw];simp only[fW,aL,e3,aY,jj,aE];rw[lM _ (aL _),fe (by rw[eS];omega),show b.drop 4=r by rw[hb];rfl,h117];rfl
 have x1:∀(K:List Value->Option (Int×Value×Int)),aC 3 0 (cQ (fV o view).dE) K=K (cS (.mk view .nil [])++[]):=λK=>bu kH (l:=[.mk view .nil []]) (m:=0) (by show 0<1;omega) K;unfold Ft;rw[show xP w=some (cg kB) from rfl];simp only[aB];rw[h62];simp only[aB];rw[show(!ah 0 0)=false from rfl,aF,x1,sC];simp only[eV,dX,bh];rw[qC (by omega) 5 view (by omega) (λt ht=>by have:=hv.2 t ht;omega) (by omega),hr];simp only[aB,bH,aF];rw[x1,sC];simp only[eV,dX,bh]
def jg(ms:List aU)(i:Nat):List Value:=[.int .i64 (aR ms i).p.aG.order,au (aR ms i).p.aG.cj,au (aR ms i).p.aG.bD,au (aR ms i).p.aG.bG,au (aR ms i).p.aG.bj,au (aR ms i).p.aG.first,aj (aR ms i).p.aG.bC,aj (aR ms i).p.aG.cC,aj (aR ms i).p.cd,aj (aR ms i).p.core,aj (gj ms i),.int .i64 (kX (aR ms i).aS (gj ms i)),.int .i64 (dk ms i:Int)]
theorem Ej(ms:List aU)(i:Nat):(jg ms i).length=13:=rfl
theorem ajo{w:Nat}(W:dD w)(hw:4000000<w){ms:List aU}(F:gu ms){i:Nat}(hi:i<ms.length)(y:List UInt8)(hy:y.length<2^26)(hyw:2*65533+800000+y.length<w):
 rT w (aj (gM ms i++y))=some ((aR ms i).p.aG.order,au (aR ms i).p.aG.cj,au (aR ms i).p.aG.bD,au (aR ms i).p.aG.bG,au (aR ms i).p.aG.bj,au (aR ms i).p.aG.first,aj (aR ms i).p.aG.bC,aj (aR ms i).p.aG.cC,aj (aR ms i).p.cd,aj (aR ms i).p.core,aj (gj ms i),kX (aR ms i).aS (gj ms i),(dk ms i:Int),0):=by
 obtain⟨g1,k1,k2,k3⟩:=F.at_ hi;obtain⟨I,q1,q2⟩:=qq F hi;have hmp:=F.mem _ (cG hi);have hic:=hmp.ic;have hco:=hmp.co;have:=X0 (m:=65533) y hy W I hmp.sK (by omega) ⟨by show ms[i].core.length<=_;omega,by show ms[i].cd.length<=_;omega,q1⟩ hyw;unfold gM at q2⊢;rw[g1] at q2⊢;rw[this,q2];rfl
theorem aaJ{α:Type}(L:List (List α))(i:Nat):L.flatten.drop (L.take i).flatten.length=(L.drop i).flatten:=by
 conv=>lhs;rw[<-lE i L,List.flatten_append]
 rw[lE,List.drop_left]
theorem OC{ms:List aU}(F:gu ms):∀i,i<=ms.length->((ct ms).take i).flatten.length=dK ms i
 |0,_=>rfl
 |i+1,h=>by
  have hi:i<(ct ms).length:=by rw[rD];omega
  have e:(ct ms)[i]=gM ms i:=by simp[ct]
  rw[iO hi,List.flatten_append,aP,OC F i (by omega),e];simp only[List.flatten_cons,List.flatten_nil,dQ];rw[(qq F (show i<ms.length by omega)).2.2];rfl
theorem Ha{ms:List aU}(F:gu ms):(ct ms).flatten.length=dK ms ms.length:=by rw[<-OC F _ (aL _),fe (by rw[rD];exact aL _)]
theorem KO{ms:List aU}(F:gu ms){i:Nat}(hi:i<ms.length):(ct ms).flatten.drop (dK ms i)=gM ms i++((ct ms).drop (i+1)).flatten:=by
 have hp:i<(ct ms).length:=by rw[rD];exact hi
 have e:(ct ms)[i]=gM ms i:=by simp[ct]
 rw[<-OC F i (by omega),aaJ,cX hp,List.flatten_cons,e]
theorem agV{ms:List aU}(F:gu ms){i:Nat}(hi:i<ms.length):((ct ms).flatten.drop (dK ms i)).take (dK ms (i+1) -dK ms i)=gM ms i:=by have q:=(qq F hi).2.2;rw[KO F hi,show dK ms (i+1) -dK ms i=(gM ms i).length by rw[q];show dK ms i+dk ms i -dK ms i=_;omega,List.take_left]
theorem WK{w:Nat}(W:dD w)(hw:4000000<w){ms:List aU}(F:gu ms){i a b:Nat}(hi:i<ms.length){s y:List UInt8}(hab:a<=b)(hb:b<=s.length)(hc:(s.drop a).take (b -a)=gM ms i++y)(hy:y.length<2^26)(hyw:2*65533+800000+y.length<w)(x3:Int)(x4 x5 x6:Value)(x7 x8:List Value)(h8:x8.length<=1000):
 vj w a b (aj s) x3 x4 x5 x6 x7 x8=some (0,aj s,x3,x4,x5,x6,x7,x8++jg ms i):=by
 have e1:(b.ble s.length&&(b.ble b&&a.ble b))=true:=by simp[hab,hb]
 have e2:aw x8.length=true:=by unfold aw;rw[gW];omega
 unfold vj;simp only[cw,bQ,e1,aE];rw[lM _ hb,hc,ajo W hw F hi y hy hyw];simp only[aB,bW,aY,bH,aF];rw[e2];rfl
theorem WL{w:Nat}{ms:List aU}{i k:Nat}(hi:i<k)(hk:k<=1000){P:List cL}(hP:i<P.length)(v s:Value)(x3:Int)(x4 x6:Value)(x7:List Value)(h7:x7.length<=100000):
 qD w i v s x3 x4 (dP P) x6 x7 ((List.range k).flatMap (jg ms))=some (s,x3,x4,dP P,x6,x7++[.int .i64 (aR ms i).p.aG.order,au (aR ms i).p.aG.cj,au (aR ms i).p.aG.bD,au (aR ms i).p.aG.bG,au (aR ms i).p.aG.bj,au (aR ms i).p.aG.first,aj (aR ms i).p.aG.bC,aj (aR ms i).p.aG.cC,aj (aR ms i).p.cd,aj (aR ms i).p.core,.int .i64 P[i].attr,.int .i64 P[i].eK,.int .i64 P[i].eL,v],(List.range k).flatMap (jg ms)):=by
 have hl:((List.range k).flatMap (jg ms)).length=k*13:=by rw[dc (Ej ms),List.length_range]
 have e1:(Nat.beq 13 13&&(i*13).blt ((List.range k).flatMap (jg ms)).length)=true:=by rw[hl];simp;omega
 have e2:((List.range k).flatMap (jg ms)).drop (i*13)=jg ms i++((List.range k).drop (i+1)).flatMap (jg ms):=by rw[mW (Ej ms),cX (by rw[List.length_range];exact hi),dL,List.getElem_range]
 have e3:aw x7.length=true:=by unfold aw;rw[gW];omega
 unfold qD A7;simp only[bQ];rw[e1,aE,gm,e2];simp only[jg,eV,gC,bh,bP];rw[show dP P=aD fm P from rfl,bu nq hP];simp only[fm,eV,gC,bh,bP];rw[e3];rfl
def gO(ms:List aU):List Int:=(List.range (ms.length+1)).map λi=>(dK ms i:Int)
def nS(ms:List aU):List cL:=if ms.length=1 then[⟨0,0,0,0,0⟩] else iA ms
def gy(ms:List aU)(k:Nat):List Value:=(List.range k).flatMap (jg ms)
theorem ag4{ms:List aU}(h:1<=ms.length):(nS ms).length=ms.length:=by
 unfold nS;split
 ·rename_i h1;rw[h1];rfl
 ·exact pJ ms
theorem BZ(ms:List aU):∀i,i<=ms.length->fN (iA ms) i=(dK ms i:Int)
 |0,_=>rfl
 |i+1,h=>by
  have hi:i<(iA ms).length:=by rw[pJ];omega
  rw[OD hi,BZ ms i (by omega),show(iA ms)[i]=qw ms i by simp[iA]];show(dK ms i:Int)+(dk ms i:Int)=((dK ms i+dk ms i:Nat):Int);omega
theorem Zq{ms:List aU}(F:gu ms)(h1:1<=ms.length)(z:Nat):CD (iA ms) (kc ms) z=if z=dK ms ms.length then some (gO ms) else none:=by
 have hl:=pJ ms;unfold CD;by_cases c:z=dK ms ms.length
 ·rw[az c,az]
  ·congr 1
   unfold gO;rw[hl];refine List.map_congr_left λi hi=>?_;have:=List.mem_range.1 hi;exact BZ ms i (by omega)
  ·refine⟨?_,by omega,by rw[hl,BZ ms _ (aL _),c]⟩;unfold H9;rw[ij];intro i hi;have hi:=List.mem_range.1 hi;have hi2:i<ms.length:=by omega
   rw[cN hi];show sY _ _ _ _ _=true;rw[show(iA ms)[i]=qw ms i by simp[iA]];unfold sY;rw[bX,BZ ms i (by omega)];have l1:=mz F hi2;have s1:=BX ms (show i+1<=ms.length by omega);have s2:dK ms (i+1)=dK ms i+dk ms i:=rfl;refine⟨?_,by show(1:Int)<=(dk ms i:Int);omega,by show(dk ms i:Int)<=_;omega⟩;unfold CA qw;by_cases h0:i=0
   ·subst h0;simp;rfl
   ·simp only[ar h0];omega
 ·rw[ar c,ar]
  rintro ⟨_,_,q⟩
  rw[hl,BZ ms _ (aL _)] at q;omega
theorem acq{ms:List aU}(h:ms.length=1):gj ms 0=[]:=by unfold gj;rw[ar (by omega)];show DX (iX ms 0)=[];unfold iX;rw[cN (by omega:0<ms.length)];simp only[dW];rw[ar (by omega)];rfl
theorem WE{w:Nat}{ms:List aU}(h1:ms.length=1)(s:List UInt8)(x1:Int)(x2 x3 x4:Value)(x5:List Value):
 rN w (aj s) x1 x2 x3 x4 x5 (gy ms 1)=some (if dk ms 0=s.length then 0 else 2,aj s,x1,aD dH [0,(s.length:Int)],dP [⟨0,0,0,0,0⟩],x4,x5,gy ms 1):=by
 have e1:(Nat.beq 13 13&&Nat.blt 0 (gy ms 1).length)=true:=rfl;have e2:(gy ms 1).drop 0=jg ms 0++[]:=rfl;unfold rN xH;rw[e1,aE,e2];simp only[jg,eV,gC,bh,bP,cw];rw[acq h1];have e3:ai 0 (Int.ofNat ([]:List UInt8).length)=false:=rfl;rw[e3,aF,bW];by_cases c:dk ms 0=s.length
 ·rw[az c,gp (show(dk ms 0:Int)=Int.ofNat s.length from bU Int.ofNat c)];rfl
 ·rw[ar c,fH (by intro q;exact c (Int.ofNat.inj q))];rfl
theorem ag5{ms:List aU}(F:gu ms)(hcam:kc ms<=3000014):∀p∈iA ms,-4294967296<=p.at_/\p.at_<=4294967296/\-4294967296<=p.size/\p.size<=4294967296:=λp hp=>by
 have h6:=F.le;unfold iA at hp;obtain⟨i,hi,rfl⟩:=List.mem_map.1 hp;have hi:=List.mem_range.1 hi;have l1:=mz F hi;have s1:=BW F i (by omega);unfold qw;by_cases h0:i=0
 ·simp only[az h0];omega
 ·simp only[ar h0];omega
theorem WD{w:Nat}(W:dD w)(hw:4000000<w){ms:List aU}(F:gu ms)(h2:1<ms.length)(s:List UInt8)(hs:s.length<4294967296)(x1:Int)(x2 x3 x4:Value)(x5:List Value):
 rN w (aj s) x1 x2 x3 x4 x5 (gy ms 1)=some (if s.length=dK ms ms.length then(0,aj s,x1,aD dH (gO ms),dP (iA ms),au (aR ms 0).p.view,x5,gy ms 1) else(4,aj s,x1,aD dH [0,(s.length:Int)],dP [⟨0,0,0,0,0⟩],x4,x5,gy ms 1)):=by
 have e1:(Nat.beq 13 13&&Nat.blt 0 (gy ms 1).length)=true:=rfl;have e2:(gy ms 1).drop 0=jg ms 0++[]:=rfl;have h6:=F.le;obtain⟨g1,k1,k2,k3⟩:=F.at_ (i:=0) (by omega);obtain⟨b,b1,b2,b3,b4⟩:=KY F h2;have hmp:=F.mem _ (cG (show 0<ms.length by omega));have hgood:=pB (F.wJ _ (cG (show 0<ms.length by omega)));have ho:=Jp hgood.1;have hr:cR 5 ms[0].view=true:=by have:=hgood.2.2.2;unfold nJ at this;simpa using this
 have h27:=X3 W (by omega) b1 (by rw[g1];exact hmp.vs) (Rj W (by rw[g1];exact ho) (by rw[pJ];omega) (by rw[pJ];omega) (by rw[g1];exact hmp.vs) (by rw[g1];exact hr));have hcam:kc ms<=3000014:=by have:=(mz F (i:=0) (by omega)).2;have:=It (x:=fK (aR ms 0).p (aR ms 0).b) (aS:=(aR ms 0).aS);unfold kc;unfold dk at*;omega
 have hat:kX (aR ms 0).aS (gj ms 0)=(((aR ms 0).aS.length+10:Nat):Int):=by unfold kX;rw[b3,ar (by omega)]
 have h26:=aih (w:=w) (iA ms) (ag5 F hcam) (by rw[pJ];omega) (kc ms) (s.length:Int) (by omega) (by omega) (by rw[pJ];omega);rw[Zq F (by omega)] at h26;unfold rN xH;rw[e1,aE,e2];simp only[jg,eV,gC,bh,bP,cw];rw[b3,show ai 0 (Int.ofNat b.length)=true by rw[aV,bX];show(0:Int)<(b.length:Int);omega,aE,h27];simp only[aB];rw[<-b3,hat,cc,show(((aR ms 0).aS.length+10:Nat):Int)+4=(kc ms:Int) by unfold kc;omega,aO (by omega) (by omega),show(!ah 0 0)=false from rfl,aF];rw[show Int.ofNat s.length=(s.length:Int) from rfl,h26];by_cases c:s.length=dK ms ms.length
 ·rw[az c,az c];have hsl:1<(gO ms).length:=by unfold gO;rw[cZ,List.length_range];omega
  simp only[aB,bH,aF];rw[bu ql hsl];have hs1:(gO ms)[1]=(dk ms 0:Int):=by simp[gO,dK]
  simp only[dH,eV,gC,bh,bP,hs1,bW,aY,bH,aF]
 ·rw[ar c,ar c];simp only[aB,ft,aE];rfl
theorem Vd(ms:List aU)(k:Nat):(gy ms k).length=k*13:=by unfold gy;rw[dc (Ej ms),List.length_range]
theorem aho(ms:List aU){i k:Nat}(hi:i<k):(gy ms k).drop (i*13)=jg ms i++((List.range k).drop (i+1)).flatMap (jg ms):=by unfold gy;rw[mW (Ej ms),cX (by rw[List.length_range];exact hi),dL,List.getElem_range]
theorem aiC{w:Nat}(W:dD w)(hw:70000000<w){ms:List aU}(F:gu ms)(h1:1<=ms.length){P:List cL}(hP:P.length=ms.length)(hp:∀i (h:i<ms.length),P[i].attr=ms[i].attr/\P[i].eK=ms[i].eK/\P[i].eL=ms[i].eL)(x4:Value):
 Fm w (aj (ct ms).flatten) 0 (aD dH (gO ms)) (dP P) (au ms[0].view) [] (gy ms 1)=some ((0:Int),aj (ct ms).flatten,((ms.length -1:Nat):Int),aD dH (gO ms),dP P,au ms[0].view,ms.flatMap dM,gy ms ms.length):=by
 have h6:=F.le;have hall:=Ha F;have htot:=KQ F;have hsl:(gO ms).length=ms.length+1:=by unfold gO;rw[cZ,List.length_range]
 have hsa:∀i (h:i<(gO ms).length),(gO ms)[i]=(dK ms i:Int):=λi h=>by simp[gO]
 have hmem:∀i (h:i<ms.length),[Value.int .i64 (aR ms i).p.aG.order,au (aR ms i).p.aG.cj,au (aR ms i).p.aG.bD,au (aR ms i).p.aG.bG,au (aR ms i).p.aG.bj,au (aR ms i).p.aG.first,aj (aR ms i).p.aG.bC,aj (aR ms i).p.aG.cC,aj (aR ms i).p.cd,aj (aR ms i).p.core,.int .i64 (P[i]'(by omega)).attr,.int .i64 (P[i]'(by omega)).eK,.int .i64 (P[i]'(by omega)).eL,au ms[i].view]=dM ms[i]:=λi h=>by obtain⟨a,b,c⟩:=hp i h;rw[a,b,c,(F.at_ h).1];rfl
 unfold Fm;have h0:=WL (w:=w) (ms:=ms) (i:=0) (k:=1) (by omega) (by omega) (P:=P) (by omega) (au ms[0].view) (aj (ct ms).flatten) 0 (aD dH (gO ms)) (au ms[0].view) [] (by simp);rw[hmem 0 (by omega)] at h0;rw[show gy ms 1=(List.range 1).flatMap (jg ms) from rfl,show qD w 0 (au ms[0].view)=qD w ((0:Nat):Int) (au ms[0].view) from rfl,h0];simp only[aB];have ht0:([]:List Value)++dM ms[0]=(ms.take (0+1)).flatMap dM:=by rw[iO (show 0<ms.length by omega)];simp
 rw[ht0];refine iL (w:=w) (ev:=λj (g:Int->Value->Int->Value->Value->Value->List Value->List Value->Option (Int×Value×Int×Value×Value×Value×List Value×List Value))=>g ((j+1:Nat):Int) (aj (ct ms).flatten) (j:Int) (aD dH (gO ms)) (dP P) (au ms[0].view) ((ms.take (j+1)).flatMap dM) (gy ms (j+1))) (ms.length -1) ?_ ?_ (by omega)
 ·intro j g hj;have hi:j+1<ms.length:=by omega
  have e1:(((j+1:Nat):Int)<(P.length:Int)):=by omega
  have w1:ag .i64 (((j+1:Nat):Int)+1)=((j+1+1:Nat):Int):=by rw[aO (by omega) (by omega)];rfl
  have s1:=BX ms (show j+1+1<=ms.length by omega);have s2:dK ms (j+1+1)=dK ms (j+1)+dk ms (j+1):=rfl;have hcut:=agV F hi;have hjm:j+1<=6:=by omega
  have h207:=WK (w:=w) W (by omega) F (i:=j+1) (a:=dK ms (j+1)) (b:=dK ms (j+1+1)) hi (s:=(ct ms).flatten) (y:=[]) (by omega) (by omega) (by rw[dQ];exact hcut) (by decide) (by rw[List.length_nil];omega) ((j+1:Nat):Int) (aD dH (gO ms)) (dP P) (au ms[0].view) ((ms.take (j+1)).flatMap dM) (gy ms (j+1)) (by rw[Vd];omega);have him:gy ms (j+1)++jg ms (j+1)=gy ms (j+1+1):=by
   unfold gy
   conv=>rhs;rw[List.range_succ,fu,dL,lD,dQ]
  rw[him] at h207;have e2:(Nat.beq 13 13&&((j+1)*13).blt (gy ms (j+1+1)).length)=true:=by rw[Vd];simp
  have e3:((dK ms (j+1+1):Int) -(dK ms (j+1):Int))=(dk ms (j+1):Int):=by omega
  have l1:=mz F hi;have w2:ag .i64 (dk ms (j+1):Int)=(dk ms (j+1):Int):=aO (by omega) (by omega);have ht:(ms.take (j+1+1)).flatMap dM=(ms.take (j+1)).flatMap dM++dM ms[j+1]:=by rw[iO hi,fu,dL,lD,dQ]
  have h208:=λv=>WL (w:=w) (ms:=ms) (i:=j+1) (k:=j+1+1) (by omega) (by omega) (P:=P) (by omega) v (aj (ct ms).flatten) ((j+1:Nat):Int) (aD dH (gO ms)) (au ms[0].view) ((ms.take (j+1)).flatMap dM) (by rw[dc kL,dJ];omega);obtain⟨g1,k1,k2,k3⟩:=F.at_ hi;have hmp:=F.mem _ (cG hi);simp only[show dP P=aD fm P from rfl,cI,aV,cf,e1,aY,aE,bQ,cc,w1];rw[bu ql (show j+1<(gO ms).length by omega),hsa];simp only[dH,eV,gC,bh,bP];rw[bu ql (show j+1+1<(gO ms).length by omega),hsa];simp only[dH,eV,gC,bh,bP];rw[show aD fm P=dP P from rfl,h207];simp only[aB];rw[show(!ah (0:Int) 0)=false from rfl,aF,e2,aE,gm,aho ms (by omega)];simp only[jg,eV,gC,bh,bP,cw];rw[bu ql (show j+1+1<(gO ms).length by omega),hsa];simp only[dH,eV,gC,bh,bP];rw[bu ql (show j+1<(gO ms).length by omega),hsa];simp only[dH,eV,gC,bh,bP,iT,e3,w2,bW,aY,bH,aF];have hb:gj ms (j+1)=(aR ms (j+1)).b:=by unfold gj;rw[ar (by omega)]
  have k4:(if ms[j+1].view.length=0 then(.ok []:Except Int (List UInt8)) else qQ ms[j+1].aG.order ms[j+1].view)=.ok (aR ms (j+1)).b:=by have:=k1;unfold iX at this;rw[cN hi] at this;simp only[ar (show¬(j+1=0) by omega)] at this;exact this
  rw[hb];by_cases h0:ms[j+1].view.length=0
  ·rw[az h0] at k4;injection k4 with k4;rw[<-k4,show decide ((0:Int)<(([]:List UInt8).length:Nat))=false from rfl,aF,show ae 0 []=au ms[j+1].view by rw[oX.1 h0];rfl];rw[show gy ms (j+1+1)=(List.range (j+1+1)).flatMap (jg ms) from rfl,h208,hmem _ hi,<-ht];rfl
  ·rw[ar h0] at k4;obtain⟨r,hbr,_⟩:=Y7 k4 (by have:=hmp.vs.1;omega);have hbl:0<(aR ms (j+1)).b.length:=by rw[hbr,aP];have:gh.length=4:=rfl;omega
   rw[gp (show(0:Int)<((aR ms (j+1)).b.length:Int) by omega),aE,aiF W (by omega) k4 hmp.vs];simp only[aB];simp only[aY,bH,aF];rw[show gy ms (j+1+1)=(List.range (j+1+1)).flatMap (jg ms) from rfl,h208,hmem _ hi,<-ht];rfl
 ·intro g;have e1:¬(((ms.length -1+1:Nat):Int)<(P.length:Int)):=by omega
  simp only[show dP P=aD fm P from rfl,cI,aV,cf,e1,bN,aF];rw[show ms.length -1+1=ms.length by omega,fe (aL _)]
theorem Uj{ms:List aU}(hm:∀p∈ms,fg p)(h6:ms.length<=6)(h1:ms.length=1)(hc:(gS ms).1 =0):ms[0].attr=0/\ms[0].eK=0/\ms[0].eL=0/\ms[0].view=[]:=by
 have:=((QG hm (by omega) h6).1 hc).2
 match ms,h1 with
 |[p],_=>simp[wo] at this;exact this
theorem akH{ms:List aU}(h1:ms.length=1):gO ms=[0,(dk ms 0:Int)]:=by
 unfold gO;rw[h1];show[((dK ms 0:Nat):Int),((dK ms 1:Nat):Int)]=_;have:dK ms 1=dk ms 0:=by show 0+dk ms 0=_;omega
 rw[this];rfl
theorem MP{w:Nat}(W:dD w)(hw:70000000<w){ms:List aU}(F:gu ms)(h1:1<=ms.length){s y:List UInt8}(hc:s=gM ms 0++y)(hy:y.length<2^25)(x1:Int)(x2 x3 x4:Value)(x5:List Value):
 A3 w (aj s) x1 x2 x3 x4 x5 []=some (0,aj s,x1,x2,x3,x4,x5,gy ms 1):=by
 have q:=(qq F (i:=0) (by omega)).2.2;have l:=mz F (i:=0) (by omega);have hs:s.length=dk ms 0+y.length:=by rw[hc,aP,q]
 have e1:¬((4294967295:Int)<(s.length:Int)):=by omega
 unfold A3;simp only[cw,aV,cf,e1,bN,aF];have h:=WK (w:=w) W (by omega) F (i:=0) (a:=0) (b:=s.length) (by omega) (s:=s) (y:=y) (by omega) (by omega) (by rw[dX,Nat.sub_zero,oZ];exact hc) (by omega) (by omega) x1 x2 x3 x4 x5 [] (by simp);rw[show((0:Nat):Int)=0 from rfl] at h;rw[h];rfl
theorem aiw{w:Nat}(W:dD w)(hw:70000000<w){ms:List aU}(F:gu ms)(h1:1<=ms.length)(hc:jt ms=0)(hf:(gS ms).1 =0):
 vh w (aj (ct ms).flatten)=some ((0:Int),aj (ct ms).flatten,(gS ms).2,aD dH (gO ms),dP (nS ms),au ms[0].view,ms.flatMap dM,gy ms ms.length):=by
 have h6:=F.le;have hall:=Ha F;have htot:=KQ F;have hcut:(ct ms).flatten=gM ms 0++((ct ms).drop 1).flatten:=by have:=KO F (i:=0) (by omega);rwa[show dK ms 0=0 from rfl,dX] at this
 have hyl:((ct ms).drop 1).flatten.length<=(ct ms).flatten.length:=by have:=bU List.length hcut;rw[aP] at this;omega
 have hql:=ag4 h1;have hidx:rN w (aj (ct ms).flatten) 0 (ae 0 []) (ae 0 []) (ae 0 []) [] (gy ms 1)=some ((0:Int),aj (ct ms).flatten,(0:Int),aD dH (gO ms),dP (nS ms),au ms[0].view,([]:List Value),gy ms 1):=by
  by_cases h2:ms.length=1
  ·have e:dk ms 0=(ct ms).flatten.length:=by rw[hall,h2];show dk ms 0=0+dk ms 0;omega
   rw[WE h2,az e,akH h2,e,(Uj F.mem h6 h2 hf).2.2.2];unfold nS;rw[az h2];rfl
  ·rw[WD W (by omega) F (by omega) _ (by omega),az hall,(F.at_ (i:=0) (by omega)).1];unfold nS;rw[ar h2]
 have hoth:=aiC W hw F h1 (P:=nS ms) hql (λi h=>by
  by_cases h2:ms.length=1
  ·have:=Uj F.mem h6 h2 hf;obtain rfl:i=0:=by omega
   have e:(nS ms)[0]'(by omega)=⟨0,0,0,0,0⟩:=by unfold nS;simp[h2]
   rw[e];exact⟨this.1.symm,this.2.1.symm,this.2.2.1.symm⟩
  ·have e:(nS ms)[i]'(by omega)=qw ms i:=by simp[nS,h2,iA]
   rw[e];unfold qw;rw[(F.at_ h).1];exact⟨rfl,rfl,rfl⟩) (ae 0 [])
 have hmv:ae ((ms.flatMap dM).length/14) (ms.flatMap dM)=cT ms:=by unfold cT aD;rw[dc kL,jk _ (by decide)]
 have hlim:Fo w (aj (ct ms).flatten) ((ms.length -1:Nat):Int) (aD dH (gO ms)) (dP (nS ms)) (au ms[0].view) (ms.flatMap dM) (gy ms ms.length)=some ((0:Int),aj (ct ms).flatten,(gS ms).2,aD dH (gO ms),dP (nS ms),au ms[0].view,ms.flatMap dM,gy ms ms.length):=by unfold Fo;rw[hmv,Ym W (by omega) F.mem (by omega) (by omega),M7 W (by omega) F.mem (by omega) (by omega),hc];rfl
 unfold vh;rw[MP W hw F h1 hcut (by omega)];simp only[aB];rw[show(!ah (0:Int) 0)=false from rfl,aF,hidx];simp only[aB];rw[show(!ah (0:Int) 0)=false from rfl,aF,hoth];simp only[aB];rw[show(!ah (0:Int) 0)=false from rfl,aF,hlim];rfl
theorem ain{w:Nat}(W:dD w)(hw:70000000<w){ms:List aU}(F:gu ms)(h1:1<=ms.length)(hc:jt ms=0)(hf:(gS ms).1 =0):lA w (aj (ct ms).flatten)=some (cT ms,0,0):=by unfold lA;rw[aiw W hw F h1 hc hf];simp only[aB];rw[show(!ah (0:Int) 0)=false from rfl,aF,dc kL,jk _ (by decide)];rfl
theorem Wx{w:Nat}(W:dD w)(hw:70000000<w){ms:List aU}(F:gu ms)(h2:1<ms.length){s y:List UInt8}(hs:s=gM ms 0++y)(hy:y.length<2^25)(hn:s.length≠dK ms ms.length):lA w (aj s)=some (ae 0 [],0,4):=by
 have l:=mz F (i:=0) (by omega);have q:=(qq F (i:=0) (by omega)).2.2;have hl:s.length=dk ms 0+y.length:=by rw[hs,aP,q]
 unfold lA vh;rw[MP W hw F (by omega) hs hy];simp only[aB];rw[show(!ah (0:Int) 0)=false from rfl,aF,WD W (by omega) F h2 _ (by omega),ar hn];rfl
theorem aio{w:Nat}(W:dD w)(hw:70000000<w){ms:List aU}(F:gu ms)(h1:ms.length=1){s y:List UInt8}(hs:s=gM ms 0++y)(hy:y.length<2^25)(hn:y≠[]):lA w (aj s)=some (ae 0 [],0,2):=by
 have l:=mz F (i:=0) (by omega);have q:=(qq F (i:=0) (by omega)).2.2;have hl:s.length=dk ms 0+y.length:=by rw[hs,aP,q]
 have hy0:y.length≠0:=λh=>hn (oX.1 h);unfold lA vh;rw[MP W hw F (by omega) hs hy];simp only[aB];rw[show(!ah (0:Int) 0)=false from rfl,aF,WE h1,ar (by omega)];rfl
theorem ajZ(w:Nat)(a b:Value):Oa w a b=rV w a b:=rfl
theorem aix{w:Nat}{p:aU}(h:fg p)(hw:10000<w):Fi w p.aG.order (au p.aG.cj) (au p.aG.bD) (au p.aG.bG) (au p.aG.bj) (au p.aG.first) (aj p.aG.bC) (aj p.aG.cC) (aj p.cd) (aj p.core) p.attr p.eK p.eL (au p.view) p.aG.order (au p.aG.cj) (au p.aG.bD) (au p.aG.bG) (au p.aG.bj) (au p.aG.first) (aj p.aG.bC) (aj p.aG.cC) (aj p.cd) (aj p.core) p.attr p.eK p.eL (au p.view)=some true:=by have hv:=h.tv.1;unfold Fi;rw[ajY h.sK hw,ye,ye,ajZ,yf _ (by omega) (by omega)];simp only[aY,aE,aB,bW]
theorem aiq{w:Nat}{ms:List aU}(hm:∀p∈ms,fg p)(hl:ms.length<=2000)(hw:10000<w):Fb w (cT ms) (cT ms)=some true:=by
 have hlr:∀(K:Nat->Option Bool),ak (cT ms) K=K ms.length:=λK=>cI dM ms K;unfold Fb MJ;rw[hlr,hlr,show ah (Int.ofNat ms.length) (Int.ofNat ms.length)=true by rw[bW,bX],bH,aF,hlr];refine(bU (λz:Option Bool=>ob z λx2=>some x2) (?_:_=some true)).trans rfl;refine iL (ev:=λi (g:Value->Value->Int->Int->Option Bool)=>g (cT ms) (cT ms) ms.length i) ms.length ?_ ?_ (by omega)
 ·intro i g hi;have e1:((i:Int)<(ms.length:Int)):=by omega
  simp only[aV,e1,aY,aE,bQ];rw[show cT ms=aD dM ms from rfl,bu kL hi,nc];simp only[bh,bP];rw[bu kL hi,nc];simp only[bh,bP];rw[aix (hm _ (cG hi)) hw];simp only[aB,bH,aF,cc];rw[aO (by omega) (by omega)];rfl
 ·intro g;have e1:¬((ms.length:Int)<(ms.length:Int)):=by omega
  simp only[aV,e1,bN,aF]
theorem ajm{w:Nat}(b:List UInt8)(hb:b.length<2^28)(hw:b.length+10<w){a:Nat}{e:Int}(h:ofM b=.bad a e)(he:e≠0):rT w (aj b)=some (0,ae 0 [],ae 0 [],ae 0 [],ae 0 [],ae 0 [],ae 0 [],ae 0 [],ae 0 [],ae 0 [],ae 0 [],0,0,e):=by unfold rT;rw[GP _ hb hw,h];simp only[aB,bW,fH he,ft,aE]
theorem ail{w:Nat}(b:List UInt8)(hb:b.length<2^28)(hw:b.length+10<w){a:Nat}{e:Int}(h:ofM b=.bad a e)(he:e≠0):lA w (aj b)=some (ae 0 [],0,e):=by
 have e1:¬((4294967295:Int)<(b.length:Int)):=by omega
 have e2:(b.length.ble b.length&&(b.length.ble b.length&&Nat.ble 0 b.length))=true:=by simp
 have h207:vj w 0 (b.length:Int) (aj b) 0 (ae 0 []) (ae 0 []) (ae 0 []) [] []=some (e,aj b,0,ae 0 [],ae 0 [],ae 0 [],[],[]):=by unfold vj;simp only[cw,bQ];rw[show∀K:Nat->Option (Int×Value×Int×Value×Value×Value×List Value×List Value),ax 0 K=K 0 fromλK=>bQ 0 K];simp only[e2,aE];rw[lM _ (aL _),dX,Nat.sub_zero,oZ,ajm b hb hw h he];simp only[aB,bW,fH he,ft,aE]
 unfold lA vh A3;simp only[cw,aV,cf,e1,bN,aF];rw[h207];simp only[aB,bW,fH he,ft,aE,aY]
theorem aim{w:Nat}(W:dD w)(hw:70000000<w){ms:List aU}(F:gu ms){i:Nat}(hi:i<ms.length):lA w (aj (gM ms i).dropLast)=some (ae 0 [],0,3):=by
 obtain⟨I,q1,q2⟩:=qq F hi;obtain⟨g1,k1,k2,k3⟩:=F.at_ hi;have l:=mz F hi;obtain⟨-,hp1,hp2,hp3,hp4⟩:=yU I.app I.rows;have hmay:kK (jO (fK ms[i] (gj ms i)) (aR ms i).aS)=true:=Jy I.core hp2 I.cd (by rcases I.cF with q|q;omega;exact q.2);have hlen:(gM ms i).dropLast.length<=3000000:=by rw[List.length_dropLast];omega
 refine ail _ (by omega) (by omega) (a:=(gM ms i).dropLast.length) (e:=3) ?_ (by decide);unfold gM eY;rw[g1];exact acG hmay
theorem aik(k:Nat):xA (k+1000)=some true:=by kernel_rfl
theorem aij{w:Nat}(hw:1000<=w):xA w=some true:=by obtain⟨k,rfl⟩:∃k,w=k+1000:=⟨w -1000,by omega⟩;exact aik k
theorem xE{w:Nat}(l:List aJ)(hl:l.length<2^63)(hw:l.length<w):rL w (au l)=some (mg l):=(show rL w (au l)=X4 w (au l) from rfl).trans (ajA l hl hw)
def w8(ms:List aU)(j:Nat):Bool:=match ms[j]? with|some p=>!B8 p|none=>true
def B7(ms:List aU):Bool:=!(List.range (min 7 ms.length)).all (w8 ms)||decide (6<ms.length)
theorem ak4{ms:List aU}(h:B7 ms=false):ms.length<=6/\∀p∈ms,fg p:=by unfold B7 at h;rw[Bool.or_eq_false_iff,gE,Bool.not_eq_false',ij] at h;obtain⟨h1,h2⟩:=h;refine⟨by omega,λp hp=>?_⟩;obtain⟨i,hi,rfl⟩:=List.mem_iff_getElem.1 hp;have:=h1 i (List.mem_range.2 (by omega));unfold w8 at this;rw[cN hi] at this;exact ak5 (by simpa using this)
theorem aii{w:Nat}(hw:10<=w){ms:List aU}(B:Hr w ms):Fa w (cT ms)=some (B7 ms):=by
 have hb:=B.n;have hlr:∀K:Nat->Option Bool,ak (cT ms) K=K ms.length:=λK=>cI dM ms K;unfold Fa;refine(Se (ev:=λi (g:Int->Value->Option Bool)=>g i (cT ms)) (min 7 ms.length) (w8 ms) (some true) (some (decide (6<ms.length))) ?_ ?_ (by omega)).trans ?_
 ·intro i g hi _;have hiL:i<ms.length:=by omega
  have e1:((i:Int)<(ms.length:Int)):=by omega
  have e2:((i:Int)<7):=by omega
  have hB:=B.rows _ (cG hiL);have b0:=hB ms[i].aG.cj (by simp);have b2:=hB ms[i].aG.bD (by simp);have b3:=hB ms[i].aG.bG (by simp);have b4:=hB ms[i].aG.bj (by simp);have b1:=hB ms[i].aG.first (by simp);have bv:=hB ms[i].view (by simp);have hok:w8 ms i=!B8 ms[i]:=by unfold w8;rw[cN hiL]
  rw[hok];simp only[hlr,aV,cf,e1,e2,aY,aE,bQ];rw[show cT ms=aD dM ms from rfl,bu kL hiL,nc];simp only[bh,bP];rw[xE _ b0.1 b0.2,xE _ b2.1 b2.2,xE _ b3.1 b3.2,xE _ b4.1 b4.2,xE _ b1.1 b1.2,xE _ bv.1 bv.2];simp only[aB];rw[cc,aO (by omega) (by omega)];unfold B8;cases mg ms[i].aG.cj
  case true=>rfl
  cases mg ms[i].aG.bD
  case true=>rfl
  cases mg ms[i].aG.bG
  case true=>rfl
  cases mg ms[i].aG.bj
  case true=>rfl
  cases mg ms[i].aG.first
  case true=>rfl
  cases mg ms[i].view
  case true=>rfl
  simp only[aF,yG];rw[cw,cw,cw,cw];have dd:∀n:Nat,decide ((2000:Int)<(n:Int))=decide (2000<n):=by intro n;rw[ig,bX,bX];omega
  rw[dd,dd,dd,dd];cases decide (2000<ms[i].aG.bC.length)
  case true=>rfl
  cases decide (2000<ms[i].aG.cC.length)
  case true=>rfl
  cases decide (2000<ms[i].cd.length)
  case true=>rfl
  cases decide (2000<ms[i].core.length)
  case true=>rfl
  rfl
 ·intro g _;have dd:ai 6 (Int.ofNat ms.length)=decide (6<ms.length):=by
   rw[aV,ig,bX,bX,cf];omega
  simp only[hlr];rw[dd];by_cases h:ms.length<=7
  ·have e1:¬(((min 7 ms.length:Nat):Int)<(ms.length:Int)):=by omega
   simp only[aV,cf,e1,bN,aF]
  ·have e1:(((min 7 ms.length:Nat):Int)<(ms.length:Int)):=by omega
   have e2:¬(((min 7 ms.length:Nat):Int)<7):=by omega
   simp only[aV,cf,e1,e2,bN,aY,aF,aE]
 ·unfold B7;cases h:(List.range (min 7 ms.length)).all (w8 ms) with
  |true=>rw[az rfl];rfl
  |false=>rw[ar (by simp)];rfl
theorem air(w:Nat)(l:List UInt8)(h0:0<l.length)(hl:l.length<=1000000000):xC w (aj l)=some (l.map aX):=by
 have hn:=nextslicecap_le (need:=0+l.length) (old:=0) (by omega);unfold xC;rw[gY,iv,show((l.map aX).length.beq (l.length*1)&&(Nat.ble 0 0&&Nat.beq 5 5))=true by simp,aE];rw[show(0+l.length).ble 0=false by cases h:(0+l.length).ble 0 with|false=>rfl|true=>have:=dY h;omega,aF]
 rw[show(aw l.length&&(aw 0&&(Builtin.nextslicecap (0+l.length) 0).ble 5000000000))=true by
  have a:aw l.length=true:=by simp;omega
  have b:(Builtin.nextslicecap (0+l.length) 0).ble 5000000000=true:=by rw[gW];omega
  rw[a,b];rfl,aE]
 rfl
end Lt
end Go.Proofs.YtcfjfbeadhnknaaGreatDoor

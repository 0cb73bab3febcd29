import Derived.Deep.Slices
import Derived.Deep.Fields
import Derived.OpenShut
import Derived.ProofKit
import Derived.ChangeSame
import Derived.Test.YtcfjfbeadhnknaaGreatDoorDG
namespace Go.Proofs.YtcfjfbeadhnknaaGreatDoor
set_option linter.unusedVariables false
set_option linter.unusedSimpArgs false
set_option linter.unusedSectionVars false
set_option linter.constructorNameAsVariable false
set_option maxRecDepth 100000
set_option maxHeartbeats 2000000
namespace Lt
noncomputable def S6(w:Nat)(x0:Int)(x1 x3 x5 x7:H1):Hx (Int×H1×H1×Bool):=
 ob (kK w 45058 7 x3 x5 x7) λ(x78:H1×H1×H1×H1)=>ob (kK w 45057 4 x78.snd.fst x78.snd.snd.fst x78.snd.snd.snd) λ(x79:H1×H1×H1×H1)=>ob (jS w x79.fst 0 4 2) λ(x80:Int×Bool)=>bif !x80.snd then some (0,ae 0 [],ae 0 [],false) else bif ak x80.fst 2 then some (0,ae 0 [],ae 0 [],false) else aw x78.fst λ(x81:Nat)=>bif !aj (Int.ofNat x81) (ah IntKind.i64 (Int.mul 16 x80.fst)) then some (0,ae 0 [],ae 0 [],false) else ob (kK w 45057 4 x79.snd.fst x79.snd.snd.fst x79.snd.snd.snd) λ(x82:H1×H1×H1×H1)=>aw x82.fst λ(x83:Nat)=>bif !aj (Int.ofNat x83) 4 then some (0,ae 0 [],ae 0 [],false) else ob (kK w 45056 7 x82.snd.fst x82.snd.snd.fst x82.snd.snd.snd) λ(x84:H1×H1×H1×H1)=>dQ 1 x84.fst λ(x85:Nat)(x86:qr H1)=>ob (pS x86) λ(x87:qr Int)=>bif !mI (mkStr x87).data.toList (ByteArray.mk #[48,49,48,48]).data.toList then some (0,ae 0 [],ae 0 [],false) else lp KY (AJ w) w x78.fst 0 x0 x1 0 (ae 0 []) x0 (ae 0 []) [] []
theorem Lq{w:Nat}(hw:5<=w)(b:qr UInt8)(hb:b.length<2^50){o:Int}(ho:o=1\/o=2)(p s:Nat)(hs:s=2\/s=4)(hp:p+s<=b.length):jS w (ag b) (p:Int) (s:Int) o=some ((ct b p s o:Int),true):=by have:=xH (l:=b) (p:=p) (s:=s) (order:=o) (by omega) ho (by omega);unfold ct;rw[Cd hw b (by omega) _ _ _ (by omega),this];simp
theorem ajx{w:Nat}(hw:5<=w)(b:qr UInt8)(hb:b.length<2^50){o:Int}(ho:o=1\/o=2)(p:Nat)(hp:p+16<=b.length):Ce w (ag b) (p:Int) o=some ((nR b p o).attr,(nR b p o).size,(nR b p o).at_,(nR b p o).dO,(nR b p o).dP):=by have n4:∀q:Nat,q+4<=b.length->jS w (ag b) (q:Int) 4 o=some ((ct b q 4 o:Int),true):=λq hq=>Lq hw b hb ho q 4 (.inr rfl) hq;have n2:∀q:Nat,q+2<=b.length->jS w (ag b) (q:Int) 2 o=some ((ct b q 2 o:Int),true):=λq hq=>Lq hw b hb ho q 2 (.inl rfl) hq;unfold Ce Cn lA;simp only[aA,cc];rw[aP (n:=(p:Int)+4) (by omega) (by omega),aP (n:=(p:Int)+4+4) (by omega) (by omega),aP (n:=(p:Int)+4+4+4) (by omega) (by omega),aP (n:=(p:Int)+4+4+4+2) (by omega) (by omega)];rw[show(p:Int)+4+4+4+2=((p+14:Nat):Int) by omega,show(p:Int)+4+4+4=((p+12:Nat):Int) by omega,show(p:Int)+4+4=((p+8:Nat):Int) by omega,show(p:Int)+4=((p+4:Nat):Int) by omega];rw[n4 p (by omega),n4 (p+4) (by omega),n4 (p+8) (by omega),n2 (p+12) (by omega),n2 (p+14) (by omega)];simp only[aA];rfl
theorem Mm(b:qr UInt8)(o:Int):∀(n p:Nat),(placesOf b o p n).length=n
 |0,_=>rfl
 |n+1,p=>by show(placesOf b o (p+16) n).length+1=n+1;rw[Mm]
theorem VA(b:qr UInt8)(o:Int):∀(n p i:Nat)(h:i<(placesOf b o p n).length),(placesOf b o p n)[i]=nR b (p+16*i) o
 |0,_,i,h=>absurd h (Nat.not_lt_zero _)
 |n+1,p,0,h=>rfl
 |n+1,p,i+1,h=>by
  show(placesOf b o (p+16) n)[i]'(by simpa[placesOf] using h)=_
  rw[VA b o n (p+16) i]
  congr 1
  omega
def wR:qr aV->qr aL->qr aL
 |[],v=>v
 | .mk tags _ _::r,_=>wR r tags
theorem ab0{w:Nat}(ds:qr aV)(hw:ds.length<w)(hl:ds.length<1000)(o x0:Int)(a:H1)(P:qr cK)(c:qr H1)(v:qr aL):
 lp S8 Es w (aB dw ds) ds.length 0 x0 a o (ar v) c (P.flatMap ff)=some (o,dY P,ar (wR ds v),true):=by
 refine nN (σ:=qr aL) (ev:=λi s (k:Db)=>k (aB dw ds) ds.length i x0 a o (ar s) c (P.flatMap ff)) (Inv:=λi s=>wR (ds.drop i) s=wR ds v) ds.length v ?_ ?_ ?_ hw
 ·rw[ew]
 ·intro i g s hi hI;rw[dk hi] at hI;have e1:((i:Int)<(ds.length:Int)):=by omega
  obtain⟨⟨tags,subs,blob⟩,hd⟩:∃d,ds[i]=d:=⟨_,rfl⟩;rw[hd] at hI;refine⟨tags,hI,?_⟩;unfold Es yA;simp only[aU,e1,aY,aE,bP];rw[bn kW hi,hd,Al];simp only[aX,cc];rw[aP (by omega) (by omega)];rfl
 ·intro g s hI;rw[rG,wR] at hI;subst hI;have e1:¬((ds.length:Int)<(ds.length:Int)):=by omega
  unfold Es yA;simp only[aU,e1,bL,aD];rw[da mU,ja _ (by decide)];rfl
theorem ab1{w:Nat}{d:qr UInt8}{n:Nat}(hd:d.length=16*n)(hn:n<10000){o:Int}(ho:o=1\/o=2)(D0:aV)(ds:qr aV)(hl:ds.length<900)(hw:200000<w)(x0:Int)(a b:H1)(c:qr H1)(v:qr aL)(y:Int):
 ∃q:Unit,lp KY (AJ w) w (ag d) 0 o (dc (D0::ds)) x0 a o (ar v) c []=some (o,dY (placesOf d o 0 n),ar (wR ds v),true):=by
 refine⟨(),?_⟩;refine gO (ev:=λi (k:Da)=>k (ag d) ((16*i:Nat):Int) o (dc (D0::ds)) x0 a o (ar v) c (((placesOf d o 0 n).take i).flatMap ff)) n ?_ ?_ (by omega)
 ·intro i g hi;have e1:(((16*i:Nat):Int)<(d.length:Int)):=by omega
  have hiP:i<(placesOf d o 0 n).length:=by rw[Mm];exact hi
  unfold AJ ua;rw[cI];simp only[aU,bU,e1,aY,aE];rw[ajx (by omega) d (by omega) ho (16*i) (by omega)];simp only[aA];have hr1:aH (((placesOf d o 0 n).take i).flatMap ff).length=true:=by rw[da mU,dE];simp;omega
  have hpc:ff (placesOf d o 0 n)[i]=[.int .i64 (nR d (16*i) o).attr,.int .i64 (nR d (16*i) o).size,.int .i64 (nR d (16*i) o).at_,.int .i64 (nR d (16*i) o).dO,.int .i64 (nR d (16*i) o).dP]:=by rw[VA,fU];rfl
  rw[hr1,cc,aP (by omega) (by omega),show((16*i:Nat):Int)+16=((16*(i+1):Nat):Int) by omega,iI hiP,fD,show[(placesOf d o 0 n)[i]].flatMap ff=ff (placesOf d o 0 n)[i] from by simp,hpc];rfl
 ·intro g;have e1:¬(((16*n:Nat):Int)<(d.length:Int)):=by omega
  unfold AJ ua;rw[cI];simp only[aU,bU,e1,bL,aD];rw[show dc (D0::ds)=aB dw (D0::ds) from rfl,cd];have e2:1<=(D0::ds).length:=by rw[bW];omega
  simp only[gF,aM,e2,aY,jG,aE];rw[tz kW _ (aM _),List.drop_succ_cons,ew,eQ (by rw[bW];omega),cd,eQ (by rw[Mm];omega)];exact ab0 ds (by omega) (by omega) o x0 a _ c v
def ir(o:Int)(l:qr cK):qr aL:=[⟨45056,7,4,[48,49,48,48]⟩,⟨45057,4,1,eE l.length 4⟩,⟨45058,7,((16*l.length:Nat):Int),l.flatMap (dV o)⟩]
theorem S7{w:Nat}(hw:200000<w){o:Int}(ho:o=1\/o=2){l:qr cK}(h2:2<=l.length)(hl:16*l.length<=65536)(hp:∀p∈l,km p=true)(D0:aV)(ds:qr aV)(hds:ds.length<900)(y z:H1):
 S6 w o (dc (D0::ds)) (ar (ir o l)) y z=some (o,dY l,ar (wR ds []),true):=by
 have hlen:(l.flatMap (dV o)).length=16*l.length:=pK o l;have hd:∀t∈ir o l,t.data.length<=1000000000:=by
  intro t ht;simp only[ir,cZ,nk,nr] at ht;rcases ht with rfl|rfl|rfl
  ·simp
  ·simp only[pj];omega
  ·simp only[hlen];omega
 have hr:fR (ir o l)=true:=by simp[ir,fR]
 have hL:(ir o l).length=3:=rfl;have f1:=GO (w:=w) (ir o l) 45058 hr (by rw[hL];omega) (by rw[hL];omega) hd;have f2:=GO (w:=w) (ir o l) 45057 hr (by rw[hL];omega) (by rw[hL];omega) hd;have f3:=GO (w:=w) (ir o l) 45056 hr (by rw[hL];omega) (by rw[hL];omega) hd;rw[show iN (ir o l) 45058=some ⟨45058,7,((16*l.length:Nat):Int),l.flatMap (dV o)⟩ from rfl] at f1;rw[show iN (ir o l) 45057=some ⟨45057,4,1,eE l.length 4⟩ from rfl] at f2;rw[show iN (ir o l) 45056=some ⟨45056,7,4,[48,49,48,48]⟩ from rfl] at f3;have g1:∀a b:H1,kK w 45058 7 (ar (ir o l)) a b=some (ag (l.flatMap (dV o)),ar (ir o l),a,b):=by intro a b;unfold kK;rw[f1];rfl
 have g2:∀a b:H1,kK w 45057 4 (ar (ir o l)) a b=some (ag (eE l.length 4),ar (ir o l),a,b):=by intro a b;unfold kK;rw[f2];rfl
 have g3:∀a b:H1,kK w 45056 7 (ar (ir o l)) a b=some (ag [48,49,48,48],ar (ir o l),a,b):=by intro a b;unfold kK;rw[f3];rfl
 have hn:jS w (ag (eE l.length 4)) 0 4 2=some ((l.length:Int),true):=by have:=Lq (w:=w) (by omega) (eE l.length 4) (by rw[pj];omega) (.inr rfl) 0 4 (.inr rfl) (by rw[pj];omega);rw[nO (b:=eE l.length 4) (pre:=[]) (post:=[]) (n:=l.length) (p:=0) (s:=4) (order:=2) (by simp[bc]) rfl (.inr (.inr rfl)) (.inr rfl) (by omega)] at this;exact this
 obtain⟨-,h6⟩:=ab1 (w:=w) (d:=l.flatMap (dV o)) (n:=l.length) hlen (by omega) ho D0 ds hds hw 0 (ae 0 []) (ae 0 []) [] [] 0;have hpl:placesOf (l.flatMap (dV o)) o 0 l.length=l:=Ml ho l [] [] 0 (by simp) rfl hp;rw[hpl] at h6;unfold S6;rw[g1];simp only[aA];rw[g2];simp only[aA];rw[hn];simp only[aA,bH,aD];rw[show ak (l.length:Int) 2=false by rw[aU,gJ];omega,aD,cI,oD,aP (by omega) (by omega),show aj (Int.ofNat (l.flatMap (dV o)).length) (16*(l.length:Int))=true by rw[cj,cf,bU,hlen];omega,bH,aD,g2];simp only[aA];rw[cI,pj,show(!aj (Int.ofNat 4) 4)=false from rfl,aD,g3];simp only[aA];rw[im,gZ,C1];simp only[aA];rw[EE,show(!mI [48,49,48,48] (ByteArray.mk #[48,49,48,48]).data.toList)=false from rfl,aD];exact h6
theorem alg{w:Nat}(hw:200000<w){o:Int}(ho:o=1\/o=2){l:qr cK}(h2:2<=l.length)(hl:16*l.length<=65536)(hp:∀p∈l,km p=true){view:qr aL}(hv:VS view)(hr:db 5 view=true):
 CG w o (dc (cT o l view).dJ)=some (o,dY l,ar view,true):=by
 have hvl:=hv.1;have e0:∀(ds:qr aV)(K:qr H1->Hx (Int×H1×H1×Bool)),aJ 3 0 (dc (fe o l::ds)) K=K (dw (fe o l)++ds.flatMap dw):=λds K=>bn kW (l:=fe o l::ds) (m:=0) (by rw[bW];omega) K;have e1:dw (fe o l)=[ar (ir o l),ae 0 [],ae 0 []]:=by unfold fe;rw[tA];rfl
 have e2:∀(ds:qr aV)(K:Nat->Hx (Int×H1×H1×Bool)),aw (dc (fe o l::ds)) K=K (fe o l::ds).length:=λds K=>cd dw _ K;have e3:∀(K:Nat->Hx (Int×H1×H1×Bool)),aw (ar (ir o l)) K=K 3:=λK=>cd cC _ K;unfold cT;by_cases h0:view.length=0
 ·rw[ay h0];have hve:view=[]:=qF.1 h0;have ht:=S7 hw ho h2 hl hp (fe o l) [] (by show 0<900;omega) (ae 0 []) (ae 0 []);unfold CG ua yA;rw[e0,e1];simp only[ec,aX];rw[e3,show(!aj (Int.ofNat 3) 3)=false from rfl,aD,e2,show ak 1 (Int.ofNat [fe o l].length)=false from rfl,aD,hve];exact ht
 ·rw[aq h0];have ht:=S7 hw ho h2 hl hp (fe o l) [.mk view .nil []] (by show 1<900;omega) (ae 0 []) (ae 0 []);have x1:∀(K:qr H1->Hx (Int×H1×H1×Bool)),aJ 3 1 (dc (fe o l::[.mk view .nil []])) K=K (dw (.mk view .nil [])++[]):=λK=>bn kW (l:=fe o l::[.mk view .nil []]) (m:=1) (by show 1<2;omega) K;unfold CG ua yA;rw[e0,e1];simp only[ec,aX];rw[e3,show(!aj (Int.ofNat 3) 3)=false from rfl,aD,e2,show ak 1 (Int.ofNat [fe o l,.mk view .nil []].length)=true from rfl,aE,x1,tA];simp only[ec,ew,aX];rw[ri (by omega) 5 view (by omega) (λt ht=>by have:=hv.2 t ht;omega) (by omega),hr];simp only[aA,bH,aD];exact ht
theorem Ct{w:Nat}(W:cX w)(hw:800000<w){o:Int}{l:qr cK}{view:qr aL}{b:qr UInt8}(h:gT o l view=.ok b)(hv:VS view)(hS:(eJ (cT o l view)).length<100000000):uv w (ag b)=some (o,dY l,ar view,0):=by
 have hvl:=hv.1;have ho:(o=1\/o=2)/\2<=l.length/\16*l.length<=65536/\(∀p∈l,km p=true)/\db 5 view=true:=by
  unfold gT at h;split at h
  ·cases h
  rename_i h1;split at h
  ·cases h
  rename_i h2;split at h
  ·cases h
  rename_i h3;split at h
  ·cases h
  rename_i h4;refine⟨by omega,by omega,by omega,λp hp=>iv.1 (by simpa using h2) p hp,by simpa using h3⟩
 obtain⟨r,hb,hr,hwk,-,hbl⟩:=Em h (by omega);have hp:fC.isPrefixOf b=true:=by rw[hb,pY];exact rI _ _
 have hl4:b.length=r.length+4:=by rw[hb,aT];have:fC.length=4:=rfl;omega
 have h117:=GL (w:=w) (b:=r) (sh:=fJ) (by omega) (by omega) DF (λs hs=>by
  have:s=0\/s=1:=by simp[fJ] at hs;omega
  rcases this with rfl|rfl<;>decide) (by decide) (by decide) (OG (by omega)) (o:=o) (ds:=(cT o l view).dJ) (S:=eJ (cT o l view)) hS hwk
 have h62:rn w (ag b) (cu fJ)=some (o,dc (cT o l view).dJ,aB bV (eJ (cT o l view)),0):=by
  have e1:¬((65533:Int)<(b.length:Int)):=by omega
  have e2:¬((b.length:Int)<(4:Int)):=by omega
  have e3:4<=b.length:=by omega
  have h116:uh w (ag b)=some true:=by unfold uh yz;have:ae 4 (List.drop 0 [Value.int IntKind.u8 77,Value.int IntKind.u8 80,Value.int IntKind.u8 70,Value.int IntKind.u8 0])=ag fC:=rfl;rw[this,yG,hp];rfl
  unfold rn;rw[cI];simp only[aU,bU,e1,bL,aD];rw[cI];simp only[e2,bL,aD];rw[h116];simp only[aA,bH,aD];rw[cI];simp only[gF,aM,e3,aY,jG,aE];rw[lY _ (aM _),eQ (by rw[er];omega),show b.drop 4=r by rw[hb];rfl,h117];rfl
 unfold uv;rw[show uy w=some (cu fJ) from rfl];simp only[aA];rw[h62];simp only[aA];rw[show(!aj 0 0)=false from rfl,aD,alg (by omega) ho.1 ho.2.1 ho.2.2.1 ho.2.2.2.1 hv ho.2.2.2.2];rfl
noncomputable def S0(w:Nat)(x0:Int)(x1 x2:H1):Hx (H1×Int):=
 aw x1 λ(x48:Nat)=>bif ak (Int.ofNat x48) 2 then some (ae 0 [],1) else aw x1 λ(x49:Nat)=>lp qU (nL w) w x1 (Int.ofNat x49) 0 x0 x1 x2 []
theorem SE{w:Nat}(W:cX w){o:Int}(ho:o=1\/o=2){l:qr cK}(h2:2<=l.length)(hl:l.length<=600){view:qr aL}(hv:VS view)(hr:db 5 view=true):o8 w 10000 fJ o (cT o l view).dJ:=by
 have hvl:=hv.1;have hdirs:∀d∈(cT o l view).dJ,d=fe o l\/(d=.mk view .nil []/\view.length≠0):=by
  intro d hd;rcases cZ.1 hd with rfl|hd
  ·exact .inl rfl
  ·split at hd
   ·cases hd
   ·rename_i h0;exact .inr ⟨nj.1 hd,h0⟩
 have hlen2:(cT o l view).dJ.length<=2:=by unfold cT;split<;>simp
 refine PN W DF (OG (by have:=W.kF;omega)) (by decide) (λs hs=>?_) ho (by simp[cT]) (by omega) (λd hd=>?_) ?_ ?_ (SD ⟨by omega,by omega⟩ hr (by omega))
 ·have:s=0\/s=1:=by simp[fJ] at hs;omega
  rcases this with rfl|rfl<;>decide
 ·rcases hdirs d hd with rfl|⟨rfl,_⟩
  ·refine⟨by show 3<=_;omega,by show 0<=_;omega,by show 0<=_;omega,λt ht=>?_,trivial⟩;simp_all;rcases ht with rfl|rfl|rfl
   ·simp
   ·simp only[pj];omega
   ·simp only[(pK o l)];omega
  ·exact⟨by omega,by show 0<=_;omega,by show 0<=_;omega,λt ht=>by have:=hv.2 t ht;omega,trivial⟩
 ·unfold cT fe;split<;>simp[kV,gq,jZ]
 ·unfold cT fe;split<;>simp[ig,dI,iA]
theorem abZ{w:Nat}(W:cX w){o:Int}(ho:o=1\/o=2){l:qr cK}(h2:2<=l.length)(hl:l.length<=600){view:qr aL}(hv:VS view):
 lp qU (nL w) w (dY l) l.length 0 o (dY l) (ar view) []=some (match gT o l view with| .ok b=>(ag b,0)| .error e=>(ae 0 [],e)):=by
 have hb:=W.kF;have hvl:=hv.1;have hlen:∀i,((l.take i).flatMap (dV o)).length=16*(l.take i).length:=λi=>pK o _;have h1n:¬(¬(o=1\/o=2)\/l.length<2):=by
  rintro (q|q)
  ·exact q ho
  ·omega
 have hall:∀(k i v:Nat),i+k=l.length->k<v->l.all km=true->lp qU (nL w) v (dY l) l.length i o (dY l) (ar view) (((l.take i).flatMap (dV o)).map aZ)=some (match gT o l view with| .ok b=>(ag b,0)| .error e=>(ae 0 [],e)):=by
  intro k;induction k with
  |zero=>
   intro i v hi hv2 ha;have e1:¬((i:Int)<(l.length:Int)):=by omega
   have htk:l.take i=l:=eQ (by omega);have hpl:(l.flatMap (dV o)).length=16*l.length:=pK o l;rw[eB qU (nL w) (by omega),htk];unfold nL we wc wh;simp only[aU,e1,bL,aD];rw[ri (by omega) 5 view (by omega) (λt ht=>by have:=hv.2 t ht;omega) (by omega)];simp only[aA];unfold gT;rw[aq h1n,ha,aq (by decide:¬(true=false))];cases hr:db 5 view with
   |false=>rfl
   |true=>
    have T:=SE W ho h2 hl hv hr;have h150:=XT T;rw[show(⟨o,(cT o l view).dJ⟩:mH)=cT o l view from rfl] at h150;rw[aq (by decide:¬(true=false)),aq (by omega:¬(65536<16*l.length))];simp only[bH,aD,cD,kB,bU];have e2:¬((65536:Int)<((l.flatMap (dV o)).length:Int)):=by omega
    simp only[e2,bL,aD];rw[show dY l=aB ff l from rfl,cd];rw[show[Value.int IntKind.i64 (l.length:Int)].length=1 from rfl,ajX (by omega) l.length (by omega)];simp only[aA];rw[show ar view=aB cC view from rfl,cd,show uy w=some (cu fJ) from rfl];simp only[aA];have hd0:ae 3 [Value.int IntKind.i64 45056,Value.int IntKind.i64 7,Value.int IntKind.i64 4,ae 4 (List.drop 0 [Value.int IntKind.u8 48,Value.int IntKind.u8 49,Value.int IntKind.u8 48,Value.int IntKind.u8 48]),Value.int IntKind.i64 45057,Value.int IntKind.i64 4,Value.int IntKind.i64 1,ag (eE l.length 4),Value.int IntKind.i64 45058,Value.int IntKind.i64 7,Value.int IntKind.i64 ((l.flatMap (dV o)).length:Int),ae (l.flatMap (dV o)).length ((l.flatMap (dV o)).map aZ)]=ar (ir o l):=by unfold ir;rw[<-oy,hpl];rfl
    rw[hd0];have hdc:dw (fe o l)=[ar (ir o l),ae 0 [],ae 0 []]:=by unfold fe;rw[tA];rfl
    have fin:(ob (wi w o (dc (cT o l view).dJ) (cu fJ)) λ(x45:H1×Int)=>some (x45.fst,x45.snd))=some (match(if 65533<4+gX (cT o l view) then .error 7 else .ok (fC++eC (cT o l view) fJ):Except Int (qr UInt8)) with| .ok b=>(ag b,0)| .error e=>(ae 0 [],e)):=by
     rw[h150];by_cases h7:65533<4+gX (cT o l view)
     ·rw[ay h7,ay h7];rfl
     ·rw[aq h7,aq h7];rfl
    by_cases h0:view.length=0
    ·have e3:¬((0:Int)<((view.length:Nat):Int)):=by omega
     simp only[e3,bL,aD];have hdd:ae 1 [ar (ir o l),ae 0 [],ae 0 []]=dc (cT o l view).dJ:=by unfold cT;rw[ay h0];show _=ae 1 (dw (fe o l)++[]);rw[hdc];rfl
     rw[hdd];exact fin
    ·have e3:((0:Int)<((view.length:Nat):Int)):=by omega
     simp only[e3,aY,aE];have hdd:ae ((List.take 3 (List.drop 0 [ar (ir o l),ae 0 [],ae 0 []])++List.take 3 (List.drop 0 [aB cC view,ae 0 [],ae 0 []])).length/3) (List.take 3 (List.drop 0 [ar (ir o l),ae 0 [],ae 0 []])++List.take 3 (List.drop 0 [aB cC view,ae 0 [],ae 0 []]))=dc (cT o l view).dJ:=by unfold cT;rw[aq h0];show _=ae 2 (dw (fe o l)++(dw (.mk view .nil [])++[]));rw[hdc,tA,show(List.take 3 (List.drop 0 [ar (ir o l),ae 0 [],ae 0 []])++List.take 3 (List.drop 0 [aB cC view,ae 0 [],ae 0 []])).length=6 from rfl];rfl
     rw[hdd];exact fin
  |succ k ih=>
   intro i v hi hv2 ha;have hiL:i<l.length:=by omega
   have e1:((i:Int)<(l.length:Int)):=by omega
   have hp:=iv.1 ha _ (cA hiL);have:=ih (i+1) (v -1) (by omega) (by omega) ha;rw[eB qU (nL w) (by omega),<-this];generalize hg:lp qU (nL w) (v -1)=g;have tg:∀(y:cK)(r:qr H1),ff y++r=.int .i64 y.attr::.int .i64 y.size::.int .i64 y.at_::.int .i64 y.dO::.int .i64 y.dP::r:=λ_ _=>rfl;unfold nL we wc wh;simp only[aU,e1,aY,aE,bP];rw[show dY l=aB ff l from rfl,bn mU hiL,tg];simp only[aX,bu];rw[G2 (by omega) l[i] ho,ay hp];simp only[aA,bH,aD];rw[im,gZ];have r1:aH (List.map aZ ((l.take i).flatMap (dV o))).length=true:=by rw[cD,hlen,dE];simp;omega
   rw[r1,FH _ (by rw[Fp];omega),jG,aE,cc,aP (by omega) (by omega),iI hiL,fD,fS,show[l[i]].flatMap (dV o)=dV o l[i] by simp];rfl
 cases ha:l.all km with
 |true=>exact hall l.length 0 w (by omega) (by omega) ha
 |false=>
  have hbad:∀(k i v:Nat),i+k=l.length->k<v->(l.drop i).all km=false->lp qU (nL w) v (dY l) l.length i o (dY l) (ar view) (((l.take i).flatMap (dV o)).map aZ)=some (ae 0 [],1):=by
   intro k;induction k with
   |zero=>intro i v hi hv2 h;rw[show l.drop i=[] from uK (by omega)] at h;cases h
   |succ k ih=>
    intro i v hi hv2 h;have hiL:i<l.length:=by omega
    have e1:((i:Int)<(l.length:Int)):=by omega
    rw[dk hiL,List.all_cons] at h;have tg:∀(y:cK)(r:qr H1),ff y++r=.int .i64 y.attr::.int .i64 y.size::.int .i64 y.at_::.int .i64 y.dO::.int .i64 y.dP::r:=λ_ _=>rfl;rw[eB qU (nL w) (by omega)];cases hp:km l[i] with
    |false=>unfold nL we wc wh;simp only[aU,e1,aY,aE,bP];rw[show dY l=aB ff l from rfl,bn mU hiL,tg];simp only[aX,bu];rw[G2 (by omega) l[i] ho,hp];rfl
    |true=>
     rw[hp,eV] at h;have:=ih (i+1) (v -1) (by omega) (by omega) h;rw[<-this];generalize hg:lp qU (nL w) (v -1)=g;unfold nL we wc wh;simp only[aU,e1,aY,aE,bP];rw[show dY l=aB ff l from rfl,bn mU hiL,tg];simp only[aX,bu];rw[G2 (by omega) l[i] ho,ay hp];simp only[aA,bH,aD];rw[im,gZ];have r1:aH (List.map aZ ((l.take i).flatMap (dV o))).length=true:=by rw[cD,hlen,dE];simp;omega
     rw[r1,FH _ (by rw[Fp];omega),jG,aE,cc,aP (by omega) (by omega),iI hiL,fD,fS,show[l[i]].flatMap (dV o)=dV o l[i] by simp];rfl
  have:=hbad l.length 0 w (by omega) (by omega) (by rw[ew];exact ha);unfold gT;rw[aq h1n,ha,ay rfl];exact this
theorem Ys{w:Nat}(W:cX w)(o:Int){l:qr cK}(hl:l.length<=600){view:qr aL}(hv:VS view):CJ w o (dY l) (ar view)=some (match gT o l view with| .ok b=>(ag b,0)| .error e=>(ae 0 [],e)):=by
 by_cases ho:o=1\/o=2
 case neg=>unfold CJ gT we wc wh;rw[ay (.inl ho),(show aj o 1=false from by rw[cj,gJ];exactλq=>ho (.inl q)),(show aj o 2=false from by rw[cj,gJ];exactλq=>ho (.inr q))];rfl
 have hrest:S0 w o (dY l) (ar view)=some (match gT o l view with| .ok b=>(ag b,0)| .error e=>(ae 0 [],e)):=by
  unfold S0;rw[(show∀K:Nat->Hx (H1×Int),aw (dY l) K=K l.length fromλK=>cd ff l K)];by_cases h2:l.length<2
  ·have e1:ak (Int.ofNat l.length) 2=true:=by rw[aU,cf,bU];omega
   unfold gT;rw[ay (.inr h2),e1];rfl
  ·have e1:ak (Int.ofNat l.length) 2=false:=by rw[aU,gJ,bU];omega
   rw[e1];exact abZ W ho (by omega) hl hv
 rcases ho with rfl|rfl<;>exact hrest
def hU(ms:qr aS):qr cK:=ms.map λp=>⟨p.attr,0,0,p.dO,p.dP⟩
def jm(ms:qr aS)(i:Nat):Except Int (qr UInt8):=
 match ms[i]? with
 |none=>.ok []
 |some p=>if i=0 then(if 1<ms.length then gT p.aC.order (hU ms) p.view else .ok []) else if p.view.length=0 then .ok [] else rE p.aC.order p.view
theorem aiA{w:Nat}(W:cX w){ms:qr aS}(hl:ms.length<=600)(o:Int){view:qr aL}(hv:VS view):
 lp W9 (F0 w) w (cx ms) ms.length 0 o (ar view) []=some (match gT o (hU ms) view with| .ok b=>(ag b,0)| .error e=>(ae 0 [],e)):=by
 have hb:=W.kF;refine gO (ev:=λi (k:Dr)=>k (cx ms) ms.length i o (ar view) ((hU (ms.take i)).flatMap ff)) ms.length ?_ ?_ (by omega)
 ·intro i g hi;have e1:((i:Int)<(ms.length:Int)):=by omega
  have r1:aH ((hU (ms.take i)).flatMap ff).length=true:=by rw[da mU];unfold hU;simp;omega
  unfold F0 Gb;simp only[aU,e1,bP];rw[show cx ms=aB cN ms from rfl,bn iV hi,r1,cc,aP (by omega) (by omega)];have hp:(hU (ms.take (i+1))).flatMap ff=(hU (ms.take i)).flatMap ff++[Value.int IntKind.i64 ms[i].attr,Value.int IntKind.i64 0,Value.int IntKind.i64 0,Value.int IntKind.i64 ms[i].dO,Value.int IntKind.i64 ms[i].dP]:=by unfold hU;rw[iI hi,fS,fD];rfl
  rw[hp];rfl
 ·intro g;unfold F0 Gb;simp only[aU,(show¬((ms.length:Int)<(ms.length:Int)) from by omega)];rw[oY,da mU,ja _ (by decide)];have:=Ys W o (l:=hU ms) (by unfold hU;rw[cD];exact hl) hv;rw[show ae (hU ms).length ((hU ms).flatMap ff)=dY (hU ms) from rfl,this];rfl
theorem Yn{w:Nat}(W:cX w){ms:qr aS}(h:∀p∈ms,eD p)(hl:ms.length<=600){i:Nat}(hi:i<ms.length):H9 w (cx ms) (i:Int)=some (match jm ms i with| .ok b=>(ag b,0)| .error e=>(ae 0 [],e)):=by
 have hm:=h _ (cA hi);have hlr:∀K:Nat->Hx (H1×Int),aw (cx ms) K=K ms.length:=λK=>cd cN ms K;have hlv:∀K:Nat->Hx (H1×Int),aw (ar ms[i].view) K=K ms[i].view.length:=λK=>cd cC _ K;unfold H9 jm NI;rw[cG hi,bP,show cx ms=aB cN ms from rfl,bn iV hi,lf];simp only[aX,bu];rw[show aB cN ms=cx ms from rfl];by_cases h0:i=0
 ·rw[ay h0,show aj (i:Int) 0=true by rw[cj,cf];omega,hlr];by_cases h1:1<ms.length
  ·rw[ay h1,show ak 1 (Int.ofNat ms.length)=true by rw[aU,cf,bU];omega,hlr];exact aiA W hl _ hm.vs
  ·rw[aq h1,show ak 1 (Int.ofNat ms.length)=false by rw[aU,gJ,bU];omega];rfl
 ·rw[aq h0,show aj (i:Int) 0=false by rw[cj,gJ];omega,hlv];by_cases h1:ms[i].view.length=0
  ·rw[h1];rfl
  ·rw[aq h1,show aj (Int.ofNat ms[i].view.length) 0=false by rw[cj,gJ,bU];omega,alm W _ hm.vs];rfl
theorem Nt{ms:qr aS}{i:Nat}{b:qr UInt8}(h:jm ms i=.ok b)(hm:∀p∈ms,eD p)(hl:ms.length<=600):b.length=0\/(fC.isPrefixOf b=true/\b.length<=65533):=by
 unfold jm at h;split at h
 ·injection h with h;subst h;exact .inl rfl
 rename_i p hp;have hmp:=hm p (nZ hp);split at h
 ·split at h
  ·right;obtain⟨r,hb,-,-,-,hbl⟩:=Em h (by have:=hmp.tv.1;omega);exact⟨by rw[hb,pY];exact rI _ _,hbl⟩
  ·injection h with h;subst h;exact .inl rfl
 ·split at h
  ·injection h with h;subst h;exact .inl rfl
  ·right;rename_i h0;unfold rE at h;split at h
   ·cases h
   split at h
   ·cases h
   rename_i hr;split at h
   ·cases h
   injection h with h;have hlen:=wN (PX (o:=p.aC.order) (by simpa using hr) h0 (by have:=hmp.tv.1;omega));rw[<-h];refine⟨by rw[pY];exact rI _ _,?_⟩;rw[aT];have:fC.length=4:=rfl;omega
def fF(p:aS)(cy:qr UInt8):nv:=⟨p.aC,p.bZ,p.core,cy,0,0⟩
theorem KN{ms:qr aS}{i:Nat}(hi:i<ms.length){b aO:qr UInt8}(h:jm ms i=.ok b)(hm:∀p∈ms,eD p)(hl:ms.length<=600)(ha:iS ms[i].aC=.ok aO)(hc:nE ms[i].core=true):xb (fF ms[i] b) aO:=by have hmp:=hm _ (cA hi);refine⟨ha,?_,by have:=hmp.ic;show ms[i].bZ.length<=_;omega,hc,Nt h hm hl⟩;have:=hmp.tG.rows;show q9 ms[i].aC 65000;unfold q9 at this⊢;omega
def jX(aO b:qr UInt8):Int:=if b.length=0 then 0 else((aO.length+10:Nat):Int)
theorem Yk{w:Nat}(W:cX w)(hw:1000000<w){ms:qr aS}{i:Nat}(hi:i<ms.length){b aO:qr UInt8}(h:jm ms i=.ok b)(hm:∀p∈ms,eD p)(hl:ms.length<=600)(ha:iS ms[i].aC=.ok aO)(hc:nE ms[i].core=true):
 wB w (cx ms) (i:Int)=some (ms[i].aC.order,ar ms[i].aC.cn,ar ms[i].aC.bD,ar ms[i].aC.bG,ar ms[i].aC.bj,ar ms[i].aC.first,ag ms[i].aC.bC,ag ms[i].aC.cF,ag ms[i].bZ,ag ms[i].core,ag b,jX aO b,((eR (fF ms[i] b) aO).length:Int),true):=by
 have hmp:=hm _ (cA hi);have hok:=KN hi h hm hl ha hc;have hic:=hmp.ic;have hco:=hmp.co;have hbl:b.length<=65533:=by rcases Nt h hm hl with q|q;omega;exact q.2
 unfold wB;rw[Yn W hm hl hi,h];simp only[aA];rw[bP,show cx ms=aB cN ms from rfl,bn iV hi,lf];simp;rw[(show yX w ms[i].aC.order (ar ms[i].aC.cn) (ar ms[i].aC.bD) (ar ms[i].aC.bG) (ar ms[i].aC.bj) (ar ms[i].aC.first) (ag ms[i].aC.bC) (ag ms[i].aC.cF) (ag ms[i].bZ) (ag ms[i].core) (ag b) 0 0=some (ag (eR (fF ms[i] b) aO),0) from(X5 W hok hmp.tG (by omega) ⟨by show ms[i].core.length<=_;omega,by show ms[i].bZ.length<=_;omega,hbl⟩ (by omega) 0 0))];simp;rw[(akt W hok hmp.tG (by omega) ⟨by show ms[i].core.length<=_;omega,by show ms[i].bZ.length<=_;omega,hbl⟩ (by omega))];rfl
theorem akW{w:Nat}(W:cX w){ms:qr aS}{i:Nat}(hi:i<ms.length){e:Int}(h:jm ms i=.error e)(he:e≠0)(hm:∀p∈ms,eD p)(hl:ms.length<=600):
 wB w (cx ms) (i:Int)=some (0,ae 0 [],ae 0 [],ae 0 [],ae 0 [],ae 0 [],ae 0 [],ae 0 [],ae 0 [],ae 0 [],ae 0 [],0,0,false):=by
 unfold wB;rw[Yn W hm hl hi];simp_all
theorem aiB{ms:qr aS}{i:Nat}{e:Int}(h:jm ms i=.error e):e≠0:=by
 unfold jm at h;split at h
 ·cases h
 split at h
 ·split at h
  ·unfold gT at h
   repeat' split at h
   all_goals(cases h<;>decide)
  ·cases h
 ·split at h
  ·cases h
  ·unfold rE at h
   repeat' split at h
   all_goals(cases h<;>decide)
def bK(l:qr Int):qr H1:=l.map λn:Int=>.int .i64 n
theorem OC{w:Nat}(n:Int)(st:qr Int)(s:Int)(hn:1<=n/\n<=10000000)(hs:0<=s/\s<=4000000000)(hl:st.length<10000):wm w n (bK (st++[s]))=some (false,bK (st++[s]++[s+n])):=by
 have hdrop:List.drop (0+st.length*1) (bK (st++[s]))=[Value.int .i64 s]:=by unfold bK;rw[fS,List.drop_left' (by simp)];rfl
 unfold wm;rw[(show(bK (st++[s])).length=st.length+1 from by unfold bK;simp),kB,ji,bU,aP (by omega) (by omega),show((st.length+1:Nat):Int) -1=(st.length:Int) by omega,bP,hdrop];simp;rw[XY,ay ⟨by unfold mq;rw[cf];omega,by unfold mq;rw[cf];omega,by unfold mq;rw[cf];omega⟩];have r1:aH (st.length+1)=true:=by simp;omega
 have hap:bK (st++[s])++[Value.int IntKind.i64 (s+n)]=bK (st++[s]++[s+n]):=by unfold bK;simp
 simp_all
theorem alL{w:Nat}(L:qr Int)(hL:∀n∈L,1<=n/\n<=3000000)(hl:L.length<=1000)(hw:2000<w):∃st:qr H1,lp rq (gA w) w L.length 0 (bK L) (bK [0])=some (-1,bK L,st):=by
 have key:∀(k i v:Nat)(st:qr Int)(s:Int),i+k=L.length->k<v->st.length=i->0<=s/\s<=3000000*i->∃st':qr H1,lp rq (gA w) v L.length i (bK L) (bK (st++[s]))=some (-1,bK L,st'):=by
  intro k;induction k with
  |zero=>
   intro i v st s hi hv _ _;have e1:¬((i:Int)<(L.length:Int)):=by omega
   rw[eB rq (gA w) (by omega)];unfold gA;simp only[aU,e1,bL,aD];exact⟨_,rfl⟩
  |succ k ih=>
   intro i v st s hi hv hst hs;have hiL:i<L.length:=by omega
   have e1:((i:Int)<(L.length:Int)):=by omega
   have hn:=hL _ (cA hiL);obtain⟨st',hst'⟩:=ih (i+1) (v -1) (st++[s]) (s+L[i]) (by omega) (by omega) (by rw[aT,hst];rfl) (by omega);refine⟨st',?_⟩;rw[eB rq (gA w) (by omega),<-hst'];have hlen:(bK L).length=L.length:=by unfold bK;rw[cD]
   have hdrop:List.drop (0+i*1) (bK L)=.int .i64 L[i]::bK (L.drop (i+1)):=by unfold bK;rw[fU,gk,<-List.map_drop,dk hiL,iw]
   have e2:i*1<L.length:=by omega
   unfold gA;simp only[aU,e1,aY,aE,bP];rw[hlen];simp only[mK,e2,aY,ky,aE];rw[hdrop];simp only[aX,bu];rw[OC _ st s ⟨hn.1,by omega⟩ ⟨hs.1,by omega⟩ (by omega)];simp only[aA,aD,cc];rw[aP (by omega) (by omega)];rfl
 exact key L.length 0 w [] 0 (by omega) (by omega) rfl ⟨by omega,by omega⟩
theorem ajH{w:Nat}(L:qr Int)(hL:∀n∈L,1<=n/\n<=3000000)(hl:L.length<=1000)(hw:2000<w):∃st:qr H1,ui w (bK L)=some (true,bK L,st):=by
 obtain⟨st,h⟩:=alL L hL hl hw;refine⟨st,?_⟩;have h2:yZ w (bK L) [Value.int .i64 0]=some (-1,bK L,st):=by unfold yZ;rw[(show(bK L).length=L.length from by unfold bK;rw[cD]),kB];exact h
 unfold ui Hd;simp_all
def Kb(ms:qr aS)(i:Nat):Bool:=match jm ms i with| .ok _=>false| .error _=>true
def re(ms:qr aS):Nat->Nat->Int
 |0,_=>-1
 |k+1,i=>if Kb ms i=true then(i:Int) else re ms k (i+1)
theorem Sy(x:nv)(aO:qr UInt8):1<=(eR x aO).length:=by unfold eR jB;rw[kN,aT];have:(cV ⟨216,[],[]⟩).length=2:=rfl;omega
theorem Qy{ms:qr aS}(h:∀p∈ms,jL p=false){i:Nat}(hi:i<ms.length):∃aO,iS ms[i].aC=.ok aO:=by
 have:=h _ (cA hi);unfold jL at this;cases he:iS ms[i].aC with
 |ok b=>simp
 |error e=>grind
theorem SA{ms:qr aS}{i:Nat}(hi:i<ms.length){b aO:qr UInt8}(h:jm ms i=.ok b)(hm:∀p∈ms,eD p)(hl:ms.length<=600)(ha:iS ms[i].aC=.ok aO)(hc:nE ms[i].core=true):(eR (fF ms[i] b) aO).length<=3000000:=by
 have hmp:=hm _ (cA hi);have hok:=KN hi h hm hl ha hc;obtain⟨r,c1,c2,c3,c4,c5,c6⟩:=DJ hok.core;have h1:=Sv (aO:=aO) c2 c4;obtain⟨-,-,hl2,-⟩:=zZ hok.app hok.rows;have hbl:b.length<=65533:=by rcases Nt h hm hl with q|q;omega;exact q.2
 have hic:=hmp.ic;have hco:=hmp.co;have e1:(fF ms[i] b).cy.length=b.length:=rfl;have e2:(fF ms[i] b).bZ.length=ms[i].bZ.length:=rfl;have e3:(fF ms[i] b).core.length=ms[i].core.length:=rfl;omega
theorem alM{w:Nat}(L:qr Int)(hL:∀n∈L,1<=n/\n<=3000000)(hl:L.length<=1000)(hw:2000<w):∃r:Int×qr H1×qr H1,lp rq (gA w) w (L++[0]).length 0 (bK (L++[0])) (bK [0])=some r:=by
 have hll:(L++[0]:qr Int).length=L.length+1:=by simp
 have key:∀(k i v:Nat)(st:qr Int)(s:Int),i+k=L.length->k+1<v->st.length=i->0<=s/\s<=3000000*i->∃r:Int×qr H1×qr H1,lp rq (gA w) v (L++[0]).length i (bK (L++[0])) (bK (st++[s]))=some r:=by
  intro k;induction k with
  |zero=>
   intro i v st s hi hv hst hs;have hiL:i<(L++[0]:qr Int).length:=by omega
   have e1:((i:Int)<((L++[0]:qr Int).length:Int)):=by omega
   have hget:(L++[0]:qr Int)[i]=0:=by rw[List.getElem_append_right (by omega)];simp
   have hlen:(bK (L++[0])).length=(L++[0]).length:=by unfold bK;rw[cD]
   have hdrop:List.drop (0+i*1) (bK (L++[0]))=.int .i64 0::bK ((L++[0]).drop (i+1)):=by unfold bK;rw[fU,gk,<-List.map_drop,dk hiL,iw,hget]
   have e2:i*1<(L++[0]:qr Int).length:=by omega
   rw[eB rq (gA w) (by omega)];unfold gA;simp only[aU,e1,aY,aE,bP];rw[hlen];simp only[mK,e2,aY,ky,show Nat.beq 1 1=true from rfl,aE];rw[hdrop];simp only[aX,bu];have h190:∃x,wm w 0 (bK (st++[s]))=some (true,x):=by
    have hlen2:(bK (st++[s])).length=st.length+1:=by unfold bK;simp
    have hdrop2:List.drop (0+st.length*1) (bK (st++[s]))=[Value.int .i64 s]:=by unfold bK;rw[fS,fU,gk,List.drop_left' (by simp)];rfl
    unfold wm;rw[hlen2,kB,ji,bU,aP (by omega) (by omega),show((st.length+1:Nat):Int) -1=(st.length:Int) by omega,bP];have e1:st.length*1<st.length+1:=by omega
    simp only[mK,e1,aY,ky,show Nat.beq 1 1=true from rfl,aE];rw[hdrop2];simp only[aX,bu];rw[XY,ay ⟨by unfold mq;rw[cf];omega,by unfold mq;rw[cf];omega,by unfold mq;rw[cf];omega⟩];simp only[aA];have r1:aH (st.length+1)=true:=by simp;omega
    rw[r1];simp only[show ak 0 1=true from rfl,wU,kB,gk,np,show aH 1=true from rfl,jG,aE,bH,aD];exact⟨_,rfl⟩
   obtain⟨x,h190⟩:=h190;rw[h190];exact⟨_,rfl⟩
  |succ k ih=>
   intro i v st s hi hv hst hs;have hiL0:i<L.length:=by omega
   have hiL:i<(L++[0]:qr Int).length:=by omega
   have e1:((i:Int)<((L++[0]:qr Int).length:Int)):=by omega
   have hget:(L++[0]:qr Int)[i]=L[i]:=List.getElem_append_left hiL0;have hn:=hL _ (cA hiL0);obtain⟨r,hr⟩:=ih (i+1) (v -1) (st++[s]) (s+L[i]) (by omega) (by omega) (by rw[aT,hst];rfl) (by omega);refine⟨r,?_⟩;rw[eB rq (gA w) (by omega),<-hr];generalize hg:lp rq (gA w) (v -1)=g;have hlen:(bK (L++[0])).length=(L++[0]).length:=by unfold bK;rw[cD]
   have hdrop:List.drop (0+i*1) (bK (L++[0]))=.int .i64 L[i]::bK ((L++[0]).drop (i+1)):=by unfold bK;rw[fU,gk,<-List.map_drop,dk hiL,iw,hget]
   have e2:i*1<(L++[0]:qr Int).length:=by omega
   unfold gA;simp only[aU,e1,aY,aE,bP];rw[hlen];simp only[mK,e2,aY,ky,show Nat.beq 1 1=true from rfl,aE];rw[hdrop];simp only[aX,bu];rw[OC _ st s ⟨hn.1,by omega⟩ ⟨hs.1,by omega⟩ (by omega)];simp only[aA,aD,cc];rw[aP (by omega) (by omega)];rfl
 exact key L.length 0 w [] 0 (by omega) (by omega) rfl ⟨by omega,by omega⟩
theorem ajI{w:Nat}(L:qr Int)(hL:∀n∈L,1<=n/\n<=3000000)(hl:L.length<=1000)(hw:2000<w):∃r:Bool×qr H1×qr H1,ui w (bK (L++[0]))=some r:=by
 obtain⟨r,h⟩:=alM L hL hl hw;have h2:yZ w (bK (L++[0])) [Value.int .i64 0]=some r:=by unfold yZ;rw[(show(bK (L++[0])).length=(L++[0]).length from by unfold bK;rw[cD]),kB];exact h
 unfold ui Hd;simp_all;cases(!ak r.fst 0)<;>grind
theorem acE{w:Nat}(W:cX w)(hw:1000000<w){ms:qr aS}(hm:∀p∈ms,eD p)(hl:ms.length<=600)(ha:∀p∈ms,jL p=false)(hc:∀p∈ms,nC p=false):
 ∃c:H1×qr H1,Hc w (cx ms) (cx ms) []=some (re ms ms.length 0,c):=by
 have key:∀(k i v:Nat)(L:qr Int),i+k=ms.length->k<v->L.length=i->(∀n∈L,1<=n/\n<=3000000)->∃c:H1×qr H1,lp AR (tM w) v (cx ms) ms.length i (cx ms) (bK L)=some (re ms k i,c):=by
  intro k;induction k with
  |zero=>
   intro i v L hi hv hL _;have e1:¬((i:Int)<(ms.length:Int)):=by omega
   rw[eB AR (tM w) (by omega)];unfold tM;simp only[aU,e1,bL,aD];exact⟨_,rfl⟩
  |succ k ih=>
   intro i v L hi hv hL hL2;have hiL:i<ms.length:=by omega
   have e1:((i:Int)<(ms.length:Int)):=by omega
   have hlen:(bK L).length=i:=by unfold bK;rw[cD,hL]
   have r1:aH i=true:=by simp;omega
   have rr:∀n:Int,(aH (bK L).length&&(aH ([Value.int IntKind.i64 n].length/1)&&[Value.int IntKind.i64 n].length.beq ([Value.int IntKind.i64 n].length/1*1)))=true:=by intro n;rw[hlen,r1];simp
   rw[eB AR (tM w) (by omega)];unfold re Kb;cases hs:jm ms i with
   |error e=>
    have h34:=akW W hiL hs (aiB hs) hm hl;rw[ay rfl];have h131:∃r:Bool×qr H1×qr H1,ui w (bK L++[Value.int IntKind.i64 0])=some r:=by obtain⟨st,hst⟩:∃r,ui w (bK (L++[0]))=some r:=ajI L hL2 (by omega) (by omega);refine⟨st,?_⟩;rw[<-hst];unfold bK;rw[fS];rfl
    obtain⟨r,h131⟩:=h131;unfold tM;simp only[aU,e1,aY,aE,bP];rw[show cx ms=aB cN ms from rfl,bn iV hiL,lf];simp only[aX,bu];unfold GX;rw[show aB cN ms=cx ms from rfl,hlen,kB,bU,h34];simp only[aA];rw[<-hlen,rr 0,aE,h131];exact⟨_,rfl⟩
   |ok b=>
    obtain⟨aO,hcam⟩:=Qy ha hiL;have hcore:nE ms[i].core=true:=by have:=hc _ (cA hiL);unfold nC at this;simpa using this
    have h34:=Yk W hw hiL hs hm hl hcam hcore;have hsm:=SA hiL hs hm hl hcam hcore;have hps:=Sy (fF ms[i] b) aO;have hL3:∀n∈L++[((eR (fF ms[i] b) aO).length:Int)],1<=n/\n<=3000000:=by intro n hn;rcases fT.1 hn with hn|hn<;>grind
    obtain⟨st,h131⟩:=ajH (w:=w) _ hL3 (by rw[aT,wU];omega) (by omega);have hap:bK L++[Value.int IntKind.i64 ((eR (fF ms[i] b) aO).length:Int)]=bK (L++[((eR (fF ms[i] b) aO).length:Int)]):=by unfold bK;simp
    obtain⟨c,hih⟩:=ih (i+1) (v -1) _ (by omega) (by omega) (by rw[aT,wU];omega) hL3;rw[aq (λq=>by cases q)];refine⟨c,?_⟩;rw[<-hih];generalize hg:lp AR (tM w) (v -1)=g;unfold tM;simp only[aU,e1,aY,aE,bP];rw[show cx ms=aB cN ms from rfl,bn iV hiL,lf];simp only[aX,bu];unfold GX;rw[show aB cN ms=cx ms from rfl,hlen,kB,bU,h34];simp only[aA];have rr2:=rr ((eR (fF ms[i] b) aO).length:Int);rw[hlen] at rr2;rw[rr2,aE,hap,h131];simp only[aA,bH,aD,cc];rw[aP (by omega) (by omega)];rfl
 obtain⟨c,h⟩:=key ms.length 0 w [] (by omega) (by omega) rfl (λn hn=>by cases hn);refine⟨c,?_⟩;unfold Hc;exact h
def xn(ms:qr aS):Bool:=match ms with
 |[p]=>!decide (p.attr=0/\p.dO=0/\p.dP=0/\p.view.length=0)
 |_=>false
def fW(ms:qr aS):Int×Int:=
 if ms.length<1\/1000<ms.length then(1,0)
 else if 0<=dD jL ms then(2,dD jL ms)
 else if 0<=dD nC ms then(4,dD nC ms)
 else if 0<=dD ou ms then(5,dD ou ms)
 else if 0<=dD mJ ms then(6,dD mJ ms)
 else if xn ms=true then(7,0)
 else if 0<=re ms ms.length 0 then(8,re ms ms.length 0)
 else(0,0)
theorem vA{α:Type}{p:α->Bool}{l:qr α}(h:¬0<=dD p l):∀x∈l,p x=false:=by
 have h1:dD p l<0:=by omega
 rw[xK] at h1
 grind
theorem abx{α:Type}(l:qr α):dD (λ_=>false) l=-1:=by
 unfold dD
 grind
theorem KJ{α:Type}{p:α->Bool}{l:qr α}(h:0<=dD p l):∃i:Nat,∃hi:i<l.length,dD p l=(i:Int)/\p l[i]=true:=by
 unfold dD at h⊢;cases hf:l.findIdx? p with
 |none=>grind
 |some i=>
  rw[List.findIdx?_eq_some_iff_getElem] at hf
  grind
theorem alh(w:Nat){ms:qr aS}(hl:ms.length<=2000):Il w (cx ms)=some (if ms.length<1\/1000<ms.length then 0 else-1):=by
 have hlr:∀K:Nat->Hx Int,aw (cx ms) K=K ms.length:=λK=>cd cN ms K;unfold Il;rw[hlr,hlr,GP,GP];simp only[aA,aU]
 grind
theorem ali(w:Nat){ms:qr aS}(hl:ms.length<=2000)(h1:1<=ms.length):Im w (cx ms)=some (if xn ms=true then 0 else-1):=by
 have hlr:∀K:Nat->Hx Int,aw (cx ms) K=K ms.length:=λK=>cd cN ms K;cases ms with
 |nil=>simp at h1
 |cons p r=>
  unfold Im;rw[(show∀K:qr H1->Hx Int,aJ 14 0 (cx (p::r)) K=K (cN p++r.flatMap cN) fromλK=>bn iV (by rw[bW];omega) K),lf];simp;rw[hlr];cases r with
  |nil=>
   rw[(show∀K:Nat->Hx Int,aw (ar p.view) K=K p.view.length fromλK=>cd cC _ K),GP,GP];unfold xn;by_cases a1:p.attr=0
   case neg=>simp[a1]
   by_cases a2:p.dO=0
   case neg=>simp_all
   by_cases a3:p.dP=0
   case neg=>simp_all
   by_cases a4:p.view.length=0
   ·simp_all
   ·have:(0:Int)<(p.view.length:Int):=by omega
    simp_all
  |cons q r=>rfl
theorem Yu{w:Nat}(W:cX w)(hw:1000000<w){ms:qr aS}(hm:∀p∈ms,eD p)(hl:ms.length<=600\/1000<ms.length)(hl2:ms.length<=2000):CL w (cx ms)=some (fW ms):=by
 unfold CL fW F5 Ga;rw[show O0 w=some () from rfl];rw[alh w hl2];simp only[aA];by_cases h1:ms.length<1\/1000<ms.length
 ·rw[ay h1,ay h1];rfl
 rw[aq h1,aq h1,show(!ak (-1) 0)=false from rfl];have hlt:ms.length<=600:=by omega
 unfold Po N9;rw[aj8 W hm hl2];simp only[aA,aU];by_cases h2:0<=dD jL ms
 ·rw[ay h2,fI (by omega)];rfl
 rw[aq h2,eY (by omega:dD jL ms<0)];unfold Pp Oa;rw[aj9 W hm hl2];simp only[aA];rw[show dD Ad ms=-1 from abx ms];simp only[show decide ((-1:Int)<0)=true from rfl,aD];unfold Pq Ob;rw[aka W hm hl2];simp only[aA];by_cases h4:0<=dD nC ms
 ·rw[ay h4,fI (by omega)];rfl
 rw[aq h4,eY (by omega:dD nC ms<0)];unfold Pr Oc;rw[akb W hm hl2];simp only[aA];by_cases h5:0<=dD ou ms
 ·rw[ay h5,fI (by omega)];rfl
 rw[aq h5,eY (by omega:dD ou ms<0)];unfold Ps Od;rw[akc W hm hl2];simp only[aA];by_cases h6:0<=dD mJ ms
 ·rw[ay h6,fI (by omega)];rfl
 rw[aq h6,eY (by omega:dD mJ ms<0)];rw[ali w hl2 (by omega)];simp only[aA];by_cases h7:xn ms=true
 ·rw[ay h7,ay h7];rfl
 rw[aq h7,aq h7];simp only[show decide ((-1:Int)<0)=true from rfl,aD];unfold Pt N8;obtain⟨c,h188⟩:=acE W hw hm hlt (vA h2) (vA h4);rw[h188];simp only[aA];by_cases h8:0<=re ms ms.length 0
 ·rw[ay h8,fI (by omega)];rfl
 rw[aq h8,eY (by omega:re ms ms.length 0<0)];rfl
def iz(ms:qr aS):Int:=
 if(fW ms).1 =0 then 0
 else if(fW ms).1 =1 then(if ms.length=0 then 1 else 7)
 else if(fW ms).1 =2 then(match ms[(fW ms).2.toNat]? with|some p=>(match iS p.aC with| .ok _=>0| .error e=>e)|none=>0)
 else if(fW ms).1 =4 then 2
 else if(fW ms).1 =5 then 1
 else if(fW ms).1 =7 then 1
 else if(fW ms).1 =6 then 6
 else 7
theorem Of{w:Nat}(W:cX w)(hw:1000000<w){ms:qr aS}(hm:∀p∈ms,eD p)(hl:ms.length<=600\/1000<ms.length)(hl2:ms.length<=2000):yO w (cx ms)=some (iz ms):=by
 have hlr:∀K:Nat->Hx Int,aw (cx ms) K=K ms.length:=λK=>cd cN ms K;unfold yO iz;rw[Yu W hw hm hl hl2];simp only[aA,cj,qM];by_cases h0:(fW ms).1 =0
 ·rw[ay h0,ay h0]
 rw[aq h0,aq h0];by_cases h1:(fW ms).1 =1
 ·rw[ay h1,ay h1,hlr];by_cases hz:ms.length=0<;>grind
 rw[aq h1,aq h1];by_cases h2:(fW ms).1 =2
 ·rw[ay h2,ay h2];have hidx:0<=dD jL ms/\(fW ms).2 =dD jL ms:=by
   unfold fW at h2⊢;split at h2
   ·exact absurd h2 (by decide)
   rename_i a;rw[aq a];split at h2
   ·rename_i b;rw[ay b];exact⟨b,rfl⟩
   ·exfalso
    repeat' split at h2
    all_goals(simp only at h2;exact absurd h2 (show¬((_:Int)=2) by decide))
  obtain⟨i,hi,he,hb⟩:=KJ hidx.1;rw[hidx.2,he,bP,show cx ms=aB cN ms from rfl,bn iV hi,nh,cG hi];have d0:∀r:qr H1,List.drop 0 (cN ms[i]++r)=cN ms[i]++r:=λ_=>rfl;rw[d0,lf];simp;rw[O7 W (hm _ (cA hi)).tG];cases iS ms[i].aC<;>rfl
 rw[aq h2,aq h2]
 repeat' split
 all_goals rfl
theorem amh{o:Int}{view:qr aL}(hv:TS view)(hr:db 5 view=true):gX (gC o view)<=40000:=by
 obtain⟨h1,h2⟩:=hv;have hV:=Ao view (aI 8+(6+12*bF (.mk view .nil []))) λt ht=>⟨(ED (((yq hr).2) t ht)).2.2.2,h2 t ht⟩;have hN:bF (.mk view .nil [])=view.length:=by show view.length+0+0=_;simp
 have hE:gX (gC o view)=cq (aI 8+(6+12*bF (.mk view .nil []))) view:=by show eG 8 [.mk view .nil []]=_;simp[eG,bE,eA]
 have e8:aI 8=8:=rfl;omega
theorem abI{o:Int}{l:qr cK}(h2:2<=l.length)(hl:l.length<=6){view:qr aL}(hv:TS view)(hr:db 5 view=true):gX (cT o l view)<=40000:=by
 obtain⟨h1,h2'⟩:=hv;have hm:=(yq hr).2;have hlen:=pK o l;have m3:eH 7 ((16*l.length:Nat):Int) (l.flatMap (dV o))=true:=by unfold eH;have:(kindOf 7).1 =1:=rfl;rw[hlen];simp_all;omega
 obtain⟨e1,he1⟩:∃e1,bE 8 (fe o l)=e1:=⟨_,rfl⟩;have hD:e1<=700:=by
  have hV:=Ao (m:=100) [⟨45056,7,4,[48,49,48,48]⟩,⟨45057,4,1,eE l.length 4⟩,⟨45058,7,((16*l.length:Nat):Int),l.flatMap (dV o)⟩] (aI 8+(6+12*bF (fe o l))) λt ht=>by
   simp at ht;rcases ht with rfl|rfl|rfl
   ·exact⟨(by decide),by simp⟩
   ·exact⟨ZE,by simp only[pj];omega⟩
   ·exact⟨m3,by simp_all;omega⟩
  have hN:bF (fe o l)=3:=rfl;have e8:aI 8=8:=rfl;have:e1=cq (aI 8+(6+12*bF (fe o l))) [⟨45056,7,4,[48,49,48,48]⟩,⟨45057,4,1,eE l.length 4⟩,⟨45058,7,((16*l.length:Nat):Int),l.flatMap (dV o)⟩]:=by rw[<-he1];simp[fe,bE,eA,dW]
  simp_all;omega
 have hT:gX (cT o l view)=eG e1 (if view.length=0 then[] else[.mk view .nil []]):=by rw[<-he1];rfl
 rw[hT];by_cases h0:view.length=0
 ·rw[ay h0];show e1<=_;omega
 ·rw[aq h0];have hV:=Ao view (aI e1+(6+12*bF (.mk view .nil []))) λt ht=>⟨(ED (hm t ht)).2.2.2,h2' t ht⟩;have hN:bF (.mk view .nil [])=view.length:=by
   show view.length+0+0=_;omega
  have hE:eG e1 [.mk view .nil []]=cq (aI e1+(6+12*bF (.mk view .nil []))) view:=by simp[eG,bE,eA,dW]
  have e8:=vl e1;omega
def oA(p:aS):Bool:=!jL p&&(!nC p&&(!ou p&&!mJ p))
theorem oB{p:aS}(h:oA p=true):jL p=false/\nC p=false/\ou p=false/\mJ p=false:=by
 unfold oA at h
 grind
theorem Ef{p:aS}(h:jL p=false):p.aC.order=1\/p.aC.order=2:=by
 unfold jL at h;cases he:iS p.aC with
 |error e=>grind
 |ok b=>
  unfold iS at he;split at he
  ·grind
  ·rename_i q;exact(tw (qE.1 q)).1
theorem Xd{ms:qr aS}(hm:∀p∈ms,eD p)(hl:ms.length<=6)(hg:∀p∈ms,oA p=true)(i:Nat):∃b,jm ms i=.ok b:=by
 unfold jm;split
 ·exact⟨_,rfl⟩
 rename_i p hp;have hpm:=nZ hp;obtain⟨g1,g2,g3,g4⟩:=oB (hg p hpm);have ho:=Ef g1;have hv:=(hm p hpm).tv;have hr:db 5 p.view=true:=by unfold mJ at g4;simpa using g4
 split
 ·split
  ·rename_i h1;have hpl:(hU ms).length=ms.length:=by unfold hU;rw[cD]
   have hall:(hU ms).all km=true:=by rw[iv];intro q hq;obtain⟨y,hy,rfl⟩:=mF.1 hq;have:=(oB (hg y hy)).2.2.1;unfold ou at this;unfold km;simp only[Bool.not_eq_false',cf] at this⊢;obtain⟨a,b,c⟩:=this;exact⟨a,by decide,by decide,b,c⟩
   have he:=abI (o:=p.aC.order) (l:=hU ms) (by omega) (by omega) hv hr;unfold gT;rw[aq (by rintro (q|q);exact q ho;omega),hall,aq (by decide),hr,aq (by decide),aq (by omega),aq (by omega)];exact⟨_,rfl⟩
  ·exact⟨_,rfl⟩
 ·split
  ·exact⟨_,rfl⟩
  ·rename_i h0;have he:=amh (o:=p.aC.order) hv hr;unfold rE;rw[aq (by rintro (q|q);exact q ho;exact h0 q),hr,aq (by decide),aq (by omega)];exact⟨_,rfl⟩
theorem Xb{ms:qr aS}(h:∀i,∃b,jm ms i=.ok b):∀k i,re ms k i=-1
 |0,i=>rfl
 |k+1,i=>by obtain⟨b,hb⟩:=h i;unfold re Kb;rw[hb];exact Xb h k (i+1)
theorem Ek{α:Type}{p:α->Bool}{l:qr α}:(¬0<=dD p l)↔∀x∈l,p x=false:=by
 constructor
 ·exact vA
 ·intro h q;obtain⟨i,hi,_,hb⟩:=KJ q
  grind
theorem Kp{ms:qr aS}(hm:∀p∈ms,eD p)(h1:1<=ms.length)(hl:ms.length<=6):(fW ms).1 =0↔(∀p∈ms,oA p=true)/\xn ms=false:=by
 unfold fW;rw[aq (by omega)];constructor
 ·intro h;split at h
  ·exact absurd h (by simp)
  rename_i a1;split at h
  ·exact absurd h (by simp)
  rename_i a2;split at h
  ·exact absurd h (by simp)
  rename_i a3;split at h
  ·exact absurd h (by simp)
  rename_i a4;split at h
  ·exact absurd h (by simp)
  rename_i a5;refine⟨λp hp=>?_,by simpa using a5⟩;unfold oA;rw[vA a1 p hp,vA a2 p hp,vA a3 p hp,vA a4 p hp];rfl
 ·rintro ⟨hg,h1⟩
  rw[aq (Ek.2 λp hp=>(oB (hg p hp)).1),aq (Ek.2 λp hp=>(oB (hg p hp)).2.1),aq (Ek.2 λp hp=>(oB (hg p hp)).2.2.1),aq (Ek.2 λp hp=>(oB (hg p hp)).2.2.2),h1,aq (by decide),Xb (Xd hm hl hg),aq (by decide)]
theorem JG(ms:qr aS)(h:1<=ms.length):iz ms=0↔(fW ms).1 =0:=by
 unfold iz;constructor
 ·intro hc;split at hc
  ·rename_i q;exact q
  split at hc
  ·rw[aq (by omega)] at hc;cases hc
  split at hc
  ·rename_i h0 h1 h2;exfalso;have hidx:0<=dD jL ms/\(fW ms).2 =dD jL ms:=by
    unfold fW at h2⊢;split at h2
    ·exact absurd h2 (by decide)
    rename_i a;rw[aq a];split at h2
    ·rename_i b;rw[ay b];exact⟨b,rfl⟩
    ·exfalso
     repeat' split at h2
     all_goals(simp only at h2;exact absurd h2 (show¬((_:Int)=2) by decide))
   obtain⟨i,hi,he,hb⟩:=KJ hidx.1;rw[hidx.2,he,nh,cG hi] at hc;unfold jL at hb;simp only at hc;cases ha:iS ms[i].aC with
   |ok b=>rw[ha] at hb;cases hb
   |error e=>rw[ha] at hc;exact Qw ha hc
  repeat' split at hc
  all_goals(exact absurd hc (by decide))
 ·intro h0;rw[ay h0]
def QU:qr UInt8:=[255,216,255,218,0,8,1,1,0,0,63,0,7,255,217]
def Fq:aS:=⟨⟨2,[⟨274,3,1,[0,1]⟩],[],[],[],[],[],[]⟩,[],QU,0,0,0,[]⟩
structure rK where
 p:aS
 b:List UInt8
 aO:List UInt8
def E8(x:Except Int (qr UInt8)):qr UInt8:=match x with| .ok b=>b| .error _=>[]
def aK(ms:qr aS)(i:Nat):rK:=⟨(ms[i]?).getD Fq,E8 (jm ms i),E8 (iS ((ms[i]?).getD Fq).aC)⟩
def iC(g:rK):qr H1:=[.int .i64 g.p.aC.order,ar g.p.aC.cn,ar g.p.aC.bD,ar g.p.aC.bG,ar g.p.aC.bj,ar g.p.aC.first,ag g.p.aC.bC,ag g.p.aC.cF,ag g.p.bZ,ag g.p.core,ag g.b,.int .i64 (jX g.aO g.b),.int .i64 ((eR (fF g.p g.b) g.aO).length:Int)]
theorem xL(g:rK):(iC g).length=13:=rfl
def fY(ms:qr aS):qr rK:=(List.range ms.length).map (aK ms)
structure fo(ms:List aS):Prop where
 mem:∀p∈ms,eD p
 le:ms.length<=6
 qQ:∀p∈ms,oA p=true
theorem fo.Sz{ms:qr aS}(F:fo ms){i:Nat}(hi:i<ms.length):∃b aO,jm ms i=.ok b/\iS ms[i].aC=.ok aO/\nE ms[i].core=true/\aK ms i=⟨ms[i],b,aO⟩:=by
 obtain⟨b,hb⟩:=Xd F.mem F.le F.qQ i;obtain⟨aO,hc⟩:=Qy (λp hp=>(oB (F.qQ p hp)).1) hi;refine⟨b,aO,hb,hc,?_,?_⟩
 ·have:=(oB (F.qQ _ (cA hi))).2.1;unfold nC at this
  grind
 ·unfold aK;rw[cG hi,qI,hb,hc];rfl
theorem D8{ms:qr aS}(hm:∀p∈ms,eD p)(hl:ms.length<=6\/1000<ms.length)(h:iz ms=0):fo ms/\1<=ms.length:=by
 by_cases h0:ms.length<1\/1000<ms.length
 ·exfalso;unfold iz at h;rw[(show(fW ms).1 =1 from by unfold fW;rw[ay h0])] at h;omega
 ·have h1:1<=ms.length:=by omega
  have h6:ms.length<=6:=by omega
  have:=(JG ms h1).1 h;have:=(Kp hm h1 h6).1 this;exact⟨⟨hm,h6,this.1⟩,h1⟩
theorem ag6(a d e:Int)(x:dF)(c:qr UInt8)(hx:x=Fq.aC\/x=⟨1,[],[],[],[],[],[],[]⟩)(hc:c=QU\/c=[]):eD ⟨x,[],c,a,d,e,[]⟩:=by
 have t0:TS []:=⟨by decide,λt h=>by cases h⟩;have hcl:c.length<=2000:=by rcases hc with rfl|rfl<;>decide
 rcases hx with rfl|rfl
 ·exact⟨(show TS [⟨274,3,1,[0,1]⟩] from⟨by decide,λt h=>by rw[nj.1 h];decide⟩),t0,t0,t0,t0,t0,(show 0<=2000 by decide),(show 0<=2000 by decide),(show 0<=2000 by decide),hcl⟩
 ·exact⟨t0,t0,t0,t0,t0,t0,(show 0<=2000 by decide),(show 0<=2000 by decide),(show 0<=2000 by decide),hcl⟩
theorem Li:eD Fq:=ag6 0 0 0 _ _ (.inl rfl) (.inl rfl)
def mB(l:qr aL):Bool:=l.any (λt=>decide (600<t.data.length))||decide (60<l.length)
theorem akF{w:Nat}(l:qr aL)(hl:l.length<2^63)(hw:l.length<w):Yd w (ar l)=some (mB l):=by
 have hlr:∀K:Nat->Hx Bool,aw (ar l) K=K l.length:=λK=>cd cC l K;have key:∀(k i v:Nat),i+k=l.length->k<v->∀(z:H1->Int->Hx Bool)(F:(H1->Int->Hx Bool)->H1->Int->Hx Bool),
  (∀(x3:H1->Int->Hx Bool)(x4:H1)(x5:Int),F x3 x4 x5=aw x4 λ(x6:Nat)=>bif ak x5 (Int.ofNat x6) then aF x5 λ(x7:Nat)=>aJ 4 x7 x4 λx8=>af (List.drop 2 (List.drop 1 x8)) λ(x9:H1)(x10:qr H1)=>aw x9 λ(x11:Nat)=>bif ak 600 (Int.ofNat x11) then some true else x3 x4 (ah IntKind.i64 (x5.add 1)) else aw x4 λ(x12:Nat)=>some (ak 60 (Int.ofNat x12)))->
  lp z F v (ar l) i=some ((l.drop i).any (λt=>decide (600<t.data.length))||decide (60<l.length)):=by
  intro k;induction k with
  |zero=>
   intro i v hi hv z F hF;have e1:¬((i:Int)<(l.length:Int)):=by omega
   rw[eB z F (by omega),hF,hlr,show l.drop i=[] from uK (by omega)];simp only[aU,bU,e1,bL,aD];rw[hlr,List.any_nil,zI]
   congr 1
   rw[iH,cf,cf];omega
  |succ k ih=>
   intro i v hi hv z F hF;have hiL:i<l.length:=by omega
   have e1:((i:Int)<(l.length:Int)):=by omega
   have dd:∀(y:aL)(r:qr H1),List.drop 2 (List.drop 1 (cC y++r))=ag y.data::r:=λ_ _=>rfl;rw[eB z F (by omega),hF,hlr];simp only[aU,bU,e1,aY,aE,bP];rw[show ar l=aB cC l from rfl,bn gW hiL,dd];simp only[aX];rw[cI,dk hiL,List.any_cons];by_cases h:600<l[i].data.length
   ·have e2:(600:Int)<(l[i].data.length:Int):=by omega
    simp_all
   ·have e2:¬((600:Int)<(l[i].data.length:Int)):=by omega
    simp only[h,e2,bL,aD];have:=ih (i+1) (v -1) (by omega) (by omega) z F hF;rw[cc,aP (by omega) (by omega)];exact this
 exact key l.length 0 w (by omega) hw _ _ (λ_ _ _=>rfl)
theorem zC{l:qr aL}(h:mB l=false):TS l:=by unfold mB at h;simp_all;exact⟨by omega,λt ht=>by have:=h.1 t ht;omega⟩
def C4(p:aS):Bool:=mB p.aC.cn||(mB p.aC.bD||(mB p.aC.bG||(mB p.aC.bj||(mB p.aC.first||(mB p.view||(decide (2000<p.aC.bC.length)||(decide (2000<p.aC.cF.length)||(decide (2000<p.bZ.length)||decide (2000<p.core.length)))))))))
theorem amf{p:aS}(h:C4 p=false):eD p:=by unfold C4 at h;simp_all;obtain⟨a0,a2,a3,a4,a1,av,b1,b2,b3,b4⟩:=h;exact⟨zC a0,zC a2,zC a3,zC a4,zC a1,zC av,by omega,by omega,by omega,by omega⟩
structure IU(w:Nat)(ms:List aS):Prop where
 n:ms.length<2^63
 rows:∀p∈ms,∀l∈[p.aC.cn,p.aC.bD,p.aC.bG,p.aC.bj,p.aC.first,p.view],l.length<2^63/\l.length<w
theorem WC(l:qr aL):rowOf (ar l)=some (l.length,l.flatMap cC):=rfl
theorem XX(w:Nat)(a b:Int)(d:qr UInt8)(hd:d.length<=1000000000):uk w a b (ag d)=some (a,b,ag d):=by unfold uk;rw[rR w _ hd];rfl
theorem Me(w:Nat):∀l:qr aL,(∀t∈l,t.data.length<=1000000000)->nQ (uk w) (l.flatMap cC)=some (l.flatMap cC)
 |[],_=>rfl
 |t::l,h=>by have e:(t::l).flatMap cC=.int .i64 t.tag::.int .i64 t.ty::.int .i64 t.az::ag t.data::l.flatMap cC:=rfl;rw[e];unfold nQ;rw[show bh [ag t.data]=true from rfl,aE,XX w _ _ _ (h t (by simp)),aA,Me w l λx hx=>h x (by grind),aA]
theorem Ty:∀(l:qr aL)(i:Nat)(p:aL->Bool),(∀x (h:x<l.length),x<i->p l[x]=true)->(∀x (h:x<l.length),i<=x->p l[x]=false)->l.filter p=l.take i
 |[],_,_,_,_=>by simp
 |a::l,0,p,h1,h2=>by rw[oZ,List.filter_eq_nil_iff];intro x hx;obtain⟨k,hk,rfl⟩:=List.mem_iff_getElem.1 hx;simp_all
 |a::l,i+1,p,h1,h2=>by have h0:=h1 0 (by simp) (by simp);simp at h0;rw[kA,ay h0,oa,Ty l i p (λx h q=>by have:=h1 (x+1) (by grind) (by omega);simpa using this) λx h q=>by have:=h2 (x+1) (by simp;omega) (by omega);simpa using this]
theorem KB:∀(l:qr aL)(i:Nat)(p:aL->Bool),(∀x (h:x<l.length),x<i->p l[x]=false)->(∀x (h:x<l.length),i<=x->p l[x]=true)->l.filter p=l.drop i
 |[],_,_,_,_=>by simp
 |a::l,0,p,h1,h2=>by rw[ew,List.filter_eq_self];intro x hx;obtain⟨k,hk,rfl⟩:=List.mem_iff_getElem.1 hx;simp_all
 |a::l,i+1,p,h1,h2=>by have h0:=h1 0 (by simp) (by simp);simp at h0;rw[kA,aq (by simp[h0]),List.drop_succ_cons,KB l i p (λx h q=>by have:=h1 (x+1) (by grind) (by omega);simpa using this) λx h q=>by have:=h2 (x+1) (by simp;omega) (by omega);simpa using this]
theorem aaA{w:Nat}(l:qr aL)(t:Int)(hr:fR l=true)(hl:l.length<2^20)(hw:l.length+2<w)(hd:∀t∈l,t.data.length<=1000000000):zc w (ar l) t=some (ar (pw l t)):=by
 obtain⟨i,a,b,c,h1,h2⟩:=Ou l t hr (by omega) hw;unfold zc xy;rw[WC,aA,(da gW l),np,show Nat.blt l.length 1000000000=true by simp;omega];rw[show(true&&true)=true from rfl,Me w l hd,aA,show ae l.length (l.flatMap cC)=ar l from rfl,a,aA];cases hf:iN l t with
 |none=>
  have:pw l t=l:=by unfold pw;rw[List.filter_eq_self];intro x hx;have:=List.find?_eq_none.1 (hf) x hx;simpa using this
  rw[this];rfl
 |some x=>
  obtain⟨hi,hx⟩:=c (by rw[hf];rfl);have ht:l[i].tag=t:=by have h0:=List.find?_some (hf);rw[hf] at hx;rw[<-jH hx];simpa using h0
  have e1:(decide ((0:Int)<=((i:Nat):Int))&&Nat.blt i l.length)=true:=by simp;omega
  have hdr:pw l t=l.take i++l.drop (i+1):=by
   unfold pw
   conv=>lhs;rw[<-lI i l,dk hi]
   rw[List.filter_append,kA,aq (by simp[ht])]
   congr 1
   ·rw[List.filter_eq_self];intro x hx;obtain⟨k,hk,rfl⟩:=List.mem_iff_getElem.1 hx;simp at hk;have:=h1 k (by omega) (by omega);simp;omega
   ·rw[List.filter_eq_self];intro x hx;obtain⟨k,hk,rfl⟩:=List.mem_iff_getElem.1 hx;simp at hk;have:=vX hr (show i<i+1+k by omega) (show i+1+k<l.length by omega);simp;omega
  simp only[Option.isSome_some,aE,e1,nh];rw[nI gW,xF gW,xF gW,eQ (l:=l.drop (i+1)) (by simp),hdr,<-fD];unfold ar aB;rw[show(l.take i++l.drop (i+1)).length=l.length -1 by simp;omega]
theorem aiK{w:Nat}(l:qr aL)(x:aL)(hr:fR l=true)(hl:l.length<2^20)(hw:l.length+2<w)(hd:∀t∈l,t.data.length<=1000000000)(hx:x.data.length<=1000000000):Cq w (ar l) x.tag x.ty x.az (ag x.data)=some (ar (ku l x)):=by
 obtain⟨i,a,b,c,h1,h2⟩:=Ou l x.tag hr (by omega) hw;unfold Cq yD;rw[WC,aA,(da gW l),np,show Nat.blt l.length 1000000000=true by simp;omega,show bh [ag x.data]=true from rfl];rw[show(true&&true&&true)=true from rfl,aE,Me w l hd,XX w _ _ _ hx,aA,show ae l.length (l.flatMap cC)=ar l from rfl,a];have hlt:l.filter (λy=>decide (y.tag<x.tag))=l.take i:=Ty l i _ (λk h q=>by have:=h1 k h q;simpa using this) λk h q=>by have:=h2 k h q;simp;omega
 cases hf:iN l x.tag with
 |none=>
  have cL:∀k (h:k<l.length),l[k].tag≠x.tag:=λk h=>by have:=List.find?_eq_none.1 (hf) l[k] (cA h);simpa using this
  simp_all;rw[nI gW,xF gW];unfold ku ar aB;rw[hlt,(KB l i _ (λk h q=>by have:=h1 k h q;simp;omega) λk h q=>by have:=h2 k h q;have:=cL k h;simp;omega),fD,show(l.take i++x::l.drop i).length=l.length+1 by simp;omega];rfl
 |some y=>
  obtain⟨hi,hy⟩:=c (by rw[hf];rfl);have ht:l[i].tag=x.tag:=by rw[hf] at hy;rw[<-jH hy];simpa using(List.find?_some (hf))
  have hgt:l.filter (λy=>decide (x.tag<y.tag))=l.drop (i+1):=KB l (i+1) _ (λk h q=>by
   by_cases hk:k=i
   ·subst hk;simp;omega
   ·have:=h1 k h (by omega);simp;omega) λk h q=>by have:=vX hr (show i<k by omega) h;simp;omega
  simp_all;rw[nI gW,xF gW];unfold ku ar aB;rw[hlt,hgt,fD,show(l.take i++x::l.drop (i+1)).length=l.length by simp;omega];rfl
theorem DD(l:qr UInt8):bm (l.map λb=>(b.toNat:Int))=l.map aZ:=by unfold bm;rw[List.map_map];rfl
theorem aak{w:Nat}(b:qr UInt8)(hb:b.length<=65519):CD w (ag b)=some (aB eM (gp b),0):=by
 unfold CD Aj;rw[rP,cD,Yt w _ (by omega),aA];cases b with
 |nil=>rfl
 |cons a b=>
  rw[(show xv (a::b).length=1 from by unfold xv;simp_all;omega),show(aj ((1:Nat):Int) 1&&Nat.ble (a::b).length 65519)=true by rw[show Nat.ble (a::b).length 65519=true by rw[iy];exact hb];rfl];have e:bm (mN++(a::b).map λb=>(b.toNat:Int))=(fX++1::1::(a::b)).map aZ:=by rw[<-DD];rfl
  rw[e,(show gp (a::b)=[fX++1::1::(a::b)] from by unfold gp;rw[aq (by simp)])];unfold aB eM ag aB;rw[dN,(show∀l:qr UInt8,l.flatMap mM=l.map aZ fromλl=>by induction l with|nil=>rfl|cons x l ih=>rw[dN,ih];rfl),(show(fX++1::1::(a::b)).length=14+(a::b).length from by simp[fX];omega)]
  rfl
theorem ZR{w:Nat}(a b c d:qr UInt8)(h0:0<a.length)(h:a.length+b.length+c.length+d.length<2^29):ug w (ag a) (ag b) (ag c) (d.map aZ)=some ((d++(a++(b++c))).map aZ):=by
 unfold ug;rw[PS,aA,rP,rP,rP,<-fS,<-fS,<-fS,DD];have e:(Nat.blt 0 (d++(a++(b++c))).length&&Nat.ble (d++(a++(b++c))).length 1000000000)=true:=by simp;omega
 grind
theorem acm(t:Int):(kindOf t).1 <=8:=by
 unfold kindOf
 repeat' split
 all_goals decide
theorem acR{ty az:Int}{l:qr UInt8}(h:eH ty az l=true):l.length<=524288:=by obtain⟨h0,h1,h2,h3⟩:=vK h;have:az*(kindOf ty).1 <=az*8:=Int.mul_le_mul_of_nonneg_left (acm ty) (by omega);omega
theorem acU{w:Nat}(l:qr aL)(h:∀t∈l,eH t.ty t.az t.data=true)(hl:l.length<=65535)(hw:65540<=w):nW w (ar l)=some false:=by
 have key:Pb w (ar l)=some (-1):=by
  refine gO (ev:=λi (g:H1->Int->Int->Hx Int)=>g (ar l) (l.length:Int) i) l.length ?_ ?_ (by omega)
  ·intro i g hi;simp_all;rw[show ar l=aB cC l from rfl,bn gW hi,(show∀(y:aL)(r:qr H1),cC y++r=Value.int .i64 y.tag::.int .i64 y.ty::.int .i64 y.az::ag y.data::r fromλ_ _=>rfl)];simp;have hm:=h l[i] (cA hi);unfold O2;rw[yY w _ _ _ (by have:=acR hm;omega),hm,aP (by omega) (by omega)];rfl
  ·intro g;simp
 unfold nW;rw[key];rfl
theorem MY(d:aV):(fZ (dT d)&&(fZ (dS d)&&fZ (dB d)))=true:=by cases d;rfl
theorem acQ{w:Nat}(hw:65540<=w){sh:qr bg}{s:Nat}{d:aV}(h:cR sh s d=true):mR (kL w) (nW w) (dT d) (dS d) (dB d)=true:=by
 unfold mR;rw[MY];obtain⟨tags,subs,blob⟩:=d;unfold cR at h;simp_all;obtain⟨⟨h1,h2⟩,h3,_⟩:=h;have hn:bF (.mk tags subs blob)=tags.length+cm subs+(if blob.length=0 then 0 else 2):=rfl;have hT:∀t∈tags,eH t.ty t.az t.data=true:=λt ht=>by unfold kx at h3;simp_all
 rw[show dT (.mk tags subs blob)=ar tags from rfl,show dS (.mk tags subs blob)=ae (cm subs) (gR subs) from rfl,show dB (.mk tags subs blob)=ag blob from rfl,Hh w tags subs blob (by omega),acU tags hT (by omega) hw]
 grind
mutual
theorem TF{w:Nat}(hw:65540<=w){sh:qr bg}:∀(d:aV)(s f:Nat),cR sh s d=true->gq d<=f->mm (mR (kL w) (nW w)) f (dT d) (dS d) (dB d)=true
 | .mk tags subs blob,s,0,h,hf=>by simp[gq] at hf
 | .mk tags subs blob,s,f+1,h,hf=>by unfold mm;rw[acQ hw h];unfold cR at h;simp at h;obtain⟨⟨h1,h2⟩,_,_,_,h5⟩:=h;have hn:bF (.mk tags subs blob)=tags.length+cm subs+(if blob.length=0 then 0 else 2):=rfl;show(Nat.beq (gR subs).length (cm subs*4)&&Nat.blt (cm subs) 1000000000&&vJ (mm (mR (kL w) (nW w)) f) (gR subs))=true;rw[YN,np,show Nat.blt (cm subs) 1000000000=true by simp;omega,TH hw subs _ f h5 (by simp only[gq] at hf;omega)];rfl
theorem TH{w:Nat}(hw:65540<=w){sh:qr bg}:∀(s:cP)(S:bg)(f:Nat),jh sh S s=true->jZ s<=f->vJ (mm (mR (kL w) (nW w)) f) (gR s)=true
 | .nil,_,_,_,_=>rfl
 | .cons tag d r,S,f,h,hf=>by unfold jh at h;simp_all;unfold jZ at hf;rw[show gR (.cons tag d r)=.int .i64 tag::(dw d++gR r) from rfl,qk];show((fZ (dT d)&&(fZ (dS d)&&fZ (dB d)))&&mm (mR (kL w) (nW w)) f (dT d) (dS d) (dB d)&&vJ (mm (mR (kL w) (nW w)) f) (gR r))=true;rw[MY,TF hw d _ f h.2.1 (by omega),TH hw r S f h.2.2 (by omega)];rfl
end
theorem acS{w:Nat}(hw:65540<=w)(o:Int)(ds:qr aV)(hn:ds.length<1000000000)(h:∀d∈ds,∃(sh:qr bg)(s:Nat),cR sh s d=true)(hd:kV ds<=w):wu w o (dc ds)=some true:=by
 have hC:∀ds:qr aV,(∀d∈ds,∃(sh:qr bg)(s:Nat),cR sh s d=true)->kV ds<=w->sc (mm (mR (kL w) (nW w)) w) (ds.flatMap dw)=true:=by
  intro ds;induction ds with
  |nil=>intro _ _;rfl
  |cons d ds ih=>intro h hd;obtain⟨sh,s,h0⟩:=h d (by simp);unfold kV at hd;rw[dN,qk];show((fZ (dT d)&&(fZ (dS d)&&fZ (dB d)))&&mm (mR (kL w) (nW w)) w (dT d) (dS d) (dB d)&&sc (mm (mR (kL w) (nW w)) w) (ds.flatMap dw))=true;rw[MY,TF hw d s w h0 (by omega),ih (λx hx=>h x (by grind)) (by omega)];rfl
 show cond (Nat.beq (ds.flatMap dw).length (ds.length*3)&&(Nat.blt ds.length 1000000000&&sc (mm (mR (kL w) (nW w)) w) (ds.flatMap dw))) (some true) none=some true;rw[(da kW ds),np,show Nat.blt ds.length 1000000000=true by simp;omega,hC ds h hd];rfl
theorem abn{w:Nat}(hw:65540<=w):Hand w:=
 ⟨λo ds hn h hd=>acS hw o ds hn h hd,λl x h1 h2 h3 h4 h5=>aiK l x h1 h2 h3 h4 h5,λl t h1 h2 h3 h4=>aaA l t h1 h2 h3 h4,λb h=>aak b h,λa b c d h0 h=>ZR a b c d h0 h⟩
section
open Go.Shelf Go.RowKit Go.Lib Go.ChangeShapes Go.WideShapes Go.Deep
section
variable{H:Type} {enc:TypeId×H1->H} {P:Program} {w:jp} {base:Nat} {spare:Nat->Bool} {held:Bool}
theorem ZS{b i:Nat}{y:H1}(h:w.cell? ⟨b,i,none⟩=some y):fP w b i=some y:=by
 unfold fP;split
 ·rename_i es c q;unfold World.cell? at h;simp only[q] at h;cases h
 ·exact h
theorem ZT{a:Addr}{y:H1}(h:w.cell? a=some y):a.spot=none:=by
 unfold World.cell? at h;split at h
 ·split at h
  ·cases h
  ·rename_i q;cases e:a.spot with
   |none=>rfl
   |some _=>rw[e] at q;exact absurd rfl q
 ·cases h
theorem Ve{α:Type}{f:α->qr H1}(h:∀x,bh (f x)=true):∀l:qr α,bh (l.flatMap f)=true
 |[]=>rfl
 |x::l=>by rw[dN];exact E9 (h x) (Ve h l)
theorem PR{α:Type}{t e:TypeId}{k:Nat}(f:α->qr H1)(pf:∀p,bh (f p)=true)(ht:P.underlying t=some (.slice e))(hk:P.cellsOf e=k)(k0:0<k){fuel:Nat}{cs:qr H1}{x:DataW H×qr MemPlace}
 (each:∀fuel cs x,DataW.trod enc P w base spare held fuel e cs=some x->∃p:α,bI (λb i=>fP w b i) (f p) cs) (h:DataW.trod enc P w base spare held fuel t cs=some x):
 ∃(l:qr α)(v:H1),cs=[v]/\aN (λb i=>fP w b i) (aB f l) v/\l.length<=maxLen:=by
 rcases open_slice ht h with⟨rfl,_⟩|⟨a,len,cap,m,n,D,Pl,rfl,hb,hl,hm,hmm,hx,hi⟩
 ·exact⟨[],_,rfl,.gy,ib _⟩
 have hlm:len<=m:=by rw[hmm];split<;>omega
 have key:∀j,j<=len->∃(l:qr α)(ys:qr H1),l.length=j/\bI (λb i=>fP w b i) (l.flatMap f) ys/\ys.length=j*k/\∀q y,ys[q]? =some y->w.cell? (a.add q)=some y:=by
  intro j;induction j with
  |zero=>intro _;exact⟨[],[],rfl,.nil,by simp,λq y h=>by simp at h⟩
  |succ j ih=>
   intro hj;obtain⟨l,ys,e1,e2,e3,e4⟩:=ih (by omega);obtain⟨cs',hc,htr⟩:=hi j (by omega);obtain⟨p,hp⟩:=each _ _ _ htr;rw[hk] at hc;obtain⟨_,hcl,hat⟩:=World.cells?_some hc;refine⟨l++[p],ys++cs',by simp[e1],?_,by simp[e3,hcl,lP],λq y hq=>?_⟩
   ·rw[fD,dN,lH,ea];exact e2.join hp
   ·rcases ia q ys.length with hlt|hge
    ·rw[wT hlt] at hq;exact e4 q y hq
    ·rw[uL hge] at hq;have hql:=(oW.1 hq).1;have:=hat (q -ys.length) (by omega);rw[hq] at this;rw[<-this,Go.Deep.add_add]
     congr 2
     omega
 obtain⟨l,ys,e1,e2,e3,e4⟩:=key len (aM _);refine⟨l,_,rfl,?_,by omega⟩;by_cases h0:len=0
 ·have:l=[]:=kP (by omega);subst this;subst h0;exact .gy
 ·obtain⟨y0,hy0⟩:∃y,ys[0]? =some y:=⟨_,cG (by rw[e3];exact Nat.mul_pos (by omega) k0)⟩;obtain⟨b,o,sp⟩:=a;have hs:sp=none:=by
   have:=ZT (e4 0 y0 hy0);unfold Addr.add at this;first|exact this|(split at this<;>exact this)|simpa using this
  subst hs;subst e1;refine aN.row e2 (λi y hy=>ZS ?_) rfl hl (Ve pf l);have:=e4 i y hy;rwa[Addr.add_lit] at this
end
end
section
open Go.Shelf Go.RowKit Go.Lib Go.ChangeShapes Go.WideShapes Go.Deep
theorem QL:Tryz.prog.cellsOf 136=4:=by kernel_rfl
theorem vf:Tryz.prog.cellsOf 3=1:=by kernel_rfl
theorem ZX:Tryz.prog.cellsOf 5=1:=by kernel_rfl
theorem ZY:Tryz.prog.cellsOf 134=3:=by kernel_rfl
theorem Ag:Tryz.prog.cellsOf 26=1:=by kernel_rfl
theorem xr:Tryz.prog.cellsOf 25=1:=by kernel_rfl
theorem ZV:Tryz.prog.cellsOf 28=8:=by kernel_rfl
theorem QK:Tryz.prog.cellsOf 30=14:=by kernel_rfl
theorem ZW:Tryz.prog.cellsOf 22=1:=by kernel_rfl
theorem ZU:Tryz.prog.cellsOf 24=1:=by kernel_rfl
section
variable{H:Type} {enc:TypeId×H1->H} {w:jp} {base:Nat} {spare:Nat->Bool} {held:Bool}
theorem jO{t:TypeId}{fs:Array Field}{fuel:Nat}{cs:qr H1}{x:DataW H×qr MemPlace}(ht:Tryz.prog.underlying t=some (.struct fs))(h:DataW.trod enc Tryz.prog w base spare held fuel t cs=some x)(i:Nat)(f:Field)(hf:fs[i]? =some f){k:Nat}(hk:Tryz.prog.cellsOf f.type=k):
 ∃n y,DataW.trod enc Tryz.prog w base spare held n f.type ((cs.drop f.offset).take k)=some y:=by
 obtain⟨xs,n,_,_,_,hl,hat⟩:=DataW.trod_struct ht h;have hi:i<fs.size:=(fy.1 hf).1;subst hk;exact⟨n,_,(hat i f hf).trans (cG (by omega))⟩
theorem lenOf{t:TypeId}{fs:Array Field}{fuel:Nat}{cs:qr H1}{x:DataW H×qr MemPlace}(ht:Tryz.prog.underlying t=some (.struct fs))(h:DataW.trod enc Tryz.prog w base spare held fuel t cs=some x){k:Nat}(hk:Tryz.prog.cellsOf t=k):cs.length=k:=by obtain⟨_,_,_,_,hl,_⟩:=DataW.trod_struct ht h;rw[hl,hk]
theorem vW{fuel:Nat}{cs:qr H1}{x:DataW H×qr MemPlace}(h:DataW.trod enc Tryz.prog w base spare held fuel 3 cs=some x):∃n,cs=[.int .i64 n]:=by obtain⟨n,e,_⟩:=DataW.trod_int Tryz.underlying3 h;exact⟨n,e⟩
theorem ahR{fuel:Nat}{cs:qr H1}{x:DataW H×qr MemPlace}(h:DataW.trod enc Tryz.prog w base spare held fuel 5 cs=some x):∃b:UInt8,bI (λb i=>fP w b i) (mM b) cs:=by
 obtain⟨n,rfl,_,q⟩:=DataW.trod_int Tryz.underlying5 h;have hq:0<=n/\n<=255:=by unfold Lit.wf at q;rw[bB] at q;exact⟨oh q.1,oh q.2⟩
 refine⟨UInt8.ofNat n.toNat,?_⟩;have e:mM (UInt8.ofNat n.toNat)=[.int .u8 n]:=by
  unfold mM aZ;have:((UInt8.ofNat n.toNat).toNat:Int)=n:=by rw[wX];omega
  rw[this]
 rw[e];exact .cons (.int _ _) .nil
theorem Bz{fuel:Nat}{cs:qr H1}{x:DataW H×qr MemPlace}(h:DataW.trod enc Tryz.prog w base spare held fuel 26 cs=some x):∃(l:qr UInt8)(v:H1),cs=[v]/\aN (λb i=>fP w b i) (ag l) v/\l.length<=maxLen:=
 PR mM (λ_=>rfl) Tryz.underlying26 ZX (by decide) (λ_ _ _ h=>ahR h) h
theorem ahT{fuel:Nat}{cs:qr H1}{x:DataW H×qr MemPlace}(h:DataW.trod enc Tryz.prog w base spare held fuel 136 cs=some x):∃t:aL,bI (λb i=>fP w b i) (cC t) cs:=by
 have hl:=lenOf Tryz.underlying136 h QL
 match cs,hl with
 |[a,b,c,d],_=>obtain⟨_,_,h0⟩:=jO Tryz.underlying136 h 0 _ rfl vf;obtain⟨_,_,h1⟩:=jO Tryz.underlying136 h 1 _ rfl ZY;obtain⟨_,_,h2⟩:=jO Tryz.underlying134 h1 0 _ rfl vf;obtain⟨_,_,h3⟩:=jO Tryz.underlying134 h1 1 _ rfl vf;obtain⟨_,_,h4⟩:=jO Tryz.underlying134 h1 2 _ rfl Ag;obtain⟨n0,e0⟩:=vW h0;obtain⟨n1,e1⟩:=vW h2;obtain⟨n2,e2⟩:=vW h3;obtain⟨l,v,e3,L,_⟩:=Bz h4;have e0:[a]=[.int .i64 n0]:=e0;have e1:[b]=[.int .i64 n1]:=e1;have e2:[c]=[.int .i64 n2]:=e2;have e3:[d]=[v]:=e3;cases e0;cases e1;cases e2;cases e3;exact⟨⟨n0,n1,n2,l⟩,.cons (.int _ _) (.cons (.int _ _) (.cons (.int _ _) (.cons L .nil)))⟩
theorem yk{fuel:Nat}{cs:qr H1}{x:DataW H×qr MemPlace}(h:DataW.trod enc Tryz.prog w base spare held fuel 25 cs=some x):∃(l:qr aL)(v:H1),cs=[v]/\aN (λb i=>fP w b i) (ar l) v/\l.length<=maxLen:=
 PR cC (λ_=>rfl) Tryz.underlying25 QL (by decide) (λ_ _ _ h=>ahT h) h
def zP(p:aS):Prop:=∀l∈[p.aC.cn,p.aC.bD,p.aC.bG,p.aC.bj,p.aC.first,p.view],l.length<=maxLen
theorem ahS{fuel:Nat}{cs:qr H1}{x:DataW H×qr MemPlace}(h:DataW.trod enc Tryz.prog w base spare held fuel 30 cs=some x):∃p:{p:aS//zP p},bI (λb i=>fP w b i) (cN p.1) cs:=by
 have hl:=lenOf Tryz.underlying30 h QK
 match cs,hl with
 |[a0,a1,a2,a3,a4,a5,a6,a7,a8,a9,a10,a11,a12,a13],_=>obtain⟨_,_,hE⟩:=jO Tryz.underlying30 h 0 _ rfl ZV;obtain⟨_,_,h0⟩:=jO Tryz.underlying28 hE 0 _ rfl vf;obtain⟨_,_,h1⟩:=jO Tryz.underlying28 hE 1 _ rfl xr;obtain⟨_,_,h2⟩:=jO Tryz.underlying28 hE 2 _ rfl xr;obtain⟨_,_,h3⟩:=jO Tryz.underlying28 hE 3 _ rfl xr;obtain⟨_,_,h4⟩:=jO Tryz.underlying28 hE 4 _ rfl xr;obtain⟨_,_,h5⟩:=jO Tryz.underlying28 hE 5 _ rfl xr;obtain⟨_,_,h6⟩:=jO Tryz.underlying28 hE 6 _ rfl Ag;obtain⟨_,_,h7⟩:=jO Tryz.underlying28 hE 7 _ rfl Ag;obtain⟨_,_,h8⟩:=jO Tryz.underlying30 h 1 _ rfl Ag;obtain⟨_,_,h9⟩:=jO Tryz.underlying30 h 2 _ rfl Ag;obtain⟨_,_,h10⟩:=jO Tryz.underlying30 h 3 _ rfl vf;obtain⟨_,_,h11⟩:=jO Tryz.underlying30 h 4 _ rfl vf;obtain⟨_,_,h12⟩:=jO Tryz.underlying30 h 5 _ rfl vf;obtain⟨_,_,h13⟩:=jO Tryz.underlying30 h 6 _ rfl xr;obtain⟨n0,e0⟩:=vW h0;obtain⟨l1,v1,e1,L1,m1⟩:=yk h1;obtain⟨l2,v2,e2,L2,m2⟩:=yk h2;obtain⟨l3,v3,e3,L3,m3⟩:=yk h3;obtain⟨l4,v4,e4,L4,m4⟩:=yk h4;obtain⟨l5,v5,e5,L5,m5⟩:=yk h5;obtain⟨l6,v6,e6,L6,_⟩:=Bz h6;obtain⟨l7,v7,e7,L7,_⟩:=Bz h7;obtain⟨l8,v8,e8,L8,_⟩:=Bz h8;obtain⟨l9,v9,e9,L9,_⟩:=Bz h9;obtain⟨n10,e10⟩:=vW h10;obtain⟨n11,e11⟩:=vW h11;obtain⟨n12,e12⟩:=vW h12;obtain⟨l13,v13,e13,L13,m13⟩:=yk h13;have e0:[a0]=[.int .i64 n0]:=e0;have e1:[a1]=[v1]:=e1;have e2:[a2]=[v2]:=e2;have e3:[a3]=[v3]:=e3;have e4:[a4]=[v4]:=e4;have e5:[a5]=[v5]:=e5;have e6:[a6]=[v6]:=e6;have e7:[a7]=[v7]:=e7;have e8:[a8]=[v8]:=e8;have e9:[a9]=[v9]:=e9;have e10:[a10]=[.int .i64 n10]:=e10;have e11:[a11]=[.int .i64 n11]:=e11;have e12:[a12]=[.int .i64 n12]:=e12;have e13:[a13]=[v13]:=e13;cases e0;cases e1;cases e2;cases e3;cases e4;cases e5;cases e6;cases e7;cases e8;cases e9;cases e10;cases e11;cases e12;cases e13;refine⟨⟨⟨⟨n0,l1,l2,l3,l4,l5,l6,l7⟩,l8,l9,n10,n11,n12,l13⟩,λl hl=>?_⟩,.cons (.int _ _) (.cons L1 (.cons L2 (.cons L3 (.cons L4 (.cons L5 (.cons L6 (.cons L7 (.cons L8 (.cons L9 (.cons (.int _ _) (.cons (.int _ _) (.cons (.int _ _) (.cons L13 .nil)))))))))))))⟩;simp only[cZ,nk,nr] at hl;rcases hl with rfl|rfl|rfl|rfl|rfl|rfl<;>assumption
theorem ahQ{fuel:Nat}{cs:qr H1}{x:DataW H×qr MemPlace}(h:DataW.trod enc Tryz.prog w base spare held fuel 24 cs=some x):∃(ms:qr aS)(v:H1),cs=[v]/\aN (λb i=>fP w b i) (cx ms) v/\ms.length<=maxLen/\∀p∈ms,zP p:=by
 have hl:=lenOf Tryz.underlying24 h ZU
 match cs,hl with
 |[a],_=>
  obtain⟨_,_,h0⟩:=jO Tryz.underlying24 h 0 _ rfl ZW;obtain⟨l,v,e,L,hm⟩:=PR (λp:{p:aS//zP p}=>cN p.1) (λ_=>rfl) Tryz.underlying22 QK (by decide) (λ_ _ _ h=>ahS h) h0;have e:[a]=[v]:=e;cases e;refine⟨l.map (·.1),a,rfl,?_,by simpa using hm,λp hp=>?_⟩
  ·have:cx (l.map (·.1))=aB (λp:{p:aS//zP p}=>cN p.1) l:=by
    unfold cx aB;rw[cD,List.flatMap_map]
   rw[this];exact L
  ·obtain⟨q,_,rfl⟩:=mF.1 hp;exact q.2
end
end
def cU(ms:qr aS)(i:Nat):Nat:=(eR (fF (aK ms i).p (aK ms i).b) (aK ms i).aO).length
def cw(ms:qr aS):Nat->Nat
 |0=>0
 |i+1=>cw ms i+cU ms i
def iq(ms:qr aS):Nat:=(aK ms 0).aO.length+14
def qu(ms:qr aS)(i:Nat):cK:=⟨(aK ms i).p.attr,cU ms i,if i=0 then 0 else(cw ms i:Int) -iq ms,(aK ms i).p.dO,(aK ms i).p.dP⟩
def fL(ms:qr aS):qr cK:=(List.range ms.length).map (qu ms)
def eS(ms:qr aS)(i:Nat):qr UInt8:=if i=0/\1<ms.length then E8 (gT (aK ms 0).p.aC.order (fL ms) (aK ms 0).p.view) else(aK ms i).b
def fQ(ms:qr aS)(i:Nat):qr UInt8:=eR (fF (aK ms i).p (eS ms i)) (aK ms i).aO
def bN(ms:qr aS):qr (qr UInt8):=(List.range ms.length).map (fQ ms)
theorem ll(ms:qr aS):(fL ms).length=ms.length:=by unfold fL;rw[cD,List.length_range]
theorem oI(ms:qr aS):(bN ms).length=ms.length:=by unfold bN;rw[cD,List.length_range]
theorem fo.at_{ms:qr aS}(F:fo ms){i:Nat}(hi:i<ms.length):(aK ms i).p=ms[i]/\jm ms i=.ok (aK ms i).b/\iS ms[i].aC=.ok (aK ms i).aO/\nE ms[i].core=true:=by obtain⟨b,aO,k1,k2,k3,k4⟩:=F.Sz hi;rw[k4];exact⟨rfl,k1,k2,k3⟩
theorem mg{ms:qr aS}(F:fo ms){i:Nat}(hi:i<ms.length):1<=cU ms i/\cU ms i<=3000000:=by obtain⟨h1,h2,h3,h4⟩:=F.at_ hi;have h6:=F.le;unfold cU;rw[h1];exact⟨Sy _ _,SA hi h2 F.mem (by omega) h3 h4⟩
theorem wH{ms:qr aS}(F:fo ms):∀i,i<=ms.length->cw ms i<=3000000*i
 |0,_=>aM _
 |i+1,h=>by have:=wH F i (by omega);have:=(mg F (i:=i) (by omega)).2;unfold cw;omega
theorem wI(ms:qr aS):∀{i j:Nat},i<=j->cw ms i<=cw ms j
 |i,0,h=>by rw[Nat.le_zero.1 h];exact aM _
 |i,j+1,h=>by
  rcases ia i (j+1) with q|q
  ·have:=wI ms (show i<=j by omega);show cw ms i<=cw ms j+cU ms j;omega
  ·rw[show i=j+1 by omega];exact aM _
theorem DB{x:nv}{aO:qr UInt8}:aO.length+x.cy.length+6<=(eR x aO).length:=by
 unfold eR jB;rw[kN,kN];have a1:(cV ⟨216,[],[]⟩).length=2:=rfl;have a2:(cV ⟨225,aO,[]⟩).length=aO.length+4:=by rw[show cV ⟨225,aO,[]⟩=[255,UInt8.ofNat (225:Int).toNat,UInt8.ofNat ((aO.length+2)/256),UInt8.ofNat ((aO.length+2)%256)]++aO++[] from rfl];simp only[aT,bW,List.length_nil];omega
 rw[aT,aT,a1,a2];split
 ·rename_i h;omega
 ·rw[List.singleton_append,kN,aT];have a3:(cV ⟨226,x.cy,[]⟩).length=x.cy.length+4:=by
   rw[show cV ⟨226,x.cy,[]⟩=[255,UInt8.ofNat (226:Int).toNat,UInt8.ofNat ((x.cy.length+2)/256),UInt8.ofNat ((x.cy.length+2)%256)]++x.cy++[] from rfl];simp only[aT,bW,List.length_nil];omega
  omega
theorem Bn{ms:qr aS}(F:fo ms)(h2:1<ms.length):
 ∃b,gT (aK ms 0).p.aC.order (fL ms) (aK ms 0).p.view=.ok b/\b.length=(aK ms 0).b.length/\eS ms 0=b/\14<b.length:=by
 obtain⟨h1,k1,k2,k3⟩:=F.at_ (i:=0) (by omega);have h6:=F.le;unfold jm at k1;rw[cG (by omega:0<ms.length)] at k1;simp only[dW] at k1;rw[ay h2] at k1;rw[h1];have hpl:(hU ms).length=ms.length:=by unfold hU;rw[cD]
 have hwl:=ll ms;have hn:2<=ms.length/\16*ms.length<=65536:=by omega
 obtain⟨N,hN⟩:=aby ms[0].aC.order hn ms[0].view;obtain⟨A,B,hAB⟩:=abG ms[0].aC.order hn ms[0].view;have hhead:iq ms<=cU ms 0:=by
  unfold iq cU;have:=DB (x:=fF (aK ms 0).p (aK ms 0).b) (aO:=(aK ms 0).aO);have e:(fF (aK ms 0).p (aK ms 0).b).cy=(aK ms 0).b:=rfl;rw[e] at this;obtain⟨e1,_⟩:=KR k1;have e2:(aK ms 0).b.length=4+(eC (cT ms[0].aC.order (hU ms) ms[0].view) fJ).length:=by rw[e1,aT];rfl
  have e3:8<=(eC (cT ms[0].aC.order (hU ms) ms[0].view) fJ).length:=by unfold eC;simp only[aT,eI];split<;>(simp;omega)
  omega
 have hall:(fL ms).all km=true:=by
  rw[iv];intro p hp;unfold fL at hp;obtain⟨i,hi,rfl⟩:=mF.1 hp;have hi:=List.mem_range.1 hi;obtain⟨g1,g2,g3,g4⟩:=F.at_ hi;have:=oB (F.qQ _ (cA hi));have bp:=this.2.2.1;unfold ou at bp;simp at bp;have l1:=mg F hi;have s1:=wH F i (by omega);unfold km qu;rw[g1];rw[cf];refine⟨bp.1,⟨by show 0<=(cU ms i:Int);omega,by show(cU ms i:Int)<_;omega⟩,?_,bp.2.1,bp.2.2⟩;show 0<=(if i=0 then(0:Int) else(cw ms i:Int) -iq ms)/\(if i=0 then(0:Int) else(cw ms i:Int) -iq ms)<4294967296;by_cases hi0:i=0
  ·rw[ay hi0];omega
  ·rw[aq hi0];have:=wI ms (show 1<=i by omega);have e:cw ms 1=cU ms 0:=by show cw ms 0+cU ms 0=_;show 0+cU ms 0=_;omega
   omega
 have hb:=k1;unfold gT at hb;split at hb
 ·cases hb
 split at hb
 ·cases hb
 split at hb
 ·cases hb
 split at hb
 ·cases hb
 split at hb
 ·cases hb
 rename_i q1 q2 q3 q4 q5;rw[hN _ hpl] at q5;injection hb with hb;refine⟨fC++eC (cT ms[0].aC.order (fL ms) ms[0].view) fJ,?_,?_,?_,?_⟩
 ·unfold gT;rw[aq (by rw[hwl];rw[hpl] at q1;exact q1),aq (by rw[hall];decide),aq q3,aq (by rw[hwl];omega),aq (by rw[hN _ hwl];exact q5)]
 ·rw[<-hb,hAB _ hwl,hAB _ hpl];simp only[aT,pK,hwl,hpl]
 ·unfold eS;rw[ay ⟨rfl,h2⟩,h1];unfold gT;rw[aq (by rw[hwl];rw[hpl] at q1;exact q1),aq (by rw[hall];decide),aq q3,aq (by rw[hwl];omega),aq (by rw[hN _ hwl];exact q5)];rfl
 ·rw[hAB _ hwl];simp only[aT,pK,hwl];have:fC.length=4:=rfl;omega
def kU(L:qr Int)(i:Nat):Int:=(L.take i).sum
def oT(L:qr Int):qr Int:=(List.range (L.length+1)).map (kU L)
theorem Dw{L:qr Int}{i:Nat}(h:i<L.length):kU L (i+1)=kU L i+L[i]:=by unfold kU;rw[iI h,List.sum_append];simp
theorem alO(L:qr Int):(oT L).length=L.length+1:=by unfold oT;rw[cD,List.length_range]
theorem alN(L:qr Int){i:Nat}(h:i<(oT L).length):(oT L)[i]=kU L i:=by simp[oT]
theorem Jp{L:qr Int}(hL:∀n∈L,1<=n/\n<=3000000):∀i,i<=L.length->(i:Int)<=kU L i/\kU L i<=3000000*i
 |0,_=>by unfold kU;simp
 |i+1,h=>by have:=Jp hL i (by omega);have:=hL _ (cA (show i<L.length by omega));rw[Dw (by omega)];omega
theorem AH(L:qr Int):L.flatMap cM=bK L:=by
 unfold bK;induction L with
 |nil=>rfl
 |cons a l ih=>rw[dN,iw,ih];rfl
theorem ako{w:Nat}(L:qr Int)(hL:∀n∈L,1<=n/\n<=3000000)(hl:L.length<=1000)(hw:2000<w):Hq w (aB cM L) [Value.int .i64 0]=some (-1,bK (oT L)):=by
 unfold Hq;rw[cd];refine gO (ev:=λi (g:H1->Int->Int->qr H1->Hx (Int×qr H1))=>g (aB cM L) L.length i (bK ((List.range (i+1)).map (kU L)))) L.length ?_ ?_ (by omega)
 ·intro i g hi;have e1:((i:Int)<(L.length:Int)):=by omega
  have hn:=hL _ (cA hi);have ha:=Jp hL i (by omega);simp only[aU,e1,aY,aE,bP];rw[bn ma hi,show cM L[i]++(L.drop (i+1)).flatMap cM=.int .i64 L[i]::(L.drop (i+1)).flatMap cM from rfl];simp only[aX,bu];rw[List.range_succ,fS,iw,List.map_nil,OC _ _ _ ⟨hn.1,by omega⟩ ⟨by omega,by omega⟩ (by simp;omega)];simp only[aA,aD,cc];rw[aP (by omega) (by omega),List.range_succ,fS,iw,List.map_nil,List.range_succ,fS,iw,List.map_nil,Dw hi];rfl
 ·intro g;have e1:¬((L.length:Int)<(L.length:Int)):=by omega
  simp only[aU,e1,bL,aD];rfl
theorem ajG{w:Nat}(L:qr Int)(hL:∀n∈L,1<=n/\n<=3000000)(hl:L.length<=1000)(hw:2000<w):GY w (aB cM L)=some (aB cM (oT L),true):=by unfold GY OB;rw[ako L hL hl hw];simp only[aA,aB,AH];rw[show(bK (oT L)).length=(oT L).length by unfold bK;rw[cD],kB];rfl
theorem ajn(w:Nat)(P:qr cK)(h0:0<P.length)(hl:P.length<=1000):GC w (dY P)=some (P.flatMap ff):=by
 unfold GC dY;rw[cd,xG mU];have hn:=nextslicecap_le (need:=0+P.length) (old:=0) (by omega);have e4:(Builtin.nextslicecap (0+P.length) 0).ble 5000000000=true:=by rw[iy];omega
 have e5:(P.flatMap ff).length.beq (P.length*5)=true:=by rw[da mU];exact np _
 have e6:Nat.blt 0 P.length=true:=by simp;omega
 have e7:(0+P.length).ble 0=false:=by
  cases h:P.length with
  |zero=>omega
  |succ n=>rw[fU];rfl
 have e8:aH P.length=true:=by simp;omega
 rw[e6,e5,e7,e8,e4];rfl
def pJ(L:qr Int)(h:Int)(P:qr cK):qr cK:=(List.range P.length).map λi=>⟨(P[i]?.getD ⟨0,0,0,0,0⟩).attr,L[i]?.getD 0,if i=0 then 0 else kU L i -h,(P[i]?.getD ⟨0,0,0,0,0⟩).dO,(P[i]?.getD ⟨0,0,0,0,0⟩).dP⟩
theorem VK(A B vs:qr H1)(k:Nat):aW (A.length+k) vs (A++B)=A++aW k vs B:=by
 induction vs generalizing k B with
 |nil=>rfl
 |cons v vs ih=>rw[aW,aW,show A.length+k+1=A.length+(k+1) by omega,List.set_append_right (A.length+k) v (by omega),show A.length+k -A.length=k by omega,ih]
theorem Fo(L:qr Int)(h:Int)(P:qr cK):(pJ L h P).length=P.length:=by simp[pJ]
theorem Mk(L:qr Int)(h:Int)(P:qr cK){i:Nat}(hi:i<P.length)(hL:i<L.length)(q:i<(pJ L h P).length):(pJ L h P)[i]=⟨P[i].attr,L[i],if i=0 then 0 else kU L i -h,P[i].dO,P[i].dP⟩:=by simp[pJ,hi,hL]
theorem XD{w:Nat}(L:qr Int)(hL:∀n∈L,1<=n/\n<=3000000)(hl:L.length<=1000)(hw:2000<w)(h:Int)(hh:0<=h/\h<=kU L 1)(P:qr cK)(hP:P.length=L.length)(h0:0<P.length):
 BY w (aB cM L) h (dY P)=some (dY (pJ L h P),true):=by
 unfold BY;rw[ajG L hL hl hw,ajn w P h0 (by omega)];simp only[aA,bH,aD];rw[show dY P=aB ff P from rfl,cd,cd,hP];have e0:ak h 0=false:=by rw[aU,gJ];omega
 rw[show aj (Int.ofNat L.length) (Int.ofNat L.length)=true by rw[cj,cf],bH,aD,e0,aD,da mU,ja _ (by decide)];have hmono:∀i,1<=i->i<=L.length->kU L 1<=kU L i:=by
  intro i h1;induction i with
  |zero=>omega
  |succ i ih=>
   intro h2;rcases Nat.eq_zero_or_pos i with rfl|q
   ·exact Int.le_refl _
   ·have:=ih q (by omega);have:=hL _ (cA (show i<L.length by omega));rw[Dw (i:=i) (by omega)];omega
 refine gO (ev:=λi (g:H1->Int->H1->Int->Int->qr H1->Hx (H1×Bool))=>g (aB cM L) h (aB cM (oT L)) P.length i (((pJ L h P).take i++P.drop i).flatMap ff)) P.length ?_ ?_ (by omega)
 ·intro i g hi;have e1:((i:Int)<(P.length:Int)):=by omega
  have hiL:i<L.length:=by omega
  have hiS:i<(oT L).length:=by rw[alO];omega
  have hiQ:i<(pJ L h P).length:=by rw[Fo];exact hi
  have hn:=hL _ (cA hiL);have ha:=Jp hL i (by omega);have tg:∀(p:cK)(r:qr H1),ff p++r=.int .i64 p.attr::.int .i64 p.size::.int .i64 p.at_::.int .i64 p.dO::.int .i64 p.dP::r:=λ_ _=>rfl;rw[fD,dk hi,dN,tg,iI hiQ,dM,fD,fD,dN,lH,ea,tg,Mk L h P hi hiL hiQ];have hA:(((pJ L h P).take i).flatMap ff).length=i*5:=by rw[da mU,dE];congr 1;omega
  generalize((pJ L h P).take i).flatMap ff=A at hA⊢;generalize(P.drop (i+1)).flatMap ff=B;have put1:∀(a s t v:H1)(B:qr H1),aW (0+i*5+1) [v] (A++(a::s::t::B))=A++(a::v::t::B):=λa s t v B=>by rw[show 0+i*5+1=A.length+1 by omega,VK];rfl
  have vU:∀(a s t v:H1)(B:qr H1),aW (0+i*5+2) [v] (A++(a::s::t::B))=A++(a::s::v::B):=λa s t v B=>by rw[show 0+i*5+2=A.length+2 by omega,VK];rfl
  have dr2:∀(a s t:H1)(B:qr H1),List.drop (0+i*5+2) (A++(a::s::t::B))=t::B:=λa s t B=>by rw[show 0+i*5+2=A.length+2 by omega,List.drop_append];simp
  have b1:∀(a s t d e:H1),(i*5).blt (A++(a::s::t::d::e::B)).length=true:=λa s t d e=>by simp;omega
  have b2:∀(a s t d e:H1)(k:Nat),k<=5->(0+i*5+k).ble (A++(a::s::t::d::e::B)).length=true:=λa s t d e k hk=>by simp;omega
  have c1:∀z:Int,(SV.i IntKind.i64 z).cells.length.beq 1=true:=λ_=>rfl;simp only[aU,e1,aY,aE,bP];rw[bn ma hiL,show cM L[i]++(L.drop (i+1)).flatMap cM=.int .i64 L[i]::(L.drop (i+1)).flatMap cM from rfl];simp only[aX,bu];rw[b1,show Nat.beq 5 5=true from rfl,eV,aE,c1,eV,show 0+i*5+1+1=0+i*5+2 from rfl,b2 _ _ _ _ _ 2 (by omega),aE,put1,b1,eV,aE,show Nat.beq 1 1=true from rfl,eV,show 0+i*5+2+1=0+i*5+3 from rfl,b2 _ _ _ _ _ 3 (by omega),aE,vU];by_cases h1:i=0
  ·subst h1;rw[show decide ((0:Int)<((0:Nat):Int))=false from rfl,aD,b1,eV,aE,dr2];simp only[aX,bu];rw[cc,aP (by omega) (by omega)];rfl
  ·have e2:((0:Int)<(i:Int)):=by omega
   have hm:=hmono i (by omega) (by omega);rw[eY e2,aE,bn ma hiS,show∀r,cM (oT L)[i]++r=.int .i64 (oT L)[i]::r fromλ_=>rfl,alN];simp only[aX,bu];rw[b1,eV,aE,ji,aP (by omega) (by omega),c1,eV,show 0+i*5+2+1=0+i*5+3 from rfl,b2 _ _ _ _ _ 3 (by omega),aE,vU,b1,eV,aE,dr2];simp only[aX,bu];have e3:¬(kU L i -h<0):=by omega
   rw[fI e3,aD,cc,aP (by omega) (by omega),aq h1];rfl
 ·intro g;have e1:¬((P.length:Int)<(P.length:Int)):=by omega
  simp only[aU,e1,bL,aD];rw[uK (aM _),ea,eQ (by rw[Fo];exact aM _),da mU,ja _ (by decide)];rfl
theorem KS{w:Nat}(W:cX w){o:Int}(ho:o=1\/o=2){l:qr cK}(h2:2<=l.length)(hl:l.length<=600){view:qr aL}(hv:VS view)(hr:db 5 view=true):(eJ (cT o l view)).length<100000000:=by
 have T:=SE W ho h2 hl hv hr;have h:=CR (cT o l view).dJ 0 8 T.hd;have hc:ig (cT o l view).dJ<=2:=by unfold cT fe;simp only;split<;>simp[ig,dI,iA]
 have h2:ig (cT o l view).dJ*(10000+2)<=2*(10000+2):=wW _ hc;have h3:(eJ (cT o l view)).length=(jn 0 8 (cT o l view).dJ).length+1:=rfl;omega
def lM(x:rK×qr UInt8):qr H1:=[.int .i64 x.1.p.aC.order,ar x.1.p.aC.cn,ar x.1.p.aC.bD,ar x.1.p.aC.bG,ar x.1.p.aC.bj,ar x.1.p.aC.first,ag x.1.p.aC.bC,ag x.1.p.aC.cF,ag x.1.p.bZ,ag x.1.p.core,ag x.2,.int .i64 (jX x.1.aO x.1.b),.int .i64 ((eR (fF x.1.p x.1.b) x.1.aO).length:Int)]
theorem Sk(x:rK×qr UInt8):(lM x).length=13:=rfl
def iU(ms:qr aS):qr (rK×qr UInt8):=(List.range ms.length).map λi=>(aK ms i,eS ms i)
theorem abr(ms:qr aS):(iU ms).length=ms.length:=by unfold iU;rw[cD,List.length_range]
theorem KQ(ms:qr aS):(fY ms).length=ms.length:=by unfold fY;rw[cD,List.length_range]
theorem KO(ms:qr aS){i:Nat}(h:i<(fY ms).length):(fY ms)[i]=aK ms i:=by simp[fY]
theorem abq(ms:qr aS){i:Nat}(h:i<(iU ms).length):(iU ms)[i]=(aK ms i,eS ms i):=by simp[iU]
def gU(ms:qr aS):qr Int:=(List.range ms.length).map λi=>(cU ms i:Int)
theorem tP(ms:qr aS):(gU ms).length=ms.length:=by unfold gU;rw[cD,List.length_range]
theorem AT(ms:qr aS){i:Nat}(h:i<(gU ms).length):(gU ms)[i]=cU ms i:=by simp[gU]
theorem Ab(ms:qr aS):∀i,i<=ms.length->kU (gU ms) i=(cw ms i:Int)
 |0,_=>rfl
 |i+1,h=>by
  have hi:i<(gU ms).length:=by rw[tP];omega
  rw[Dw hi,Ab ms i (by omega),AT];show _=((cw ms i+cU ms i:Nat):Int);omega
theorem ajY{w:Nat}(W:cX w)(hw:1000000<w){ms:qr aS}(F:fo ms)(hc:iz ms=0):G4 w (cx ms)=some ((fY ms).flatMap iC):=by
 have hlr:∀K:Nat->Hx (qr H1),aw (cx ms) K=K ms.length:=λK=>cd cN ms K;have h6:=F.le;have hm:=F.mem;unfold G4;rw[Of W hw hm (by omega) (by omega)];simp only[aA,cj];rw[eY hc,bH,aD,hlr];have hil:=KQ ms;refine gO (ev:=λi (g:Int->Int->H1->qr H1->Hx (qr H1))=>g ms.length i (cx ms) (((fY ms).take i).flatMap iC)) ms.length ?_ ?_ (by omega)
 ·intro i g hi;obtain⟨b,aO,k1,k2,k3,k4⟩:=F.Sz hi;have e1:((i:Int)<(ms.length:Int)):=by omega
  have hiI:i<(fY ms).length:=by omega
  have hget:(fY ms)[i]=⟨ms[i],b,aO⟩:=by rw[KO];exact k4
  simp only[aU,e1,aY,aE];rw[Yk W hw hi k1 hm (by omega) k2 k3];have hr1:aH (((fY ms).take i).flatMap iC).length=true:=by rw[da xL];simp;omega
  rw[aA,hr1,cc,aP (by omega) (by omega),iI hiI,fD,hget];rfl
 ·intro g;have e1:¬((ms.length:Int)<(ms.length:Int)):=by omega
  simp only[aU,e1,bL,aD];rw[eQ (by omega)]
theorem ajm{w:Nat}(hw:1000000<w)(ms:qr aS)(h6:ms.length<=6):GB w ((fY ms).flatMap iC)=some ((fY ms).flatMap iC,bK (gU ms)):=by
 unfold GB;have hil:=KQ ms;have hll:=tP ms;rw[da xL,ja _ (by decide)];refine gO (ev:=λi (g:Int->Int->qr H1->qr H1->Hx (qr H1×qr H1))=>g (fY ms).length i ((fY ms).flatMap iC) (bK ((gU ms).take i))) ms.length ?_ ?_ (by omega)
 ·intro i g hi;have e1:((i:Int)<((fY ms).length:Int)):=by omega
  have hiI:i<(fY ms).length:=by omega
  have hiL:i<(gU ms).length:=by omega
  have hlt:(i*13).blt ((fY ms).flatMap iC).length=true:=by rw[da xL];simp;omega
  have og:∀(y:rK)(r:qr H1),iC y++r=.int .i64 y.p.aC.order::ar y.p.aC.cn::ar y.p.aC.bD::ar y.p.aC.bG::ar y.p.aC.bj::ar y.p.aC.first::ag y.p.aC.bC::ag y.p.aC.cF::ag y.p.bZ::ag y.p.core::ag y.b::.int .i64 (jX y.aO y.b)::.int .i64 ((eR (fF y.p y.b) y.aO).length:Int)::r:=λ_ _=>rfl;simp only[aU,e1,aY,aE,bP];rw[show Nat.beq 13 13=true from rfl,eV,hlt,aE,fU,nI xL,dk hiI,dN,og];simp only[aX,bu];have hr:aH (bK ((gU ms).take i)).length=true:=by unfold bK;simp;omega
  rw[show∀a b c d e f g h i j k l m,N3 w a b c d e f g h i j k l m=some m fromλ_ _ _ _ _ _ _ _ _ _ _ _ _=>rfl,aA,hr,KO,cc,aP (by omega) (by omega),iI hiL,AT,show(i:Int)+1=((i+1:Nat):Int) by omega];rw[show∀z:H1,(true&&(aH ([z].length/1)&&[z].length.beq ([z].length/1*1)))=true fromλz=>by simp,aE];unfold bK cU;rw[fS];rfl
 ·intro g;have e1:¬((ms.length:Int)<((fY ms).length:Int)):=by omega
  simp only[aU,e1,bL,aD];rw[eQ (by omega)]
def Js(ms:qr aS):(Int×Int×H1×H1×qr H1)⊕(H1×Int):=
 if iz ms=0 then .inl (if ms.length=1 then(0,0,ae 0 [],ae 0 [],(iU ms).flatMap lM) else(0,(aK ms 0).p.aC.order,dY (fL ms),ar (aK ms 0).p.view,(iU ms).flatMap lM)) else .inr (.pointer none,iz ms)
theorem abt{ms:qr aS}(h:ms.length=1):(fY ms).flatMap iC=(iU ms).flatMap lM:=by
 unfold fY iU;rw[h];have:eS ms 0=(aK ms 0).b:=by unfold eS;rw[aq (by omega)]
 show iC (aK ms 0)++[]=lM (aK ms 0,eS ms 0)++[];rw[this];rfl
theorem abu{ms:qr aS}(h:1<ms.length):aW 10 [ag (eS ms 0)] ((fY ms).flatMap iC)=(iU ms).flatMap lM:=by
 obtain⟨n,hn⟩:∃n,ms.length=n+1:=⟨ms.length -1,by omega⟩;unfold fY iU;rw[hn,uO,iw,iw,dN,dN];have e:((List.range n).map Nat.succ).map (aK ms)=((List.range n).map Nat.succ).map (aK ms):=rfl;have k:∀l:qr Nat,((l.map Nat.succ).map (aK ms)).flatMap iC=((l.map Nat.succ).map λi=>(aK ms i,eS ms i)).flatMap lM:=by
  intro l;induction l with
  |nil=>rfl
  |cons a l ih=>
   rw[iw,iw,iw,dN,dN,ih];have:eS ms (Nat.succ a)=(aK ms (Nat.succ a)).b:=by unfold eS;rw[aq (λq=>Nat.succ_ne_zero a q.1)]
   rw[this];rfl
 rw[k];rfl
theorem ai9{w:Nat}(W:cX w)(hw:1000000<w){ms:qr aS}(hm:∀p∈ms,eD p)(hl:ms.length<=6\/1000<ms.length)(hl2:ms.length<=2000):Gs w (cx ms)=some (Js ms):=by
 unfold Gs Js;rw[Of W hw hm (by omega) hl2];simp only[aA,cj];by_cases hc:iz ms=0
 case neg=>rw[aq hc,fI hc];rfl
 obtain⟨F,h1⟩:=D8 hm hl hc;have h6:=F.le;have hil:=KQ ms;rw[ay hc,eY hc,bH,aD,ajY W hw F hc];simp only[aA];rw[show((fY ms).flatMap iC).length/13=ms.length by rw[da xL,ja _ (by decide),hil]];by_cases hn:ms.length=1
 ·rw[ay hn,abt hn,hn];rfl
 have h2:1<ms.length:=by omega
 have e2:¬((Int.ofNat ms.length:Int)=1):=by show¬((ms.length:Int)=1);omega
 rw[aq hn,fI e2,aD];obtain⟨g1,k1,k2,k3⟩:=F.at_ (i:=0) (by omega);have hmp:=hm _ (cA (show 0<ms.length by omega));have gd:=oB (F.qQ _ (cA (show 0<ms.length by omega)));have ho:=Ef gd.1;have hr:db 5 ms[0].view=true:=by have:=gd.2.2.2;unfold mJ at this;simpa using this
 have hpl:(hU ms).length=ms.length:=by unfold hU;rw[cD]
 have hix:gT ms[0].aC.order (hU ms) ms[0].view=.ok (aK ms 0).b:=by unfold jm at k1;rw[cG (by omega:0<ms.length)] at k1;simp only[dW] at k1;rw[ay h2] at k1;exact k1
 obtain⟨bw,j1,j2,j3,j4⟩:=Bn F h2;have h27:=Ct W (by omega) hix hmp.vs (KS W ho (by omega) (by omega) hmp.vs hr);have hcons:(fY ms).flatMap iC=iC (aK ms 0)++((fY ms).drop 1).flatMap iC:=by
  have hi0:0<(fY ms).length:=by omega
  have:=dk hi0;rw[ew] at this;rw[<-KO ms hi0,<-dN,<-this]
 have hlen:((fY ms).flatMap iC).length=ms.length*13:=by rw[da xL,hil]
 have hb0:Nat.blt 0 ((fY ms).flatMap iC).length=true:=by rw[hlen];simp;omega
 have hb11:Nat.ble 11 ((fY ms).flatMap iC).length=true:=by rw[hlen];simp;omega
 have d10:∀r:qr H1,List.drop 10 (iC (aK ms 0)++r)=ag (aK ms 0).b::.int .i64 (jX (aK ms 0).aO (aK ms 0).b)::.int .i64 ((eR (fF (aK ms 0).p (aK ms 0).b) (aK ms 0).aO).length:Int)::r:=λ_=>rfl;have d11:∀r:qr H1,List.drop 11 (iC (aK ms 0)++r)=.int .i64 (jX (aK ms 0).aO (aK ms 0).b)::.int .i64 ((eR (fF (aK ms 0).p (aK ms 0).b) (aK ms 0).aO).length:Int)::r:=λ_=>rfl;have t10:List.drop 10 ((fY ms).flatMap iC)=ag (aK ms 0).b::.int .i64 (jX (aK ms 0).aO (aK ms 0).b)::.int .i64 ((eR (fF (aK ms 0).p (aK ms 0).b) (aK ms 0).aO).length:Int)::((fY ms).drop 1).flatMap iC:=by rw[hcons,d10]
 have t11:List.drop 11 ((fY ms).flatMap iC)=.int .i64 (jX (aK ms 0).aO (aK ms 0).b)::.int .i64 ((eR (fF (aK ms 0).p (aK ms 0).b) (aK ms 0).aO).length:Int)::((fY ms).drop 1).flatMap iC:=by rw[hcons,d11]
 have hat:jX (aK ms 0).aO (aK ms 0).b=(((aK ms 0).aO.length+10:Nat):Int):=by unfold jX;rw[aq (by omega)]
 have l0:=mg F (i:=0) (by omega);have hcl:iq ms<=cU ms 0:=by unfold iq cU;have:=DB (x:=fF (aK ms 0).p (aK ms 0).b) (aO:=(aK ms 0).aO);have e:(fF (aK ms 0).p (aK ms 0).b).cy=(aK ms 0).b:=rfl;rw[e] at this;omega
 have hcam:(aK ms 0).aO.length+14<=3000000:=by have:=hcl;unfold iq at this;omega
 have hLL:∀n∈gU ms,1<=n/\n<=3000000:=by intro n hn;unfold gU at hn;obtain⟨i,hi,rfl⟩:=mF.1 hn;have:=mg F (List.mem_range.1 hi);omega
 have hll:=tP ms;have hat1:kU (gU ms) 1=cU ms 0:=by rw[Ab ms 1 (by omega)];show((cw ms 0+cU ms 0:Nat):Int)=_;show((0+cU ms 0:Nat):Int)=_;omega
 have h67:=XD (w:=w) (gU ms) hLL (by omega) (by omega) (iq ms:Int) ⟨by omega,by omega⟩ (hU ms) (by omega) (by omega);have hplw:pJ (gU ms) (iq ms:Int) (hU ms)=fL ms:=by
  refine List.ext_getElem (by rw[Fo,ll,hpl]) λi q1 q2=>?_;have hi:i<ms.length:=by rw[ll] at q2;exact q2
  rw[Mk _ _ _ (by omega) (by omega),AT,Ab ms i (by omega)];have e1:∀q,(hU ms)[i]'q=⟨ms[i].attr,0,0,ms[i].dO,ms[i].dP⟩:=λq=>by simp only[hU,List.getElem_map]
  rw[e1];have e2:(fL ms)[i]=qu ms i:=by simp[fL]
  rw[e2];unfold qu;rw[(F.at_ hi).1]
 rw[hplw] at h67;have hrow:ae ((bK (gU ms)).length/1) (bK (gU ms))=aB cM (gU ms):=by unfold aB;rw[AH,kB];unfold bK;rw[cD]
 have h84:=Ys W ms[0].aC.order (l:=fL ms) (by rw[ll];omega) hmp.vs;rw[show Nat.beq 13 13=true from rfl,eV,hb0,aE,t10];simp only[aX];rw[h27];simp only[aA];rw[ajm hw ms h6];simp only[aA];rw[eV,hb0,aE,t11];simp only[aX,bu];rw[hat,cc,aP (by omega) (by omega),hrow,show(((aK ms 0).aO.length+10:Nat):Int)+4=(iq ms:Int) by unfold iq;omega,h67];simp only[aA];rw[h84,g1] at*;rw[j1];simp only[aA];rw[aE,hb11,ky];rw[<-j3,abu h2];rfl
theorem Xo(d:qr UInt8):(cV ⟨226,d,[]⟩).length=d.length+4:=by rw[show cV ⟨226,d,[]⟩=[255,UInt8.ofNat (226:Int).toNat,UInt8.ofNat ((d.length+2)/256),UInt8.ofNat ((d.length+2)%256)]++d++[] from rfl];simp
theorem qW{ms:qr aS}(F:fo ms){i:Nat}(hi:i<ms.length):xb (fF ms[i] (eS ms i)) (aK ms i).aO/\(eS ms i).length<=65533/\(fQ ms i).length=cU ms i:=by
 obtain⟨g1,k1,k2,k3⟩:=F.at_ hi;have h6:=F.le;have I:=KN hi k1 F.mem (by omega) k2 k3;have hlen:(eS ms i).length=(aK ms i).b.length->(fQ ms i).length=cU ms i:=λh=>by
  unfold fQ cU eR;have:∀(x y:nv)(aO:qr UInt8),x.bZ=y.bZ->x.core=y.core->x.cy.length=y.cy.length->(dt (jB x aO)).length=(dt (jB y aO)).length:=by
   intro x y aO e1 e2 e3;unfold jB;rw[e1,e2,e3];by_cases h0:y.cy.length=0
   ·rw[ay h0,ay h0]
   ·rw[aq h0,aq h0];simp only[kN,List.singleton_append,aT];rw[Xo,Xo,e3]
  exact this (fF (aK ms i).p (eS ms i)) (fF (aK ms i).p (aK ms i).b) _ rfl rfl h
 by_cases h0:i=0/\1<ms.length
 ·obtain⟨rfl,h2⟩:=h0;obtain⟨bw,j1,j2,j3,j4⟩:=Bn F h2;obtain⟨e1,_⟩:=KR j1;have hb:=I.cy;have q:(aK ms 0).b.length<=65533:=by
   rcases hb with q|q
   ·have:(aK ms 0).b.length=0:=q;omega
   ·exact q.2
  rw[<-j3] at j2 j4;refine⟨⟨I.app,I.rows,I.bZ,I.core,.inr ⟨?_,?_⟩⟩,by omega,hlen j2⟩
  ·show fC.isPrefixOf (eS ms 0)=true;rw[j3,e1];exact pY.2 (rI _ _)
  ·show(eS ms 0).length<=65533;omega
 ·have e:eS ms i=(aK ms i).b:=by unfold eS;rw[aq h0]
  rw[e] at hlen⊢;have hb:=I.cy;refine⟨I,?_,hlen rfl⟩;rcases hb with q|q
  ·have:(aK ms i).b.length=0:=q;omega
  ·exact q.2
theorem XC{w:Nat}(W:cX w)(hw:1000000<w){ms:qr aS}(F:fo ms):yH w (aB lM (iU ms))=some (aB eM (bN ms)):=by
 have h6:=F.le;have hil:=abr ms;have hpl:=oI ms;unfold yH;rw[cd];refine gO (ev:=λi (g:H1->Int->Int->qr H1->Hx H1)=>g (aB lM (iU ms)) (iU ms).length i (((bN ms).take i).flatMap eM)) ms.length ?_ ?_ (by omega)
 ·intro i g hi;have e1:((i:Int)<((iU ms).length:Int)):=by omega
  have hiI:i<(iU ms).length:=by omega
  have hiP:i<(bN ms).length:=by omega
  have hmp:=F.mem _ (cA hi);have hic:=hmp.ic;have hco:=hmp.co;obtain⟨I,q1,q2⟩:=qW F hi;obtain⟨g1,_⟩:=F.at_ hi;have og:∀(y:rK×qr UInt8)(r:qr H1),lM y++r=.int .i64 y.1.p.aC.order::ar y.1.p.aC.cn::ar y.1.p.aC.bD::ar y.1.p.aC.bG::ar y.1.p.aC.bj::ar y.1.p.aC.first::ag y.1.p.aC.bC::ag y.1.p.aC.cF::ag y.1.p.bZ::ag y.1.p.core::ag y.2 ::.int .i64 (jX y.1.aO y.1.b)::.int .i64 ((eR (fF y.1.p y.1.b) y.1.aO).length:Int)::r:=λ_ _=>rfl;have h24:=X5 (m:=65533) W I hmp.tG (by omega) ⟨by show ms[i].core.length<=_;omega,by show ms[i].bZ.length<=_;omega,q1⟩ (by omega) (jX (aK ms i).aO (aK ms i).b) ((eR (fF (aK ms i).p (aK ms i).b) (aK ms i).aO).length:Int);simp only[aU,e1,aY,aE,bP];rw[bn Sk hiI,og,abq];simp only[aX,bu];have hpw:(bN ms)[i]=fQ ms i:=by simp[bN]
  have h59:Gt w (aK ms i).p.aC.order (ar (aK ms i).p.aC.cn) (ar (aK ms i).p.aC.bD) (ar (aK ms i).p.aC.bG) (ar (aK ms i).p.aC.bj) (ar (aK ms i).p.aC.first) (ag (aK ms i).p.aC.bC) (ag (aK ms i).p.aC.cF) (ag (aK ms i).p.bZ) (ag (aK ms i).p.core) (ag (eS ms i)) (jX (aK ms i).aO (aK ms i).b) ((eR (fF (aK ms i).p (aK ms i).b) (aK ms i).aO).length:Int)=some (ag (fQ ms i)):=by unfold Gt fQ;rw[g1] at h24⊢;refine Eq.trans (bY (λz=>ob z _) h24) ?_;rfl
  rw[h59,aA,show aH (((bN ms).take i).flatMap eM).length=true by rw[da (k:=1) (λ_=>rfl)];simp;omega,iI hiP,fD,hpw,cc,aP (by omega) (by omega)];rfl
 ·intro g;have e1:¬((ms.length:Int)<((iU ms).length:Int)):=by omega
  simp only[aU,e1,bL,aD];rw[eQ (by omega),da (k:=1) (λ_=>rfl),gk,kB];rfl
theorem aiQ{w:Nat}(W:cX w)(hw:1000000<w){ms:qr aS}(hm:∀p∈ms,eD p)(hl:ms.length<=6\/1000<ms.length)(hl2:ms.length<=2000):Gj w (cx ms)=some (if iz ms=0 then(aB eM (bN ms),0) else(ae 0 [],iz ms)):=by
 unfold Gj;rw[ai9 W hw hm hl hl2,aA];unfold Js;by_cases hc:iz ms=0
 ·obtain⟨F,h1⟩:=D8 hm hl hc;rw[ay hc,ay hc];have hrow:ae (((iU ms).flatMap lM).length/13) ((iU ms).flatMap lM)=aB lM (iU ms):=by
   unfold aB;rw[da Sk,ja _ (by decide)]
  split
  ·rw[iQ];show(bif !aj 0 0 then _ else ob (yH w (ae (((iU ms).flatMap lM).length/13) ((iU ms).flatMap lM))) _)=_;rw[hrow,XC W hw F];rfl
  ·rw[iQ];show(bif !aj 0 0 then _ else ob (yH w (ae (((iU ms).flatMap lM).length/13) ((iU ms).flatMap lM))) _)=_;rw[hrow,XC W hw F];rfl
 ·rw[aq hc,aq hc,IB,cj,fI hc];rfl
theorem WE:∀ls:qr (qr UInt8),yu (ls.flatMap eM)=some (ls.map λl=>l.map λb=>(b.toNat:Int))
 |[]=>rfl
 |l::ls=>by rw[dN,show eM l++ls.flatMap eM=ag l::ls.flatMap eM from rfl,yu,rP,WE ls];rfl
theorem JC(l:qr UInt8):ae l.length (l.map aZ)=ag l:=by unfold ag aB;rw[gZ]
theorem XH(w:Nat)(ls:qr (qr UInt8))(h0:0<ls.length)(hl:ls.length<=1000)(ht:ls.flatten.length<=1000000000):B7 w (aB eM ls)=some (ag ls.flatten):=by
 have hfl:(ls.flatMap eM).length=ls.length:=by rw[da (k:=1) (λ_=>rfl),gk]
 show cond (Nat.blt 0 ls.length&&(Nat.beq ls.length (ls.flatMap eM).length&&Nat.ble ls.length 1000)) (ob (yu (ls.flatMap eM)) λls=>cond (Nat.ble ls.flatten.length 1000000000) (some (ae ls.flatten.length (bm ls.flatten))) none) none=_;have e1:(Nat.blt 0 ls.length&&(Nat.beq ls.length (ls.flatMap eM).length&&Nat.ble ls.length 1000))=true:=by rw[hfl];simp;omega
 rw[e1,aE,WE,aA];have e2:(ls.map λl=>l.map λb=>(b.toNat:Int)).flatten=ls.flatten.map λb=>(b.toNat:Int):=by rw[List.map_flatten]
 rw[e2,cD,show Nat.ble ls.flatten.length 1000000000=true by rw[iy];exact ht,aE,DD,JC]
theorem yh{ms:qr aS}(F:fo ms):(bN ms).flatten.length<=18000000:=by
 have h6:=F.le;have:∀l:qr Nat,(∀i∈l,i<ms.length)->((l.map (fQ ms)).flatten).length<=3000000*l.length:=by
  intro l;induction l with
  |nil=>intro _;exact aM _
  |cons a l ih=>intro h;have:=ih λi hi=>h i (mE _ hi);have q:=(qW F (h a (by simp))).2.2;have q2:=(mg F (h a (by simp))).2;rw[iw,List.flatten_cons,aT,bW];omega
 have:=this (List.range ms.length) λi hi=>List.mem_range.1 hi;rw[List.length_range] at this;show((List.range ms.length).map (fQ ms)).flatten.length<=_;omega
theorem NY{w:Nat}(W:cX w)(hw:1000000<w){ms:qr aS}(hm:∀p∈ms,eD p)(hl:ms.length<=6\/1000<ms.length)(hl2:ms.length<=2000):yE w (cx ms)=some (if iz ms=0 then(ag (bN ms).flatten,0) else(ae 0 [],iz ms)):=by
 unfold yE;rw[aiQ W hw hm hl hl2,aA];by_cases hc:iz ms=0
 ·obtain⟨F,h1⟩:=D8 hm hl hc;have h6:=F.le;have:=yh F;rw[ay hc,ay hc];show(bif !aj 0 0 then _ else ob (B7 w (aB eM (bN ms))) _)=_;rw[XH w _ (by rw[oI];omega) (by rw[oI];omega) (by omega)];rfl
 ·rw[aq hc,aq hc,cj,fI hc];rfl
theorem aiR{w:Nat}(l:qr UInt8)(hl:l.length<2^40)(hw:l.length<w):mY w (ag l) (ag l)=some true:=by
 unfold mY;rw[cI,cI,show aj (Int.ofNat l.length) (Int.ofNat l.length)=true by rw[cj,cf],bH,aD];refine gO (ev:=λi (g:H1->H1->Int->Hx Bool)=>g (ag l) (ag l) i) l.length ?_ ?_ hw
 ·intro i g hi;have e1:((i:Int)<(l.length:Int)):=by omega
  rw[cI];simp only[aU,bU,e1,aY,aE,bP];rw[oG hi];simp only[aX,qe];rw[oG hi];simp only[aX,qe];rw[show aj (l[i].toNat:Int) (l[i].toNat:Int)=true by rw[cj,cf],bH,aD,cc,aP (by omega) (by omega)];rfl
 ·intro g;have e1:¬((l.length:Int)<(l.length:Int)):=by omega
  rw[cI];simp only[aU,bU,e1,bL,aD]
def Dv(h:Int)(i:Nat)(p:cK):Int:=if i=0 then p.at_ else p.at_+h
def gh(P:qr cK)(i:Nat):Int:=((P.take i).map (·.size)).sum
def tW(h z:Int)(P:qr cK)(i:Nat)(p:cK):Bool:=decide (Dv h i p=gh P i/\1<=p.size/\p.size<=z -gh P i)
def Jj(h z:Int)(P:qr cK):Bool:=(List.range P.length).all λi=>match P[i]? with|some p=>tW h z P i p|none=>true
def Dy(P:qr cK)(h z:Int):Hx (qr Int):=if Jj h z P=true/\P.length≠0/\gh P P.length=z then some ((List.range (P.length+1)).map (gh P)) else none
theorem PJ{P:qr cK}{i:Nat}(h:i<P.length):gh P (i+1)=gh P i+P[i].size:=by unfold gh;rw[iI h,fS,List.sum_append];simp
theorem Jr(a b:Int)(h:-1099511627776<=a/\a<=1099511627776)(k:-1099511627776<=b/\b<=1099511627776):ah .i64 (a+b)=a+b/\ah .i64 (a -b)=a -b:=⟨aP (by omega) (by omega),aP (by omega) (by omega)⟩
theorem Tw{α γ:Type}{z:α}{F:α->α}{w:Nat}(m:Nat)(ok:Nat->Bool)(r0 r1:γ)(ev:Nat->α->γ)(hs:∀i g,i<m->(∀j,j<i->ok j=true)->ev i (F g)=if ok i=true then ev (i+1) g else r0)(he:∀g,(∀j,j<m->ok j=true)->ev m (F g)=r1)(h:m<w):ev 0 (lp z F w)=if(List.range m).all ok=true then r1 else r0:=by
 have key:∀(d i v:Nat),i+d=m->d<v->(∀j,j<i->ok j=true)->ev i (lp z F v)=if(List.range m).all ok=true then r1 else r0:=by
  intro d;induction d with
  |zero=>
   intro i v hi hv ho;obtain rfl:i=m:=by omega
   rw[eB z F (by omega),he _ ho,ay (by rw[iv];exactλj hj=>ho j (List.mem_range.1 hj))]
  |succ d ih=>
   intro i v hi hv ho;rw[eB z F (by omega),hs i _ (by omega) ho];by_cases c:ok i=true
   ·rw[ay c,ih (i+1) (v -1) (by omega) (by omega) λj hj=>by
     rcases ia j i with q|q
     ·exact ho j q
     ·rw[show j=i by omega];exact c]
   ·rw[aq c,aq λk=>c (iv.1 k i (List.mem_range.2 (by omega)))]
 exact key m 0 w (by omega) (by omega) λj hj=>by omega
theorem YQ{P:qr cK}{h z:Int}(hz:0<=z):∀i,i<=P.length->(∀j,j<i->(match P[j]? with|some p=>tW h z P j p|none=>true)=true)->(i:Int)<=gh P i/\gh P i<=z\/i=0/\gh P i=0
 |0,_,_=>.inr ⟨rfl,rfl⟩
 |i+1,hi,ho=>by have h1:=YQ hz i (by omega) λj hj=>ho j (by omega);have h2:=ho i (by omega);rw[cG (by omega)] at h2;obtain⟨_,a,b⟩:=oh h2;rw[PJ (by omega)];omega
theorem aiW{w:Nat}(P:qr cK)(hP:∀p∈P,-4294967296<=p.at_/\p.at_<=4294967296/\-4294967296<=p.size/\p.size<=4294967296)(hl:P.length<=5000)(h z:Int)(hh:0<=h/\h<=4294967296)(hz:0<=z/\z<=4294967296)(hw:P.length<w):
 Gn w (dY P) h z=some (match Dy P h z with|some l=>(aB cM l,true)|none=>(ae 0 [],false)):=by
 have hlr:∀{β:Type}(K:Nat->Hx β),aw (dY P) K=K P.length:=λK=>cd ff P K;unfold Gn;rw[hlr];refine(Tw (ev:=λi (g:H1->Int->Int->Int->H1->Int->Int->qr H1->Hx (H1×Bool))=>g (dY P) h z (gh P i) (dY P) P.length i (bK ((List.range i).map (gh P)))) P.length (λi=>match P[i]? with|some p=>tW h z P i p|none=>true) (some (ae 0 [],false)) (if P.length≠0/\gh P P.length=z then some (aB cM ((List.range (P.length+1)).map (gh P)),true) else some (ae 0 [],false)) ?_ ?_ hw).trans ?_
 ·intro i g hi ho;have e1:((i:Int)<(P.length:Int)):=by omega
  have hb:=YQ (h:=h) hz.1 i (by omega) ho;obtain⟨p1,p2,p3,p4⟩:=hP _ (cA hi);have w1:=(Jr P[i].at_ h (by omega) (by omega)).1;have w2:=(Jr z (gh P i) (by omega) (by omega)).2;have w3:=(Jr (gh P i) P[i].size (by omega) (by omega)).1;have w4:ah .i64 ((i:Int)+1)=((i+1:Nat):Int):=by rw[aP (by omega) (by omega)];rfl
  simp only[aU,e1,aY,aE,bP,dY];rw[bn mU hi];simp only[ff,ec,eK,aX,bu,cc,ji,cj,w1,w2,w3,w4,cG hi];have hlen:(bK ((List.range i).map (gh P))).length=i:=by simp[bK]
  have room:aH (bK ((List.range i).map (gh P))).length=true:=by rw[hlen];unfold aH;rw[iy];omega
  have nx:∀v:Int,v=gh P i->bK ((List.range i).map (gh P))++[Value.int .i64 v]=bK ((List.range (i+1)).map (gh P)):=λv e=>by rw[e,List.range_succ,fS];simp[bK]
  have r2:∀v:Int,(aH ([Value.int .i64 v].length/1)&&[Value.int .i64 v].length.beq ([Value.int .i64 v].length/1*1))=true:=λv=>(show(Nat.ble (1/1) 1000000000&&Nat.beq 1 (1/1*1))=true by decide);simp only[r2,room,jG,aE];rw[PJ hi];by_cases h0:i=0
  ·have e2:¬((0:Int)<(i:Int)):=by omega
   simp only[e2,bL,aD,tW,Dv,ay h0];by_cases c1:P[i].at_=gh P i
   ·by_cases c2:1<=P[i].size
    ·by_cases c3:P[i].size<=z -gh P i
     ·rw[nx _ c1];simp[c1,c2,c3,Int.not_lt.2 c2,Int.not_lt.2 c3]
     ·simp[c1,c2,c3,Int.not_lt.2 c2,Int.not_le.1 c3]
    ·simp[c1,c2,Int.not_le.1 c2]
   ·simp[c1]
  ·have e2:(0:Int)<(i:Int):=by omega
   simp only[e2,aY,aE,tW,Dv,aq h0];by_cases c1:P[i].at_+h=gh P i
   ·by_cases c2:1<=P[i].size
    ·by_cases c3:P[i].size<=z -gh P i
     ·rw[nx _ c1];simp[c1,c2,c3,Int.not_lt.2 c2,Int.not_lt.2 c3]
     ·simp[c1,c2,c3,Int.not_lt.2 c2,Int.not_le.1 c3]
    ·simp[c1,c2,Int.not_le.1 c2]
   ·simp[c1]
 ·intro g ho;have e1:¬((P.length:Int)<(P.length:Int)):=by omega
  have hlen:(bK ((List.range P.length).map (gh P))).length=P.length:=by simp[bK]
  have room:aH (bK ((List.range P.length).map (gh P))).length=true:=by rw[hlen];unfold aH;rw[iy];omega
  have r2:∀v:Int,(aH ([Value.int .i64 v].length/1)&&[Value.int .i64 v].length.beq ([Value.int .i64 v].length/1*1))=true:=λv=>(show(Nat.ble (1/1) 1000000000&&Nat.beq 1 (1/1*1))=true by decide);have nx:bK ((List.range P.length).map (gh P))++[Value.int .i64 (gh P P.length)]=bK ((List.range (P.length+1)).map (gh P)):=by rw[List.range_succ,fS];simp[bK]
  simp only[aU,e1,bL,aD,hlr,cj,r2,room,jG,aE,nx];by_cases c1:P.length=0
  ·simp[c1]
  ·by_cases c2:gh P P.length=z
   ·simp[c1,c2,aB,AH,bK]
   ·simp[c1,c2]
 ·unfold Dy Jj;by_cases c:(List.range P.length).all (λi=>match P[i]? with|some p=>tW h z P i p|none=>true)=true
  ·rw[ay c];by_cases d:P.length≠0/\gh P P.length=z
   ·rw[ay d,ay ⟨c,d⟩]
   ·rw[aq d,aq λq=>d q.2]
  ·rw[aq c,aq λq=>c q.1]
theorem Zh{o:Int}{view:qr aL}{b:qr UInt8}(h:rE o view=.ok b)(hm:view.length<=65000):
 ∃r,b=fC++r/\uH r kT=.ok (gC o view,eJ (gC o view))/\(o=1\/o=2)/\view.length≠0/\db 5 view=true/\b.length<=65533:=by
 unfold rE at h;split at h
 ·cases h
 rename_i h1;split at h
 ·cases h
 rename_i h2;split at h
 ·cases h
 rename_i h3;injection h with h;have hr:db 5 view=true:=by simpa using h2
 have ho:o=1\/o=2:=by omega
 have h0:view.length≠0:=by omega
 have hh:=PX (o:=o) hr h0 hm;have hlen:=wN hh;refine⟨_,h.symm,PY ho Jl (by decide) (by simp[gC]) hh (Yy h3),ho,h0,hr,?_⟩;rw[<-h,aT,hlen];have:fC.length=4:=rfl;omega
theorem ajw{w:Nat}(W:cX w)(hw:800000<w){o:Int}{view:qr aL}{b:qr UInt8}(h:rE o view=.ok b)(hv:VS view):GN w (ag b)=some (o,ar view,0):=by
 have hvl:=hv.1;obtain⟨r,hb,hwk,ho,h0,hr,hbl⟩:=Zh h (by omega);have hp:fC.isPrefixOf b=true:=by rw[hb,pY];exact rI _ _
 have hl4:b.length=r.length+4:=by rw[hb,aT];have:fC.length=4:=rfl;omega
 have hS:(eJ (gC o view)).length<100000000:=by
  have T:=Zj W ho hv hr h0;have h:=CR (gC o view).dJ 0 8 T.hd;have hc:ig (gC o view).dJ<=2:=by simp[gC,ig,dI,iA]
  have h2:ig (gC o view).dJ*(10000+2)<=2*(10000+2):=wW _ hc;have h3:(eJ (gC o view)).length=(jn 0 8 (gC o view).dJ).length+1:=rfl;omega
 have h117:=GL (w:=w) (b:=r) (sh:=kT) (by omega) (by omega) Jl (λs hs=>by
  have:s=0:=by simp[kT] at hs;omega
  rw[this];decide) (by decide) (by decide) (X3 (by omega)) (o:=o) (ds:=(gC o view).dJ) (S:=eJ (gC o view)) hS hwk
 have h62:rn w (ag b) (cu kT)=some (o,dc (gC o view).dJ,aB bV (eJ (gC o view)),0):=by
  have e1:¬((65533:Int)<(b.length:Int)):=by omega
  have e2:¬((b.length:Int)<(4:Int)):=by omega
  have e3:4<=b.length:=by omega
  have h116:uh w (ag b)=some true:=by unfold uh yz;have:ae 4 (List.drop 0 [Value.int IntKind.u8 77,Value.int IntKind.u8 80,Value.int IntKind.u8 70,Value.int IntKind.u8 0])=ag fC:=rfl;rw[this,yG,hp];rfl
  unfold rn;rw[cI];simp only[aU,bU,e1,bL,aD];rw[cI];simp only[e2,bL,aD];rw[h116];simp only[aA,bH,aD];rw[cI];simp only[gF,aM,e3,aY,jG,aE];rw[lY _ (aM _),eQ (by rw[er];omega),show b.drop 4=r by rw[hb];rfl,h117];rfl
 have x1:∀(K:qr H1->Hx (Int×H1×Int)),aJ 3 0 (dc (gC o view).dJ) K=K (dw (.mk view .nil [])++[]):=λK=>bn kW (l:=[.mk view .nil []]) (m:=0) (by show 0<1;omega) K;unfold GN;rw[show yP w=some (cu kT) from rfl];simp only[aA];rw[h62];simp only[aA];rw[show(!aj 0 0)=false from rfl,aD,x1,tA];simp only[ec,ew,aX];rw[ri (by omega) 5 view (by omega) (λt ht=>by have:=hv.2 t ht;omega) (by omega),hr];simp only[aA,bH,aD];rw[x1,tA];simp only[ec,ew,aX]
def jE(ms:qr aS)(i:Nat):qr H1:=[.int .i64 (aK ms i).p.aC.order,ar (aK ms i).p.aC.cn,ar (aK ms i).p.aC.bD,ar (aK ms i).p.aC.bG,ar (aK ms i).p.aC.bj,ar (aK ms i).p.aC.first,ag (aK ms i).p.aC.bC,ag (aK ms i).p.aC.cF,ag (aK ms i).p.bZ,ag (aK ms i).p.core,ag (eS ms i),.int .i64 (jX (aK ms i).aO (eS ms i)),.int .i64 (cU ms i:Int)]
theorem FB(ms:qr aS)(i:Nat):(jE ms i).length=13:=rfl
theorem X8{w:Nat}(W:cX w)(hw:4000000<w){ms:qr aS}(F:fo ms){i:Nat}(hi:i<ms.length)(y:qr UInt8)(hy:y.length<2^26)(hyw:2*65533+800000+y.length<w):
 uo w (ag (fQ ms i++y))=some ((aK ms i).p.aC.order,ar (aK ms i).p.aC.cn,ar (aK ms i).p.aC.bD,ar (aK ms i).p.aC.bG,ar (aK ms i).p.aC.bj,ar (aK ms i).p.aC.first,ag (aK ms i).p.aC.bC,ag (aK ms i).p.aC.cF,ag (aK ms i).p.bZ,ag (aK ms i).p.core,ag (eS ms i),jX (aK ms i).aO (eS ms i),(cU ms i:Int),0):=by
 obtain⟨g1,k1,k2,k3⟩:=F.at_ hi;obtain⟨I,q1,q2⟩:=qW F hi;have hmp:=F.mem _ (cA hi);have hic:=hmp.ic;have hco:=hmp.co;have:=X9 (m:=65533) y hy W I hmp.tG (by omega) ⟨by show ms[i].core.length<=_;omega,by show ms[i].bZ.length<=_;omega,q1⟩ hyw;unfold fQ at q2⊢;rw[g1] at q2⊢;rw[this,q2];rfl
theorem aa5{α:Type}(L:qr (qr α))(i:Nat):L.flatten.drop (L.take i).flatten.length=(L.drop i).flatten:=by
 conv=>lhs;rw[<-lI i L,List.flatten_append]
 rw[lI,List.drop_left]
theorem PH{ms:qr aS}(F:fo ms):∀i,i<=ms.length->((bN ms).take i).flatten.length=cw ms i
 |0,_=>rfl
 |i+1,h=>by
  have hi:i<(bN ms).length:=by rw[oI];omega
  have e:(bN ms)[i]=fQ ms i:=by simp[bN]
  rw[iI hi,List.flatten_append,aT,PH F i (by omega),e];simp only[List.flatten_cons,List.flatten_nil,ea];rw[(qW F (show i<ms.length by omega)).2.2];rfl
theorem uE{ms:qr aS}(F:fo ms):(bN ms).flatten.length=cw ms ms.length:=by rw[<-PH F _ (aM _),eQ (by rw[oI];exact aM _)]
theorem Fk{ms:qr aS}(F:fo ms){i:Nat}(hi:i<ms.length):(bN ms).flatten.drop (cw ms i)=fQ ms i++((bN ms).drop (i+1)).flatten:=by
 have hp:i<(bN ms).length:=by rw[oI];exact hi
 have e:(bN ms)[i]=fQ ms i:=by simp[bN]
 rw[<-PH F i (by omega),aa5,dk hp,List.flatten_cons,e]
theorem agP{ms:qr aS}(F:fo ms){i:Nat}(hi:i<ms.length):((bN ms).flatten.drop (cw ms i)).take (cw ms (i+1) -cw ms i)=fQ ms i:=by have q:=(qW F hi).2.2;rw[Fk F hi,show cw ms (i+1) -cw ms i=(fQ ms i).length by rw[q];show cw ms i+cU ms i -cw ms i=_;omega,List.take_left]
theorem XI{w:Nat}(W:cX w)(hw:4000000<w){ms:qr aS}(F:fo ms){i a b:Nat}(hi:i<ms.length){s y:qr UInt8}(hab:a<=b)(hb:b<=s.length)(hc:(s.drop a).take (b -a)=fQ ms i++y)(hy:y.length<2^26)(hyw:2*65533+800000+y.length<w)(x3:Int)(x4 x5 x6:H1)(x7 x8:qr H1)(h8:x8.length<=1000):
 Cb w a b (ag s) x3 x4 x5 x6 x7 x8=some (0,ag s,x3,x4,x5,x6,x7,x8++jE ms i):=by
 have e1:(b.ble s.length&&(b.ble b&&a.ble b))=true:=by simp[hab,hb]
 have e2:aH x8.length=true:=by unfold aH;rw[iy];omega
 unfold Cb;simp only[cI,bP,e1,aE];rw[lY _ hb,hc,X8 W hw F hi y hy hyw];simp only[aA,cj,aY,bH,aD];rw[e2];rfl
theorem XJ{w:Nat}{ms:qr aS}{i k:Nat}(hi:i<k)(hk:k<=1000){P:qr cK}(hP:i<P.length)(v s:H1)(x3:Int)(x4 x6:H1)(x7:qr H1)(h7:x7.length<=100000):
 rj w i v s x3 x4 (dY P) x6 x7 ((List.range k).flatMap (jE ms))=some (s,x3,x4,dY P,x6,x7++[.int .i64 (aK ms i).p.aC.order,ar (aK ms i).p.aC.cn,ar (aK ms i).p.aC.bD,ar (aK ms i).p.aC.bG,ar (aK ms i).p.aC.bj,ar (aK ms i).p.aC.first,ag (aK ms i).p.aC.bC,ag (aK ms i).p.aC.cF,ag (aK ms i).p.bZ,ag (aK ms i).p.core,.int .i64 P[i].attr,.int .i64 P[i].dO,.int .i64 P[i].dP,v],(List.range k).flatMap (jE ms)):=by
 have hl:((List.range k).flatMap (jE ms)).length=k*13:=by rw[da (FB ms),List.length_range]
 have e1:(Nat.beq 13 13&&(i*13).blt ((List.range k).flatMap (jE ms)).length)=true:=by rw[hl];simp;omega
 have e2:((List.range k).flatMap (jE ms)).drop (i*13)=jE ms i++((List.range k).drop (i+1)).flatMap (jE ms):=by rw[nI (FB ms),dk (by rw[List.length_range];exact hi),dN,List.getElem_range]
 have e3:aH x7.length=true:=by unfold aH;rw[iy];omega
 unfold rj Cc;simp only[bP];rw[e1,aE,fU,e2];simp only[jE,ec,eK,aX,bu];rw[show dY P=aB ff P from rfl,bn mU hP];simp only[ff,ec,eK,aX,bu];rw[e3];rfl
def dL(ms:qr aS):qr Int:=(List.range (ms.length+1)).map λi=>(cw ms i:Int)
def oK(ms:qr aS):qr cK:=if ms.length=1 then[⟨0,0,0,0,0⟩] else fL ms
def gP(ms:qr aS)(k:Nat):qr H1:=(List.range k).flatMap (jE ms)
theorem ag4{ms:qr aS}(h:1<=ms.length):(oK ms).length=ms.length:=by
 unfold oK;split
 ·rename_i h1;rw[h1];rfl
 ·exact ll ms
theorem CY(ms:qr aS):∀i,i<=ms.length->gh (fL ms) i=(cw ms i:Int)
 |0,_=>rfl
 |i+1,h=>by
  have hi:i<(fL ms).length:=by rw[ll];omega
  rw[PJ hi,CY ms i (by omega),show(fL ms)[i]=qu ms i by simp[fL]];show(cw ms i:Int)+(cU ms i:Int)=((cw ms i+cU ms i:Nat):Int);omega
theorem ZD{ms:qr aS}(F:fo ms)(h1:1<=ms.length)(z:Nat):Dy (fL ms) (iq ms) z=if z=cw ms ms.length then some (dL ms) else none:=by
 have hl:=ll ms;unfold Dy;by_cases c:z=cw ms ms.length
 ·rw[ay c,ay]
  ·congr 1
   unfold dL;rw[hl];refine List.map_congr_left λi hi=>?_;have:=List.mem_range.1 hi;exact CY ms i (by omega)
  ·refine⟨?_,by omega,by rw[hl,CY ms _ (aM _),c]⟩;unfold Jj;rw[iv];intro i hi;have hi:=List.mem_range.1 hi;have hi2:i<ms.length:=by omega
   rw[cG hi];show tW _ _ _ _ _=true;rw[show(fL ms)[i]=qu ms i by simp[fL]];unfold tW;rw[cf,CY ms i (by omega)];have l1:=mg F hi2;have s1:=wI ms (show i+1<=ms.length by omega);have s2:cw ms (i+1)=cw ms i+cU ms i:=rfl;refine⟨?_,by show(1:Int)<=(cU ms i:Int);omega,by show(cU ms i:Int)<=_;omega⟩;unfold Dv qu;by_cases h0:i=0
   ·subst h0;simp;rfl
   ·simp only[aq h0];omega
 ·rw[aq c,aq]
  rintro ⟨_,_,q⟩
  rw[hl,CY ms _ (aM _)] at q;omega
theorem acZ{ms:qr aS}(h:ms.length=1):eS ms 0=[]:=by unfold eS;rw[aq (by omega)];show E8 (jm ms 0)=[];unfold jm;rw[cG (by omega:0<ms.length)];simp only[dW];rw[aq (by omega)];rfl
theorem ajr{w:Nat}{ms:qr aS}(h1:ms.length=1)(s:qr UInt8)(x1:Int)(x2 x3 x4:H1)(x5:qr H1):
 sL w (ag s) x1 x2 x3 x4 x5 (gP ms 1)=some (if cU ms 0=s.length then 0 else 2,ag s,x1,aB cM [0,(s.length:Int)],dY [⟨0,0,0,0,0⟩],x4,x5,gP ms 1):=by
 have e1:(Nat.beq 13 13&&Nat.blt 0 (gP ms 1).length)=true:=rfl;have e2:(gP ms 1).drop 0=jE ms 0++[]:=rfl;unfold sL yM;rw[e1,aE,e2];simp only[jE,ec,eK,aX,bu,cI];rw[acZ h1];have e3:ak 0 (Int.ofNat ([]:qr UInt8).length)=false:=rfl;rw[e3,aD,cj];by_cases c:cU ms 0=s.length
 ·rw[ay c,eY (show(cU ms 0:Int)=Int.ofNat s.length from bY Int.ofNat c)];rfl
 ·rw[aq c,fI (by intro q;exact c (Int.ofNat.inj q))];rfl
theorem ag5{ms:qr aS}(F:fo ms)(hcam:iq ms<=3000014):∀p∈fL ms,-4294967296<=p.at_/\p.at_<=4294967296/\-4294967296<=p.size/\p.size<=4294967296:=λp hp=>by
 have h6:=F.le;unfold fL at hp;obtain⟨i,hi,rfl⟩:=mF.1 hp;have hi:=List.mem_range.1 hi;have l1:=mg F hi;have s1:=wH F i (by omega);unfold qu;by_cases h0:i=0
 ·simp only[ay h0];omega
 ·simp only[aq h0];omega
theorem ajq{w:Nat}(W:cX w)(hw:4000000<w){ms:qr aS}(F:fo ms)(h2:1<ms.length)(s:qr UInt8)(hs:s.length<4294967296)(x1:Int)(x2 x3 x4:H1)(x5:qr H1):
 sL w (ag s) x1 x2 x3 x4 x5 (gP ms 1)=some (if s.length=cw ms ms.length then(0,ag s,x1,aB cM (dL ms),dY (fL ms),ar (aK ms 0).p.view,x5,gP ms 1) else(4,ag s,x1,aB cM [0,(s.length:Int)],dY [⟨0,0,0,0,0⟩],x4,x5,gP ms 1)):=by
 have e1:(Nat.beq 13 13&&Nat.blt 0 (gP ms 1).length)=true:=rfl;have e2:(gP ms 1).drop 0=jE ms 0++[]:=rfl;have h6:=F.le;obtain⟨g1,k1,k2,k3⟩:=F.at_ (i:=0) (by omega);obtain⟨b,b1,b2,b3,b4⟩:=Bn F h2;have hmp:=F.mem _ (cA (show 0<ms.length by omega));have hgood:=oB (F.qQ _ (cA (show 0<ms.length by omega)));have ho:=Ef hgood.1;have hr:db 5 ms[0].view=true:=by have:=hgood.2.2.2;unfold mJ at this;simpa using this
 have h27:=Ct W (by omega) b1 (by rw[g1];exact hmp.vs) (KS W (by rw[g1];exact ho) (by rw[ll];omega) (by rw[ll];omega) (by rw[g1];exact hmp.vs) (by rw[g1];exact hr));have hcam:iq ms<=3000014:=by have:=(mg F (i:=0) (by omega)).2;have:=DB (x:=fF (aK ms 0).p (aK ms 0).b) (aO:=(aK ms 0).aO);unfold iq;unfold cU at*;omega
 have hat:jX (aK ms 0).aO (eS ms 0)=(((aK ms 0).aO.length+10:Nat):Int):=by unfold jX;rw[b3,aq (by omega)]
 have h26:=aiW (w:=w) (fL ms) (ag5 F hcam) (by rw[ll];omega) (iq ms) (s.length:Int) (by omega) (by omega) (by rw[ll];omega);rw[ZD F (by omega)] at h26;unfold sL yM;rw[e1,aE,e2];simp only[jE,ec,eK,aX,bu,cI];rw[b3,show ak 0 (Int.ofNat b.length)=true by rw[aU,cf];show(0:Int)<(b.length:Int);omega,aE,h27];simp only[aA];rw[<-b3,hat,cc,show(((aK ms 0).aO.length+10:Nat):Int)+4=(iq ms:Int) by unfold iq;omega,aP (by omega) (by omega),show(!aj 0 0)=false from rfl,aD];rw[show Int.ofNat s.length=(s.length:Int) from rfl,h26];by_cases c:s.length=cw ms ms.length
 ·rw[ay c,ay c];have hsl:1<(dL ms).length:=by unfold dL;rw[cD,List.length_range];omega
  simp only[aA,bH,aD];rw[bn ma hsl];have hs1:(dL ms)[1]=(cU ms 0:Int):=by simp[dL,cw]
  simp only[cM,ec,eK,aX,bu,hs1,cj,aY,bH,aD]
 ·rw[aq c,aq c];simp only[aA,gj,aE];rfl
theorem Wv(ms:qr aS)(k:Nat):(gP ms k).length=k*13:=by unfold gP;rw[da (FB ms),List.length_range]
theorem ahZ(ms:qr aS){i k:Nat}(hi:i<k):(gP ms k).drop (i*13)=jE ms i++((List.range k).drop (i+1)).flatMap (jE ms):=by unfold gP;rw[nI (FB ms),dk (by rw[List.length_range];exact hi),dN,List.getElem_range]
theorem ajs{w:Nat}(W:cX w)(hw:70000000<w){ms:qr aS}(F:fo ms)(h1:1<=ms.length){P:qr cK}(hP:P.length=ms.length)(hp:∀i (h:i<ms.length),P[i].attr=ms[i].attr/\P[i].dO=ms[i].dO/\P[i].dP=ms[i].dP)(x4:H1):
 GH w (ag (bN ms).flatten) 0 (aB cM (dL ms)) (dY P) (ar ms[0].view) [] (gP ms 1)=some ((0:Int),ag (bN ms).flatten,((ms.length -1:Nat):Int),aB cM (dL ms),dY P,ar ms[0].view,ms.flatMap cN,gP ms ms.length):=by
 have h6:=F.le;have hall:=uE F;have htot:=yh F;have hsl:(dL ms).length=ms.length+1:=by unfold dL;rw[cD,List.length_range]
 have hsa:∀i (h:i<(dL ms).length),(dL ms)[i]=(cw ms i:Int):=λi h=>by simp[dL]
 have hmem:∀i (h:i<ms.length),[Value.int .i64 (aK ms i).p.aC.order,ar (aK ms i).p.aC.cn,ar (aK ms i).p.aC.bD,ar (aK ms i).p.aC.bG,ar (aK ms i).p.aC.bj,ar (aK ms i).p.aC.first,ag (aK ms i).p.aC.bC,ag (aK ms i).p.aC.cF,ag (aK ms i).p.bZ,ag (aK ms i).p.core,.int .i64 (P[i]'(by omega)).attr,.int .i64 (P[i]'(by omega)).dO,.int .i64 (P[i]'(by omega)).dP,ar ms[i].view]=cN ms[i]:=λi h=>by obtain⟨a,b,c⟩:=hp i h;rw[a,b,c,(F.at_ h).1];rfl
 unfold GH;have h0:=XJ (w:=w) (ms:=ms) (i:=0) (k:=1) (by omega) (by omega) (P:=P) (by omega) (ar ms[0].view) (ag (bN ms).flatten) 0 (aB cM (dL ms)) (ar ms[0].view) [] (by simp);rw[hmem 0 (by omega)] at h0;rw[show gP ms 1=(List.range 1).flatMap (jE ms) from rfl,show rj w 0 (ar ms[0].view)=rj w ((0:Nat):Int) (ar ms[0].view) from rfl,h0];simp only[aA];have ht0:([]:qr H1)++cN ms[0]=(ms.take (0+1)).flatMap cN:=by rw[iI (show 0<ms.length by omega)];simp
 rw[ht0];refine gO (w:=w) (ev:=λj (g:Int->H1->Int->H1->H1->H1->qr H1->qr H1->Hx (Int×H1×Int×H1×H1×H1×qr H1×qr H1))=>g ((j+1:Nat):Int) (ag (bN ms).flatten) (j:Int) (aB cM (dL ms)) (dY P) (ar ms[0].view) ((ms.take (j+1)).flatMap cN) (gP ms (j+1))) (ms.length -1) ?_ ?_ (by omega)
 ·intro j g hj;have hi:j+1<ms.length:=by omega
  have e1:(((j+1:Nat):Int)<(P.length:Int)):=by omega
  have w1:ah .i64 (((j+1:Nat):Int)+1)=((j+1+1:Nat):Int):=by rw[aP (by omega) (by omega)];rfl
  have s1:=wI ms (show j+1+1<=ms.length by omega);have s2:cw ms (j+1+1)=cw ms (j+1)+cU ms (j+1):=rfl;have hcut:=agP F hi;have hjm:j+1<=6:=by omega
  have h207:=XI (w:=w) W (by omega) F (i:=j+1) (a:=cw ms (j+1)) (b:=cw ms (j+1+1)) hi (s:=(bN ms).flatten) (y:=[]) (by omega) (by omega) (by rw[ea];exact hcut) (by decide) (by rw[List.length_nil];omega) ((j+1:Nat):Int) (aB cM (dL ms)) (dY P) (ar ms[0].view) ((ms.take (j+1)).flatMap cN) (gP ms (j+1)) (by rw[Wv];omega);have him:gP ms (j+1)++jE ms (j+1)=gP ms (j+1+1):=by
   unfold gP
   conv=>rhs;rw[List.range_succ,fD,dN,lH,ea]
  rw[him] at h207;have e2:(Nat.beq 13 13&&((j+1)*13).blt (gP ms (j+1+1)).length)=true:=by rw[Wv];simp
  have e3:((cw ms (j+1+1):Int) -(cw ms (j+1):Int))=(cU ms (j+1):Int):=by omega
  have l1:=mg F hi;have w2:ah .i64 (cU ms (j+1):Int)=(cU ms (j+1):Int):=aP (by omega) (by omega);have ht:(ms.take (j+1+1)).flatMap cN=(ms.take (j+1)).flatMap cN++cN ms[j+1]:=by rw[iI hi,fD,dN,lH,ea]
  have h208:=λv=>XJ (w:=w) (ms:=ms) (i:=j+1) (k:=j+1+1) (by omega) (by omega) (P:=P) (by omega) v (ag (bN ms).flatten) ((j+1:Nat):Int) (aB cM (dL ms)) (ar ms[0].view) ((ms.take (j+1)).flatMap cN) (by rw[da iV,dE];omega);obtain⟨g1,k1,k2,k3⟩:=F.at_ hi;have hmp:=F.mem _ (cA hi);simp only[show dY P=aB ff P from rfl,cd,aU,bU,e1,aY,aE,bP,cc,w1];rw[bn ma (show j+1<(dL ms).length by omega),hsa];simp only[cM,ec,eK,aX,bu];rw[bn ma (show j+1+1<(dL ms).length by omega),hsa];simp only[cM,ec,eK,aX,bu];rw[show aB ff P=dY P from rfl,h207];simp only[aA];rw[show(!aj (0:Int) 0)=false from rfl,aD,e2,aE,fU,ahZ ms (by omega)];simp only[jE,ec,eK,aX,bu,cI];rw[bn ma (show j+1+1<(dL ms).length by omega),hsa];simp only[cM,ec,eK,aX,bu];rw[bn ma (show j+1<(dL ms).length by omega),hsa];simp only[cM,ec,eK,aX,bu,ji,e3,w2,cj,aY,bH,aD];have hb:eS ms (j+1)=(aK ms (j+1)).b:=by unfold eS;rw[aq (by omega)]
  have k4:(if ms[j+1].view.length=0 then(.ok []:Except Int (qr UInt8)) else rE ms[j+1].aC.order ms[j+1].view)=.ok (aK ms (j+1)).b:=by have:=k1;unfold jm at this;rw[cG hi] at this;simp only[aq (show¬(j+1=0) by omega)] at this;exact this
  rw[hb];by_cases h0:ms[j+1].view.length=0
  ·rw[ay h0] at k4;injection k4 with k4;rw[<-k4,show decide ((0:Int)<(([]:qr UInt8).length:Nat))=false from rfl,aD,show ae 0 []=ar ms[j+1].view by rw[qF.1 h0];rfl];rw[show gP ms (j+1+1)=(List.range (j+1+1)).flatMap (jE ms) from rfl,h208,hmem _ hi,<-ht];rfl
  ·rw[aq h0] at k4;obtain⟨r,hbr,_⟩:=Zh k4 (by have:=hmp.vs.1;omega);have hbl:0<(aK ms (j+1)).b.length:=by rw[hbr,aT];have:fC.length=4:=rfl;omega
   rw[eY (show(0:Int)<((aK ms (j+1)).b.length:Int) by omega),aE,ajw W (by omega) k4 hmp.vs];simp only[aA];simp only[aY,bH,aD];rw[show gP ms (j+1+1)=(List.range (j+1+1)).flatMap (jE ms) from rfl,h208,hmem _ hi,<-ht];rfl
 ·intro g;have e1:¬(((ms.length -1+1:Nat):Int)<(P.length:Int)):=by omega
  simp only[show dY P=aB ff P from rfl,cd,aU,bU,e1,bL,aD];rw[show ms.length -1+1=ms.length by omega,eQ (aM _)]
theorem Vc{ms:qr aS}(hm:∀p∈ms,eD p)(h6:ms.length<=6)(h1:ms.length=1)(hc:(fW ms).1 =0):ms[0].attr=0/\ms[0].dO=0/\ms[0].dP=0/\ms[0].view=[]:=by
 have:=((Kp hm (by omega) h6).1 hc).2
 match ms,h1 with
 |[p],_=>simp[xn] at this;exact this
theorem alP{ms:qr aS}(h1:ms.length=1):dL ms=[0,(cU ms 0:Int)]:=by
 unfold dL;rw[h1];show[((cw ms 0:Nat):Int),((cw ms 1:Nat):Int)]=_;have:cw ms 1=cU ms 0:=by show 0+cU ms 0=_;omega
 rw[this];rfl
theorem ajp{w:Nat}(W:cX w)(hw:70000000<w){ms:qr aS}(F:fo ms)(h1:1<=ms.length){s y:qr UInt8}(hc:s=fQ ms 0++y)(hy:y.length<2^25)(x1:Int)(x2 x3 x4:H1)(x5:qr H1):
 GG w (ag s) x1 x2 x3 x4 x5 []=some (0,ag s,x1,x2,x3,x4,x5,gP ms 1):=by
 have q:=(qW F (i:=0) (by omega)).2.2;have l:=mg F (i:=0) (by omega);have hs:s.length=cU ms 0+y.length:=by rw[hc,aT,q]
 have e1:¬((4294967295:Int)<(s.length:Int)):=by omega
 unfold GG;simp only[cI,aU,bU,e1,bL,aD];have h:=XI (w:=w) W (by omega) F (i:=0) (a:=0) (b:=s.length) (by omega) (s:=s) (y:=y) (by omega) (by omega) (by rw[ew,Nat.sub_zero,oY];exact hc) (by omega) (by omega) x1 x2 x3 x4 x5 [] (by simp);rw[show((0:Nat):Int)=0 from rfl] at h;rw[h];rfl
theorem XE{w:Nat}(W:cX w)(hw:70000000<w){ms:qr aS}(F:fo ms)(h1:1<=ms.length)(hc:iz ms=0)(hf:(fW ms).1 =0):
 BZ w (ag (bN ms).flatten)=some ((0:Int),ag (bN ms).flatten,(fW ms).2,aB cM (dL ms),dY (oK ms),ar ms[0].view,ms.flatMap cN,gP ms ms.length):=by
 have h6:=F.le;have hall:=uE F;have htot:=yh F;have hcut:(bN ms).flatten=fQ ms 0++((bN ms).drop 1).flatten:=by have:=Fk F (i:=0) (by omega);rwa[show cw ms 0=0 from rfl,ew] at this
 have hyl:((bN ms).drop 1).flatten.length<=(bN ms).flatten.length:=by have:=bY List.length hcut;rw[aT] at this;omega
 have hql:=ag4 h1;have hidx:sL w (ag (bN ms).flatten) 0 (ae 0 []) (ae 0 []) (ae 0 []) [] (gP ms 1)=some ((0:Int),ag (bN ms).flatten,(0:Int),aB cM (dL ms),dY (oK ms),ar ms[0].view,([]:qr H1),gP ms 1):=by
  by_cases h2:ms.length=1
  ·have e:cU ms 0=(bN ms).flatten.length:=by rw[hall,h2];show cU ms 0=0+cU ms 0;omega
   rw[ajr h2,ay e,alP h2,e,(Vc F.mem h6 h2 hf).2.2.2];unfold oK;rw[ay h2];rfl
  ·rw[ajq W (by omega) F (by omega) _ (by omega),ay hall,(F.at_ (i:=0) (by omega)).1];unfold oK;rw[aq h2]
 have hoth:=ajs W hw F h1 (P:=oK ms) hql (λi h=>by
  by_cases h2:ms.length=1
  ·have:=Vc F.mem h6 h2 hf;obtain rfl:i=0:=by omega
   have e:(oK ms)[0]'(by omega)=⟨0,0,0,0,0⟩:=by unfold oK;simp[h2]
   rw[e];exact⟨this.1.symm,this.2.1.symm,this.2.2.1.symm⟩
  ·have e:(oK ms)[i]'(by omega)=qu ms i:=by simp[oK,h2,fL]
   rw[e];unfold qu;rw[(F.at_ h).1];exact⟨rfl,rfl,rfl⟩) (ae 0 [])
 have hmv:ae ((ms.flatMap cN).length/14) (ms.flatMap cN)=cx ms:=by unfold cx aB;rw[da iV,ja _ (by decide)]
 have hlim:GI w (ag (bN ms).flatten) ((ms.length -1:Nat):Int) (aB cM (dL ms)) (dY (oK ms)) (ar ms[0].view) (ms.flatMap cN) (gP ms ms.length)=some ((0:Int),ag (bN ms).flatten,(fW ms).2,aB cM (dL ms),dY (oK ms),ar ms[0].view,ms.flatMap cN,gP ms ms.length):=by unfold GI;rw[hmv,Yu W (by omega) F.mem (by omega) (by omega),Of W (by omega) F.mem (by omega) (by omega),hc];rfl
 unfold BZ;rw[ajp W hw F h1 hcut (by omega)];simp only[aA];rw[show(!aj (0:Int) 0)=false from rfl,aD,hidx];simp only[aA];rw[show(!aj (0:Int) 0)=false from rfl,aD,hoth];simp only[aA];rw[show(!aj (0:Int) 0)=false from rfl,aD,hlim];rfl
theorem NZ{w:Nat}(W:cX w)(hw:70000000<w){ms:qr aS}(F:fo ms)(h1:1<=ms.length)(hc:iz ms=0)(hf:(fW ms).1 =0):uc w (ag (bN ms).flatten)=some (cx ms,0,0):=by unfold uc;rw[XE W hw F h1 hc hf];simp only[aA];rw[show(!aj (0:Int) 0)=false from rfl,aD,da iV,ja _ (by decide)];rfl
theorem ak4(w:Nat)(a b:H1):Pg w a b=sR w a b:=rfl
theorem ajd{w:Nat}{p:aS}(h:eD p)(hw:10000<w):Gw w p.aC.order (ar p.aC.cn) (ar p.aC.bD) (ar p.aC.bG) (ar p.aC.bj) (ar p.aC.first) (ag p.aC.bC) (ag p.aC.cF) (ag p.bZ) (ag p.core) p.attr p.dO p.dP (ar p.view) p.aC.order (ar p.aC.cn) (ar p.aC.bD) (ar p.aC.bG) (ar p.aC.bj) (ar p.aC.first) (ag p.aC.bC) (ag p.aC.cF) (ag p.bZ) (ag p.core) p.attr p.dO p.dP (ar p.view)=some true:=by have hv:=h.tv.1;unfold Gw;rw[ak3 h.tG hw,ze,ze,ak4,zf _ (by omega) (by omega)];simp only[aY,aE,aA,cj]
theorem aiY{w:Nat}{ms:qr aS}(hm:∀p∈ms,eD p)(hl:ms.length<=2000)(hw:10000<w):Gp w (cx ms) (cx ms)=some true:=by
 have hlr:∀(K:Nat->Hx Bool),aw (cx ms) K=K ms.length:=λK=>cd cN ms K;unfold Gp N0;rw[hlr,hlr,show aj (Int.ofNat ms.length) (Int.ofNat ms.length)=true by rw[cj,cf],bH,aD,hlr];refine(bY (λz:Hx Bool=>ob z λx2=>some x2) (?_:_=some true)).trans rfl;refine gO (ev:=λi (g:H1->H1->Int->Int->Hx Bool)=>g (cx ms) (cx ms) ms.length i) ms.length ?_ ?_ (by omega)
 ·intro i g hi;have e1:((i:Int)<(ms.length:Int)):=by omega
  simp only[aU,e1,aY,aE,bP];rw[show cx ms=aB cN ms from rfl,bn iV hi,lf];simp only[aX,bu];rw[bn iV hi,lf];simp only[aX,bu];rw[ajd (hm _ (cA hi)) hw];simp only[aA,bH,aD,cc];rw[aP (by omega) (by omega)];rfl
 ·intro g;have e1:¬((ms.length:Int)<(ms.length:Int)):=by omega
  simp only[aU,e1,bL,aD]
theorem XG{w:Nat}{s:qr UInt8}{a:Nat}(ha:a<=s.length)(hs:s.length<2^28)(hw:s.length+10<w){l:qr bM}{e:Nat}(he:e<=s.length)(h:ofM (s.drop a)=.ok l e):sJ w (ag s) a=some (((a+e:Nat):Int),true):=by
 unfold sJ;have e1:¬((a:Int)<0):=by omega
 have e2:¬((s.length:Int)<(a:Int)):=by omega
 simp only[cI,aU,bU,e1,e2,bL,aD,bP];rw[show(s.length.ble s.length&&a.ble s.length)=true by simp[ha],aE,lY _ (aM _),eQ (by rw[er];omega),Ih _ (by rw[er];omega) (by rw[er];omega),h];simp only[aA];rw[show(!aj 0 0)=false from rfl,aD,cc,aP (by omega) (by omega)]
 congr 2
theorem Sw{x:nv}{aO:qr UInt8}(h:xb x aO)(y:qr UInt8):ofM (eR x aO++y)=.ok (jB x aO) (eR x aO).length:=by obtain⟨-,hp1,hp2,hp3,hp4⟩:=zZ h.app h.rows;exact Uc (KM h.core hp2 h.bZ (by rcases h.cy with q|q;omega;exact q.2)) y
theorem agQ{w:Nat}{ms:qr aS}(F:fo ms)(hw:70000000<w){i:Nat}(hi:i<ms.length):sJ w (ag (bN ms).flatten) (cw ms i:Int)=some ((cw ms (i+1):Int),true):=by
 obtain⟨I,q1,q2⟩:=qW F hi;have h6:=F.le;have hall:=uE F;have hle:=wH F ms.length (aM _);have h1:=wI ms (show i<=ms.length by omega);have h2:=wI ms (show i+1<=ms.length by omega);have h3:cw ms (i+1)=cw ms i+cU ms i:=rfl;have:=XG (w:=w) (s:=(bN ms).flatten) (a:=cw ms i) (by omega) (by omega) (by omega) (l:=jB (fF ms[i] (eS ms i)) (aK ms i).aO) (e:=cU ms i) (by omega) (by
  rw[Fk F hi,<-q2];unfold fQ;rw[(F.at_ hi).1];exact Sw I _)
 rw[this,h3]
theorem RJ{w:Nat}{ms:qr aS}(F:fo ms)(hw:70000000<w):∀(k i f:Nat),i+k=ms.length->k<f->
 rV (sJ w) (ag (bN ms).flatten) (bN ms).flatten.length f (cw ms i:Int) ((List.range i).map λj=>(cw ms j:Int))=some ((List.range ms.length).map λj=>(cw ms j:Int))
 |0,i,f+1,h,_=>by
  obtain rfl:i=ms.length:=by omega
  unfold rV;rw[uE F,aU,fI (by omega),aD]
 |k+1,i,f+1,h,hf=>by
  have h6:=F.le;have hi:i<ms.length:=by omega
  have h1:=wI ms (show i+1<=ms.length by omega);have h3:cw ms (i+1)=cw ms i+cU ms i:=rfl;have h4:=(mg F hi).1;unfold rV;rw[uE F,aU,eY (by omega),aE,agQ F hw hi,aA];rw[show((true&&ak (cw ms i:Int) (cw ms (i+1):Int))&&Nat.blt ((List.range i).map λj=>(cw ms j:Int)).length 1000000)=true by rw[aU,eY (by omega),cD,List.length_range];simp;omega,aE];have:=RJ F hw k (i+1) f (by omega) (by omega);rw[uE F,List.range_succ,fS] at this;exact this
theorem aiU{w:Nat}{ms:qr aS}(F:fo ms)(h1:1<=ms.length)(hw:70000000<w):Gl w (ag (bN ms).flatten)=some (aB cM (dL ms),0):=by
 have h6:=F.le;have hall:=uE F;have hle:=wH F ms.length (aM _);unfold Gl findF;rw[show rowOf (ag (bN ms).flatten)=some ((bN ms).flatten.length,(bN ms).flatten.flatMap mM) from rfl];simp only;have:=RJ F hw ms.length 0 w (by omega) (by omega);rw[show(cw ms 0:Int)=0 from rfl,List.range_zero,List.map_nil] at this;rw[show Nat.ble (bN ms).flatten.length 1000000000=true by rw[iy];omega,aE,this,aA,cD,List.length_range];rw[show(Nat.blt 0 ms.length&&Nat.ble ms.length 1000000)=true by simp;omega,aE];have e:(List.range ms.length).map (λj=>(cw ms j:Int))++[((bN ms).flatten.length:Int)]=dL ms:=by unfold dL;rw[List.range_succ,fS,hall];rfl
 rw[e];have hl:(dL ms).length=ms.length+1:=by unfold dL;rw[cD,List.length_range]
 unfold aB;rw[hl]
 congr 3
 exact(AH _).symm
theorem ahb{P y Q:qr UInt8}:aW P.length (y.map aZ) ((P++(y++Q)).map aZ)=(P++(y++Q)).map aZ:=by simp only[fS];have:=Bt (y.map aZ) (y.map aZ) (P.map aZ) (Q.map aZ) rfl;rwa[cD] at this
theorem QT{γ:Type}(f:H1->γ){s P y Q:qr UInt8}(hs:s=P++(y++Q))(hy:0<y.length)(hl:s.length<=1000000000){A:Int}(hA:A=(P.length:Int)):
 (aw (ag s) λ(x11:Nat)=>bif Nat.blt 0 1&&Nat.beq 1 1&&Nat.ble 1 10000&&(x11.ble x11&&x11.ble 1000000000) then dQ 1 (ag s) λ(x12:Nat)(x13:qr H1)=>bif x13.length.beq (x12*1)&&(0+x12.min x11*1).ble (rep x11 (Value.int IntKind.u8 0).cells.toList,5).fst.length then aF A λ(x14:Nat)=>bif x11.ble x11&&x14.ble x11 then dQ 1 (ag y) λ(x15:Nat)(x16:qr H1)=>bif x16.length.beq (x15*1)&&((bif x11.beq x14 then 0 else 0+x14*1)+x15.min (x11 -x14)*1).ble (aW 0 (List.take (x12.min x11*1) x13) (rep x11 (Value.int IntKind.u8 0).cells.toList,5).fst,5).fst.length then some (f (ae x11 (List.drop 0 (aW (bif x11.beq x14 then 0 else 0+x14*1) (List.take (x15.min (x11 -x14)*1) x16) (aW 0 (List.take (x12.min x11*1) x13) (rep x11 (Value.int IntKind.u8 0).cells.toList,5).fst,5).fst)))) else none else none else none else none)=some (f (ag s)):=by
 subst hA;have hlen:s.length=P.length+(y.length+Q.length):=by rw[hs];simp
 have hrl:(rep s.length (Value.int IntKind.u8 0).cells.toList).length=s.length:=by rw[sB];simp
 have z:aW 0 (List.take (s.length.min s.length*1) (s.flatMap mM)) (rep s.length (Value.int IntKind.u8 0).cells.toList)=s.map aZ:=by rw[gZ,eQ (by simp),VJ _ _ _ (by rw[hrl];simp),oZ,eK,uJ (by rw[hrl];simp),ea]
 rw[cI,show(Nat.blt 0 1&&Nat.beq 1 1&&Nat.ble 1 10000&&(s.length.ble s.length&&s.length.ble 1000000000))=true by simp[hl],aE,im];rw[show((s.flatMap mM).length.beq (s.length*1)&&(0+s.length.min s.length*1).ble (rep s.length (Value.int IntKind.u8 0).cells.toList,5).fst.length)=true by show(_&&Nat.ble _ (rep s.length (Value.int IntKind.u8 0).cells.toList).length)=true;rw[hrl,gZ,cD];simp,aE,bP];rw[show(s.length.ble s.length&&P.length.ble s.length)=true by simp;omega,aE,im];show(bif _&&Nat.ble (_+_) (aW 0 _ (rep s.length (Value.int IntKind.u8 0).cells.toList)).length then some (f (ae s.length (List.drop 0 (aW _ _ (aW 0 _ (rep s.length (Value.int IntKind.u8 0).cells.toList)))))) else none)=_;rw[z,show s.length.beq P.length=false by cases h:s.length.beq P.length with|false=>rfl|true=>have:=bX h;omega,aD]
 rw[show((y.flatMap mM).length.beq (y.length*1)&&(0+P.length*1+y.length.min (s.length -P.length)*1).ble (s.map aZ).length)=true by rw[gZ,cD,cD,show y.length.min (s.length -P.length)=y.length from kC (by omega)];simp;omega,aE];rw[show y.length.min (s.length -P.length)=y.length from kC (by omega),gZ,eQ (by simp),fU,gk,ew]
 conv=>lhs;rw[hs,ahb,<-hs]
 rw[JC]
theorem KL{o:Int}{l:qr cK}{view:qr aL}{b:qr UInt8}(h:gT o l view=.ok b):(o=1\/o=2)/\2<=l.length/\16*l.length<=65536/\(∀p∈l,km p=true)/\db 5 view=true:=by
 unfold gT at h;split at h
 ·cases h
 split at h
 ·cases h
 rename_i h2;split at h
 ·cases h
 rename_i h3;split at h
 ·cases h
 exact⟨by omega,by omega,by omega,λp hp=>iv.1 (by simpa using h2) p hp,by simpa using h3⟩
theorem abz{w:Nat}(W:cX w)(hw:800000<w){o:Int}{l:qr cK}{view:qr aL}{b:qr UInt8}(h:gT o l view=.ok b)(hv:VS view)(hS:(eJ (cT o l view)).length<100000000):rn w (ag b) (cu fJ)=some (o,dc (cT o l view).dJ,aB bV (eJ (cT o l view)),0):=by
 have hvl:=hv.1;have ho:=KL h;obtain⟨r,hb,hr,hwk,-,hbl⟩:=Em h (by omega);have hp:fC.isPrefixOf b=true:=by rw[hb,pY];exact rI _ _
 have hl4:b.length=r.length+4:=by rw[hb,aT];have:fC.length=4:=rfl;omega
 have h117:=GL (w:=w) (b:=r) (by omega) (by omega) DF (λs hs=>by
  have:s=0\/s=1:=by simp[fJ] at hs;omega
  rcases this with rfl|rfl<;>decide) (by decide) (by decide) (OG (by omega)) (o:=o) (ds:=(cT o l view).dJ) hS hwk
 have e1:¬((65533:Int)<(b.length:Int)):=by omega
 have e2:¬((b.length:Int)<(4:Int)):=by omega
 have e3:4<=b.length:=by omega
 have h116:uh w (ag b)=some true:=by unfold uh yz;have:ae 4 (List.drop 0 [Value.int IntKind.u8 77,Value.int IntKind.u8 80,Value.int IntKind.u8 70,Value.int IntKind.u8 0])=ag fC:=rfl;rw[this,yG,hp];rfl
 unfold rn;rw[cI];simp only[aU,bU,e1,aD];rw[cI];simp only[e2,aD];rw[h116];simp[e3];rw[lY _ (aM _),eQ (by rw[er];omega),show b.drop 4=r by rw[hb];rfl,h117];rfl
theorem ajo{w:Nat}(W:cX w)(hw:800000<w){o:Int}{l:qr cK}{view:qr aL}{b:qr UInt8}(h:gT o l view=.ok b)(hv:VS view)(hS:(eJ (cT o l view)).length<100000000):GF w (ag b)=some (54,true):=by
 have ho:=KL h;obtain⟨S,hs⟩:=abK o ⟨ho.2.1,ho.2.2.1⟩ view;unfold GF;rw[Ct W hw h hv hS];simp only[aA];rw[show(!aj 0 0)=false from rfl,aD,show uy w=some (cu fJ) from rfl];simp only[aA];rw[abz W hw h hv hS];simp only[aA];rw[cd,hs];generalize hL:((⟨1,-1,0,0,8⟩:bq)::⟨2,0,0,8,42⟩::⟨3,0,45058,50,16*l.length⟩::S)=L;have hn:3<=L.length:=by rw[<-hL];simp
 have x0:∀i:Nat,i<3->ak (i:Int) (Int.ofNat L.length)=true:=λi hi=>by rw[aU,cf];show(i:Int)<((_:Nat):Int);omega
 rw[eB _ _ (by omega),show ak 0 (Int.ofNat L.length)=true from x0 0 (by omega),aE,show∀K:Nat->Hx (Int×Bool),aF 0 K=K 0 fromλ_=>rfl,bn uA (show 0<L.length by omega),show L[0]=(⟨1,-1,0,0,8⟩:bq) by simp[<-hL]];simp only[bV,ec,eK,aX,bu];rw[show aj 1 3=false from rfl,aD,show ah .i64 (Int.add 0 1)=1 from rfl,eB _ _ (by omega),show ak 1 (Int.ofNat L.length)=true from x0 1 (by omega),aE,show∀K:Nat->Hx (Int×Bool),aF 1 K=K 1 fromλ_=>rfl,bn uA (show 1<L.length by omega),show L[1]=(⟨2,0,0,8,42⟩:bq) by simp[<-hL]];simp only[bV,ec,eK,aX,bu];rw[show aj 2 3=false from rfl,aD,show ah .i64 (Int.add 1 1)=2 from rfl,eB _ _ (by omega),show ak 2 (Int.ofNat L.length)=true from x0 2 (by omega),aE,show∀K:Nat->Hx (Int×Bool),aF 2 K=K 2 fromλ_=>rfl,bn uA (show 2<L.length by omega),show L[2]=(⟨3,0,45058,50,16*l.length⟩:bq) by simp[<-hL]];simp only[bV,ec,eK,aX,bu];rfl
theorem ajb{w:Nat}(W:cX w)(hw:800000<w){o:Int}{l:qr cK}{view:qr aL}{b:qr UInt8}(h:gT o l view=.ok b)(hv:VS view)(hS:(eJ (cT o l view)).length<100000000){i:Nat}(hi:i<l.length):
 Gu w (ag b) i l[i].attr l[i].size l[i].at_ l[i].dO l[i].dP=some (ag b,true):=by
 have ho:=KL h;have hp:=ho.2.2.2.1 l[i] (cA hi);obtain⟨A,B,hA,hAB⟩:=abH o ⟨ho.2.1,ho.2.2.1⟩ view;obtain⟨hb,-⟩:=KR h;obtain⟨r,-,-,-,-,hbl⟩:=Em h (by have:=hv.1;omega);have hsp:l=l.take i++l[i]::l.drop (i+1):=by rw[<-dk hi,lI]
 have hpl:((l.take i).flatMap (dV o)).length=16*i:=by rw[pK,dE];omega
 have h16:(dV o l[i]).length=16:=by have:=pK o [l[i]];simpa using this
 have hs:b=(fC++(A++(l.take i).flatMap (dV o)))++(dV o l[i]++((l.drop (i+1)).flatMap (dV o)++B)):=by
  rw[hb,hAB]
  conv=>lhs;rw[hsp]
  simp only[fD,dN,dM]
 have hP:(fC++(A++(l.take i).flatMap (dV o))).length=54+16*i:=by rw[aT,aT,hA,hpl];have:fC.length=4:=rfl;omega
 unfold Gu;rw[Ct W hw h hv hS];simp only[aA];rw[show(!aj 0 0)=false from rfl,aD,show ak (i:Int) 0=false by rw[aU,gJ];omega,aD,show dY l=aB ff l from rfl,cd,show ak (i:Int) (Int.ofNat l.length)=true by rw[aU,cf];show(i:Int)<(l.length:Int);omega,bH,aD];rw[G2 (by omega) _ ho.1,ay hp,aA,ajo W hw h hv hS,aA];rw[show(!(ag (dV o l[i]),true).snd)=false from rfl,aD,aD];refine QT (λv=>(v,true)) hs (by omega) (by omega) ?_;rw[hP,cc,oD,aP (n:=16*(i:Int)) (by omega) (by omega),aP (by omega) (by omega)];omega
theorem ag2{ms:qr aS}:pJ (gU ms) (iq ms) (fL ms)=fL ms:=by
 have hl:=ll ms;have hL:=tP ms;refine List.ext_getElem (by rw[Fo]) λi h1 h2=>?_;have hi:i<ms.length:=by omega
 rw[Mk _ _ _ (by omega) (by omega),AT,Ab ms i (by omega)];simp only[fL,List.getElem_map,List.getElem_range,qu]
theorem abp{ms:qr aS}(F:fo ms)(h2:1<ms.length):(iq ms:Int)<=kU (gU ms) 1/\iq ms<=3000014:=by obtain⟨b,b1,b2,b3,b4⟩:=Bn F h2;have q:(aK ms 0).aO.length+(aK ms 0).b.length+6<=cU ms 0:=DB (x:=fF (aK ms 0).p (aK ms 0).b) (aO:=(aK ms 0).aO);have q2:=(mg F (i:=0) (by omega)).2;rw[Ab ms 1 (by omega),show cw ms 1=cU ms 0 from by show 0+cU ms 0=cU ms 0;omega];unfold iq;omega
theorem aiV{w:Nat}(W:cX w)(hw:70000000<w){ms:qr aS}(F:fo ms)(h2:1<ms.length):Gm w (ag (bN ms).flatten)=some (ag (bN ms).flatten,0):=by
 have h6:=F.le;have hall:=uE F;have hle:=wH F ms.length (aM _);obtain⟨g1,k1,k2,k3⟩:=F.at_ (i:=0) (by omega);obtain⟨b,b1,b2,b3,b4⟩:=Bn F h2;have hmp:=F.mem _ (cA (show 0<ms.length by omega));have hgood:=oB (F.qQ _ (cA (show 0<ms.length by omega)));have ho:=Ef hgood.1;have hr:db 5 ms[0].view=true:=by have:=hgood.2.2.2;unfold mJ at this;simpa using this
 have hvs:VS (aK ms 0).p.view:=by rw[g1];exact hmp.vs
 have hsp:=KS W (o:=(aK ms 0).p.aC.order) (by rw[g1];exact ho) (l:=fL ms) (by rw[ll];omega) (by rw[ll];omega) hvs (by rw[g1];exact hr);have h27:=Ct W (by omega) b1 hvs hsp;have hsplit:(bN ms).flatten=fQ ms 0++((bN ms).drop 1).flatten:=Fk F (i:=0) (by omega);have hy:((bN ms).drop 1).flatten.length<=(bN ms).flatten.length:=by rw[hsplit,aT];omega
 have h25:=X8 W (by omega) F (i:=0) (by omega) ((bN ms).drop 1).flatten (by omega) (by omega);rw[<-hsplit] at h25;have hat:jX (aK ms 0).aO (eS ms 0)=(((aK ms 0).aO.length+10:Nat):Int):=by unfold jX;rw[b3,aq (by omega)]
 obtain⟨A,B,hA,hAB⟩:=abC (fF (aK ms 0).p (eS ms 0)) (aK ms 0).aO (by show(eS ms 0).length≠0;rw[b3];omega);have hfile:(bN ms).flatten=A++(eS ms 0++(B++((bN ms).drop 1).flatten)):=by
  conv=>lhs;rw[hsplit]
  unfold fQ;rw[hAB];simp only[dM];rfl
 have hsl:(dL ms).length=ms.length+1:=by unfold dL;rw[cD,List.length_range]
 have hsg:∀i (h:i<(dL ms).length),(dL ms)[i]=(cw ms i:Int):=λi h=>by simp[dL]
 obtain⟨hh1,hh2⟩:=abp F h2;have h67:=XD (w:=w) (gU ms) (λn hn=>by unfold gU at hn;obtain⟨i,hi,rfl⟩:=mF.1 hn;have:=mg F (List.mem_range.1 hi);omega) (by rw[tP];omega) (by omega) (iq ms) ⟨by omega,hh1⟩ (fL ms) (by rw[ll,tP]) (by rw[ll];omega);rw[ag2] at h67;have hcl:(aK ms 0).aO.length+14=iq ms:=rfl;generalize hs:(bN ms).flatten=s at*;unfold Gm;rw[<-hs,aiU F (by omega) hw,hs,aA];rw[show(!aj (aB cM (dL ms),(0:Int)).snd 0)=false from rfl,aD,h25,aA];rw[show(!aj 0 0)=false from rfl,aD];rw[b3,h27,aA,<-b3];rw[show(!aj 0 0)=false from rfl,aD];rw[cd,show((dL ms).length.ble (dL ms).length&&Nat.ble 1 (dL ms).length)=true by simp;omega,aE,tz ma _ (aM _),cd,dE,er,Nat.min_self,show(dL ms).length -1=ms.length by omega];refine gO (ev:=λi (g:H1->H1->Int->Int->Int->H1->H1->H1->H1->H1->H1->H1->H1->H1->H1->Int->Int->Int->H1->H1->qr H1->Hx (H1×Int))=>
  g (ag s) (aB cM (dL ms)) ms.length i (aK ms 0).p.aC.order (ar (aK ms 0).p.aC.cn) (ar (aK ms 0).p.aC.bD) (ar (aK ms 0).p.aC.bG) (ar (aK ms 0).p.aC.bj) (ar (aK ms 0).p.aC.first) (ag (aK ms 0).p.aC.bC) (ag (aK ms 0).p.aC.cF) (ag (aK ms 0).p.bZ) (ag (aK ms 0).p.core) (ag (eS ms 0)) (jX (aK ms 0).aO (eS ms 0)) (cU ms 0) (aK ms 0).p.aC.order (dY (fL ms)) (ar (aK ms 0).p.view) (bK ((gU ms).take i))) ms.length ?_ ?_ (by omega)
 ·intro i g hi;have e1:((i:Int)<(ms.length:Int)):=by omega
  have l1:=mg F hi;have s1:=wH F i (by omega);have s2:cw ms (i+1)=cw ms i+cU ms i:=rfl;have il:∀l:qr Int,(bK l).length=l.length:=λl=>cD ..;simp only[aU,e1,aY,aE];rw[cc,aP (by omega) (by omega),show(i:Int)+1=((i+1:Nat):Int) by omega,bP,bn ma (show i+1<(dL ms).length by omega),hsg];simp only[cM,ec,eK,aX,bu];rw[bP,bn ma (show i<(dL ms).length by omega),hsg];simp only[cM,ec,eK,aX,bu];rw[ji,aP (by omega) (by omega),show(cw ms (i+1):Int) -(cw ms i:Int)=(cU ms i:Int) by omega];rw[show(aH (bK ((gU ms).take i)).length&&(aH 1&&(List.take 1 (List.drop 0 [Value.int IntKind.i64 (cU ms i:Int)])).length.beq 1))=true by rw[il];simp[aH];omega,aE];rw[iI (show i<(gU ms).length by rw[tP];exact hi),AT];unfold bK;rw[fS];rfl
 ·intro g;have e1:¬((ms.length:Int)<(ms.length:Int)):=by omega
  simp only[aU,e1,bL,aD];rw[eQ (by rw[tP];omega),show ae ((bK (gU ms)).length/1) (bK (gU ms))=aB cM (gU ms) by unfold aB;rw[AH,kB];congr 1;exact cD ..,hat,cc,aP (by omega) (by omega),show(((aK ms 0).aO.length+10:Nat):Int)+4=(iq ms:Int) by unfold iq;omega,h67,aA];rw[show dY (fL ms)=aB ff (fL ms) from rfl,cd,ll];refine gO (ev:=λi (g:H1->Bool->H1->H1->Int->Int->Int->H1->H1->H1->H1->H1->H1->H1->H1->H1->H1->Int->Int->Hx (H1×Int))=>
   g (ag s) true (ag (eS ms 0)) (aB ff (fL ms)) ms.length i (aK ms 0).p.aC.order (ar (aK ms 0).p.aC.cn) (ar (aK ms 0).p.aC.bD) (ar (aK ms 0).p.aC.bG) (ar (aK ms 0).p.aC.bj) (ar (aK ms 0).p.aC.first) (ag (aK ms 0).p.aC.bC) (ag (aK ms 0).p.aC.cF) (ag (aK ms 0).p.bZ) (ag (aK ms 0).p.core) (ag (eS ms 0)) (((aK ms 0).aO.length+10:Nat):Int) (cU ms 0)) ms.length ?_ ?_ (by omega)
  ·intro i g hi;have e1:((i:Int)<(ms.length:Int)):=by omega
   have hp:i<(fL ms).length:=by rw[ll];exact hi
   have h68:=ajb W (by omega) b1 hvs hsp hp;rw[<-b3] at h68;simp only[aU,e1,aY,aE,bP];rw[bn mU hp];simp only[ff,ec,eK,aX,bu];rw[h68,aA];rw[show(!(ag (eS ms 0),true).snd)=false from rfl,aD,cc,aP (by omega) (by omega)];rfl
  ·intro g;have e1:¬((ms.length:Int)<(ms.length:Int)):=by omega
   simp only[aU,e1,bL,aD,bH];exact QT (λv=>(v,0)) hfile (by rw[b3];omega) (by omega) (by rw[hA])
noncomputable section
theorem adm(w:Nat):K 26 [.v,vI,vI] (.aG [.v,.b]) (Gn w):=fr Tryz.f26 pn w (lc 0 [(0,.v),(1,vI),(2,vI),(8,.gr 0 1),(9,vI),(13,.v),(14,vI),(15,vI)] [(0,.grow 1 3)] 1 ln)
theorem Ut(w:Nat):KH 207 ⟨3,⟨[(0,.ptr 0 0),(1,vI),(2,vI)],[(0,.cells [.gr 1 14,.v,vI,.gr 2 13,.v,.v,.v] 132),(1,.grow 14 30),(2,.grow 13 56)],3⟩,1,⟨[(0,vI)],[(0,.cells [.gr 1 14,.v,vI,.gr 2 13,.v,.v,.v] 132),(1,.grow 14 30),(2,.grow 13 56)],3⟩⟩ (Cb w):=fh Tryz.f207 (pa pn (LM w)) w
theorem adU(w:Nat):KH 138 ⟨1,⟨[(0,.ptr 0 0)],[(0,.cells [.gr 1 14,.v,vI,.gr 2 13,.v,.v,.v] 132),(1,.grow 14 30),(2,.grow 13 56)],3⟩,1,⟨[(0,vI)],[(0,.cells [.gr 1 14,.v,vI,.gr 2 13,.v,.v,.v] 132),(1,.grow 14 30),(2,.grow 13 56)],3⟩⟩ (GG w):=fh Tryz.f138 (ph pn (Ut w)) w
theorem adV(w:Nat):nt Tryz.prog 139 ⟨1,⟨[(0,.ptr 0 0)],[(0,.cells [.gr 1 14,.v,.i .i64,.gr 2 13,.v,.v,.v] 132),(1,.grow 14 30),(2,.grow 13 56)],3⟩,1,⟨[(0,.i .i64)],[(0,.cells [.gr 1 14,.v,.i .i64,.gr 2 13,.v,.v,.v] 132),(1,.grow 14 30),(2,.grow 13 56)],3⟩⟩ (show Fn (HT.ti ⟨1,⟨[(0,.ptr 0 0)],[(0,.cells [.gr 1 14,.v,.i .i64,.gr 2 13,.v,.v,.v] 132),(1,.grow 14 30),(2,.grow 13 56)],3⟩,1,⟨[(0,.i .i64)],[(0,.cells [.gr 1 14,.v,.i .i64,.gr 2 13,.v,.v,.v] 132),(1,.grow 14 30),(2,.grow 13 56)],3⟩⟩).ks (Hx (bO (HT.to ⟨1,⟨[(0,.ptr 0 0)],[(0,.cells [.gr 1 14,.v,.i .i64,.gr 2 13,.v,.v,.v] 132),(1,.grow 14 30),(2,.grow 13 56)],3⟩,1,⟨[(0,.i .i64)],[(0,.cells [.gr 1 14,.v,.i .i64,.gr 2 13,.v,.v,.v] 132),(1,.grow 14 30),(2,.grow 13 56)],3⟩⟩).ks)) from(sL w)):=by
 have k:KH 139 ⟨1,⟨[(0,.ptr 0 0)],[(0,.cells [.gr 1 14,.v,vI,.gr 2 13,.v,.v,.v] 132),(1,.grow 14 30),(2,.grow 13 56)],3⟩,1,⟨[(0,vI)],[(0,.cells [.gr 1 14,.v,vI,.gr 2 13,.v,.v,.v] 132),(1,.grow 14 30),(2,.grow 13 56)],3⟩⟩ (yM jA w):=fh Tryz.f139 (pa (pa pn (A8 w)) (adm w)) w ln (λn=>cond (Nat.beq n 200002) true (Nat.beq n 300003));have e:yM jA w=sL w:=by unfold sL yM;simp only[vk]
 rw[<-e];exact k
theorem ad3(w:Nat):nt Tryz.prog 208 ⟨3,⟨[(0,.ptr 0 0),(1,.i .i64),(2,.v)],[(0,.cells [.gr 1 14,.v,.i .i64,.gr 2 13,.v,.v,.v] 132),(1,.grow 14 30),(2,.grow 13 56)],3⟩,1,⟨[(0,.aG [])],[(0,.cells [.gr 1 14,.v,.i .i64,.gr 2 13,.v,.v,.v] 132),(1,.grow 14 30),(2,.grow 13 56)],3⟩⟩ (show Fn (HT.ti ⟨3,⟨[(0,.ptr 0 0),(1,.i .i64),(2,.v)],[(0,.cells [.gr 1 14,.v,.i .i64,.gr 2 13,.v,.v,.v] 132),(1,.grow 14 30),(2,.grow 13 56)],3⟩,1,⟨[(0,.aG [])],[(0,.cells [.gr 1 14,.v,.i .i64,.gr 2 13,.v,.v,.v] 132),(1,.grow 14 30),(2,.grow 13 56)],3⟩⟩).ks (Hx (bO (HT.to ⟨3,⟨[(0,.ptr 0 0),(1,.i .i64),(2,.v)],[(0,.cells [.gr 1 14,.v,.i .i64,.gr 2 13,.v,.v,.v] 132),(1,.grow 14 30),(2,.grow 13 56)],3⟩,1,⟨[(0,.aG [])],[(0,.cells [.gr 1 14,.v,.i .i64,.gr 2 13,.v,.v,.v] 132),(1,.grow 14 30),(2,.grow 13 56)],3⟩⟩).ks)) from(rj w)):=by
 have k:KH 208 ⟨3,⟨[(0,.ptr 0 0),(1,vI),(2,.v)],[(0,.cells [.gr 1 14,.v,vI,.gr 2 13,.v,.v,.v] 132),(1,.grow 14 30),(2,.grow 13 56)],3⟩,1,⟨[(0,.aG [])],[(0,.cells [.gr 1 14,.v,vI,.gr 2 13,.v,.v,.v] 132),(1,.grow 14 30),(2,.grow 13 56)],3⟩⟩ (Cc jA w):=fh Tryz.f208 pn w;have e:Cc jA w=rj w:=by unfold rj Cc;simp only[vk]
 rw[<-e];exact k
theorem ad4(w:Nat):K 209 [.v] (.aG [vI,.v,vI]) (GN w):=fr Tryz.f209 (pa (pa (pa pn (Uz w)) (LU w)) (xW w)) w
theorem adX(w:Nat):KH 140 ⟨1,⟨[(0,.ptr 0 0)],[(0,.cells [.gr 1 14,.v,vI,.gr 2 13,.v,.v,.v] 132),(1,.grow 14 30),(2,.grow 13 56)],3⟩,1,⟨[(0,vI)],[(0,.cells [.gr 1 14,.v,vI,.gr 2 13,.v,.v,.v] 132),(1,.grow 14 30),(2,.grow 13 56)],3⟩⟩ (GH w):=fh Tryz.f140 (pa (ph (ph pn (ad3 w)) (Ut w)) (ad4 w)) w (lc 0 [(0,.ptr 0 0),(3,vI)] [(0,.cells [.gr 4 14,.v,vI,.gr 5 13,.v,.v,.v] 132),(4,.grow 14 30),(5,.grow 13 56)] 6 ln)
theorem adY(w:Nat):KH 141 ⟨1,⟨[(0,.ptr 0 0)],[(0,.cells [.gr 1 14,.v,vI,.gr 2 13,.v,.v,.v] 132),(1,.grow 14 30),(2,.grow 13 56)],3⟩,3,⟨[(0,vI)],[(0,.cells [.gr 1 14,.v,vI,.gr 2 13,.v,.v,.v] 132),(1,.grow 14 30),(2,.grow 13 56)],3⟩⟩ (GI w):=fh Tryz.f141 (pa (pa pn (LY w)) (Lw w)) w
theorem Ul(w:Nat):KH 74 ⟨1,⟨[(0,.v)],[],0⟩,0,⟨[(0,.aG [.ptr 0 0,vI])],[(0,.cells [.gr 1 14,.v,vI,.gr 2 13,.v,.v,.v] 132),(1,.grow 14 30),(2,.grow 13 56)],3⟩⟩ (BZ w):=fh Tryz.f74 (ph (ph (ph (ph pn (adU w)) (adV w)) (adX w)) (adY w)) w ln (λn=>Nat.blt n 100000)
theorem EO(w:Nat):K 29 [.v] (.aG [.agg [.v],vI,vI]) (uc w):=fr Tryz.f29 (ph pn (Ul w)) w
theorem adz(w:Nat):K 75 [.agg [vI,vI,vI,.v],.agg [vI,vI,vI,.v]] (.b) (XF w):=fr Tryz.f75 (pa pn (U3 w)) w
theorem af9(w:Nat):K 81 [.v,.v,.fn 75 []] (.b) (Pg w):=fr Tryz.f81 (pa pn (adz w)) w (lc 0 [(1,.v),(2,.fn 75 []),(15,.v),(16,vI),(17,vI)] [] 0 ln)
theorem adB(w:Nat):KH 78 ⟨3,⟨[(0,.agg [vI,.v,.v,.v,.v,.v,.v,.v,.v,.v,vI,vI,vI,.v]),(1,.agg [vI,.v,.v,.v,.v,.v,.v,.v,.v,.v,vI,vI,vI,.v]),(2,.ptr 0 0)],[(0,.cells [.fn 75 []] 138)],1⟩,1,⟨[(0,.b)],[(0,.cells [.fn 75 []] 138)],1⟩⟩ (Gw w):=fh Tryz.f78 (pa (pa (pa pn (E5 w)) (af7 w)) (af9 w)) w
theorem adA(w:Nat):KH 77 ⟨3,⟨[(0,.v),(1,.v),(2,.fn 78 [.ptr 0 0])],[(0,.cells [.fn 75 []] 138)],1⟩,1,⟨[(0,.b)],[(0,.cells [.fn 75 []] 138)],1⟩⟩ (N0 w):=fh Tryz.f77 (ph pn (adB w)) w (lc 0 [(1,.v),(2,.fn 78 [.ptr 0 0]),(15,.v),(16,vI),(17,vI)] [(0,.cells [.fn 75 []] 138)] 1 ln)
theorem adn(w:Nat):K 30 [.agg [.v],.agg [.v]] (.b) (Gp w):=fr Tryz.f30 (ph pn (adA w)) w
end
noncomputable section
def ahv(w:Nat):RK 406 [vI,vI] (.b):=rr Tryz.f406 pn w
def ahB(w:Nat):RK 460 [vI] (.aG [.v,vI]):=rr Tryz.f460 pn w
def ahC(w:Nat):RK 461 [vI] (.aG [.v,vI]):=rr Tryz.f461 pn w
def ahD(w:Nat):RK 462 [vI,vI] (.aG [.v,vI]):=rr Tryz.f462 pn w
def ahw(w:Nat):RK 407 [vI,vI] (.aG [.v,vI]):=rr Tryz.f407 (pa (pa (pa pn (ahB w).2) (ahC w).2) (ahD w).2) w
def ahk(w:Nat):RK 345 [vI,.agg [vI,vI,vI,.v]] (.b):=rr Tryz.f345 (pa (pa (pa pn (vL w)) (ahv w).2) (ahw w).2) w (lc 0 [(3,.ptr 0 0),(5,.v),(6,vI),(7,vI)] [(0,.cells [vI,vI,vI,.v] 136)] 1 ln)
def ahl(w:Nat):RK 346 [.v] (.b):=rr Tryz.f346 pn w (lc 0 [(0,.v),(3,vI)] [] 0 ln)
def Bu(w:Nat):RK 273 [vI,.v] (.b):=rr Tryz.f273 (pa (pa pn (ahk w).2) (ahl w).2) w (lc 0 [(0,vI),(1,.v),(5,vI)] [] 0 ln)
def ajB(w:Nat):Int->H1->Hx (Bool):=(Bu w).1
def ahH(w:Nat):RK 472 [.agg [vI,.v,.v,.v,.v,.v,.v,.v]] (vI):=rr Tryz.f472 (pa pn (Bu w).2) w
def ME(w:Nat):RK 31 [.v] (.v):=rr Tryz.f31 pn w
def aiZ(w:Nat):H1->Hx (H1):=(ME w).1
def alE(w:Nat)(rec:H1->H1->H1->Hx (H1)):H1->H1->H1->Hx (H1):=λa b c=>lp (α:=Nat->Nat->Int->H1->H1->H1->qr H1->Hx H1) (λ_ _ _ _ _ _ _=>none) (λk l m n o p q r=>aw p λs=>bif ak n (Int.ofNat s) then aF n λt=>aJ 4 t p λu=>af (List.drop 1 u) λv y=>af y λz a0=>af a0 λa1 a2=>ob (rec v z a1) λa3=>dQ 3 a3 λa4 a5=>bif a5.length.beq (a4*3)&&((0+l*3).ble r.length&&Nat.beq 261 261) then bif(l+a4).ble m then bif(0+l*3+a5.length).ble r.length then k (l+a4) m (ah .i64 (n.add 1)) o p q (aW (0+l*3) a5 r) else none else bif aH a4&&(aH l&&(Builtin.nextslicecap (l+a4) m).ble 5000000000) then none else none else none else some (ae l (List.drop 0 r))) w 1 1 0 a b c [a,b,c]
def XQ(w:Nat):H1->H1->H1->Hx (H1):=mc (iZ (VT.fw [.agg [.v,.v,.v]])) (alE w) w
theorem LD(w:Nat):K 468 [.agg [.v,.v,.v]] (.v) (XQ w):=AA (λrec h=>fr Tryz.f468 (pa pn h) w (lc 0 [(1,.ptr 0 0),(3,.sl 1 0),(4,vI)] [(0,.cells [.v,.v,.v] 261),(1,.arr 261)] 2 ln)) w
def ahF(w:Nat):RK 465 [.agg [vI,.v]] (.v):=rr Tryz.f465 (pa pn (LD w)) w (lc 0 [(1,.ptr 0 0),(3,.gr 1 3),(4,vI)] [(0,.cells [vI,.v] 217),(1,.grow 3 261)] 2 ln)
def Bv(w:Nat):RK 415 [.agg [.v,.v,.v]] (vI):=rr Tryz.f415 pn w
def XP(w:Nat):H1->H1->H1->Hx (Int):=(Bv w).1
def Fv(w:Nat):RK 469 [.v] (vI):=rr Tryz.f469 pn w
def V9(w:Nat):RK 487 [vI] (vI):=rr Tryz.f487 pn w
def Wd(w:Nat):RK 496 [vI,vI] (vI):=rr Tryz.f496 (pa pn (E7 w)) w
def Wb(w:Nat):RK 488 [vI,vI] (vI):=rr Tryz.f488 (pa pn (Wd w).2) w
def ajQ(w:Nat):Int->Int->Hx (Int):=(Wb w).1
def ahy(w:Nat):RK 417 [] (.v):=rr Tryz.f417 pn w
def ML(w:Nat):RK 485 [vI] (.b):=rr Tryz.f485 pn w
def ajO(w:Nat):Int->Hx (Bool):=(ML w).1
def ahK(w:Nat):RK 484 [.v,vI] (.b):=rr Tryz.f484 (pa pn (ML w).2) w (lc 0 [(0,.v),(1,vI),(5,.ptr 0 0),(6,vI)] [(0,.cells [.v,vI,vI,vI] 293)] 1 ln)
def ahE(w:Nat):RK 463 [.v] (.b):=rr Tryz.f463 (pa pn (ahK w).2) w (lc 0 [(0,.v),(3,vI)] [] 0 ln)
def Fw(w:Nat):RK 470 [.agg [.v,vI,vI,vI],vI] (vI):=rr Tryz.f470 pn w (lc 0 [(1,vI),(2,.ptr 0 0),(5,vI)] [(0,.cells [.v,vI,vI,vI] 293)] 1 ln)
def XR(w:Nat):H1->Int->Int->Int->Int->Hx (Int):=(Fw w).1
def V8(w:Nat):RK 486 [.agg [.v,vI,vI,vI],vI] (.b):=rr Tryz.f486 (pa pn (Fw w).2) w
def ajP(w:Nat):H1->Int->Int->Int->Int->Hx (Bool):=(V8 w).1
def Xi(a:Int)(b:H1)(c:Int)(d:H1)(rec:H1->H1->H1->H1->Int->Hx (Bool))(e:H1)(f:H1->Int->H1->H1->H1->H1->Int->Int->Int->Hx Bool)(g:H1)(h:H1)(i:Int)(j:Int)(k:Int):Hx (Bool):=aF a λl=>aJ 4 l b λm=>af (List.drop 1 m) λn o=>af o λp q=>af q λr s=>aF c λt=>aJ 2 t d λu=>af (List.drop 1 u) λv y=>au .i64 v λz=>ob (rec n p r e z) λa0=>bif !a0 then some false else f e (ah .i64 (a.add 1)) g b h d i j k
def Xh(w:Nat)(rec:H1->H1->H1->H1->Int->Hx (Bool))(a:H1)(b:H1)(c:H1)(d:H1)(e:H1)(f:Int)(g:Int)(h:Int):Hx (Bool):=lp (α:=H1->Int->H1->H1->H1->H1->Int->Int->Int->Hx Bool) (λ_ _ _ _ _ _ _ _ _=>none) (λr s t u v y z a0 a1 a2=>aw u λa3=>bif ak t (Int.ofNat a3) then aF t λa4=>aJ 4 a4 u λa5=>af a5 λa6 a7=>au .i64 a6 λa8=>af a7 λa9 b0=>au .i64 a9 λb1=>af b0 λb2 b3=>au .i64 b2 λb4=>af b3 λb5 b6=>ob (ajO w a8) λb7=>bif !b7 then some false else ob (ajP w z a0 a1 a2 a8) λb8=>bif b8 then some false else ob (G0 w b1 b4 b5) λb9=>bif !b9 then some false else bif ak 0 t then aF (ah .i64 (t.sub 1)) λc0=>aJ 4 c0 u λc1=>af (List.drop 0 c1) λc2 c3=>au .i64 c2 λc4=>bif !ak c4 a8 then some false else r s (ah .i64 (t.add 1)) u v y z a0 a1 a2 else r s (ah .i64 (t.add 1)) u v y z a0 a1 a2 else lp (α:=H1->Int->H1->H1->H1->H1->Int->Int->Int->Hx Bool) (λ_ _ _ _ _ _ _ _ _=>none) (λd4 d5 d6 d7 d8 d9 e0 e1 e2 e3=>aw d8 λe4=>bif ak d6 (Int.ofNat e4) then aF d6 λe5=>aJ 4 e5 d8 λe6=>af (List.drop 0 e6) λe7 e8=>au .i64 e7 λe9=>ob (XR w e0 e1 e2 e3 e9) λf0=>bif ak f0 0 then some false else bif ak 0 d6 then aF d6 λf1=>aJ 4 f1 d8 λf2=>af (List.drop 0 f2) λf3 f4=>au .i64 f3 λf5=>aF (ah .i64 (d6.sub 1)) λf6=>aJ 4 f6 d8 λf7=>af (List.drop 0 f7) λf8 f9=>au .i64 f8 λg0=>bif !ak g0 f5 then some false else Xi d6 d8 f0 e0 rec d5 d4 d7 d9 e1 e2 e3 else Xi d6 d8 f0 e0 rec d5 d4 d7 d9 e1 e2 e3 else some true) w s 0 u v y z a0 a1 a2) w a 0 b c d e f g h
def alC(w:Nat)(rec:H1->H1->H1->H1->Int->Hx (Bool)):H1->H1->H1->H1->Int->Hx (Bool):=λa b c d e=>aF e λf=>aJ 4 f d λg=>af g λh i=>af i λj k=>au .i64 j λl=>af k λm n=>au .i64 m λo=>af n λp q=>au .i64 p λr=>ob (XP w a b c) λs=>bif ak s 1 then some false else bif ak 65535 s then some false else aw c λt=>bif ak 0 (Int.ofNat t) then bif aj l 0 then some false else Xh w rec d a b c h l o r else Xh w rec d a b c h l o r
def ajL(w:Nat):H1->H1->H1->H1->Int->Hx (Bool):=mc (iZ (VT.fw [.agg [.v,.v,.v],.v,.i .i64])) (alC w) w
theorem aek(w:Nat):K 464 [.agg [.v,.v,.v],.v,vI] (.b) (ajL w):=AA (λrec h=>fr Tryz.f464 (pa (pa (pa (pa (pa (pa pn (Bv w).2) (ML w).2) (vL w)) (V8 w).2) (Fw w).2) h) w (lc 0 [(1,.v),(3,.ptr 0 0),(7,.ptr 1 0),(9,vI)] [(0,.cells [.v,.v,.v] 261),(1,.cells [.v,vI,vI,vI] 293)] 2 (lc 2 [(1,.v),(3,.ptr 0 0),(7,.ptr 1 0),(11,vI)] [(0,.cells [.v,.v,.v] 261),(1,.cells [.v,vI,vI,vI] 293)] 2 ln))) w
def MK(w:Nat):RK 411 [.v,vI,.v] (.v):=rr Tryz.f411 pn w
def V2(w:Nat):RK 412 [.v,vI,vI,vI,vI] (.v):=rr Tryz.f412 (pa (pa pn (ES w)) (MK w).2) w
def We(w:Nat):RK 497 [vI,vI] (.b):=rr Tryz.f497 (pa pn (Wd w).2) w
def ajU(w:Nat):Int->Int->Hx (Bool):=(We w).1
def Xk(a:Int)(b:Int):=(ah .i64 ((ah .i64 ((ah .i64 ((ah .i64 (a.sub (a.tmod b))).add b)).sub 1)).sub (a.tmod b)))
def Xg(a:Int):=(aH ([Value.int .u8 a].length/1)&&[Value.int .u8 a].length.beq ([Value.int .u8 a].length/1*1))
def NP(a:Nat)(b:H1)(c:qr H1)(d:H1->Int->Int->Int->qr H1->Hx H1)(e:Int)(f:Int)(g:Int):Hx (H1):=aJ 1 a b λh=>af h λi j=>au .u8 i λk=>bif aH c.length&&(Xg k) then d b e f (ah .i64 (g.add 1)) (c++[Value.int .u8 k]) else none
def Xl(w:Nat)(a:Int)(b:H1)(c:Int):Hx (H1):=bif ak a 1 then some (ae 0 []) else bif ak 2 a then some (ae 0 []) else lp (α:=H1->Int->Int->Int->qr H1->Hx H1) (λ_ _ _ _ _=>none) (λi j k l m n=>aw j λo=>bif ak m (Int.ofNat o) then bif aj l 1 then aw j λp=>aw j λq=>bif aj k 0 then none else bif ak m (ah .i64 ((Int.ofNat p).sub ((Int.ofNat q).tmod k))) then bif aj k 0 then none else bif aj k 0 then none else aF (Xk m k) λr=>NP r j n i k l m else aF m λs=>NP s j n i k l m else aF m λt=>NP t j n i k l m else some (ae (n.length/1) n)) w b c a 0 []
def ajV(w:Nat):H1->Int->Int->Hx (H1):=λa b c=>ob (wo w b) λd=>bif aj d 0 then bif !aj b 8 then some (ae 0 []) else Xl w c a b else Xl w c a b
theorem aeq(w:Nat):K 499 [.v,vI,vI] (.v) (ajV w):=fr Tryz.f499 (pa pn (A7 w)) w (lc 0 [(0,.v),(1,vI),(2,vI),(7,.gr 0 1),(8,vI)] [(0,.grow 1 5)] 1 ln)
def ahL(w:Nat):RK 490 [.agg [vI,vI,.v],vI] (.v):=rr Tryz.f490 (pa (pa (pa pn (vL w)) (Ly w)) (aeq w)) w
def Xj(a:Nat)(b:H1)(c:H1->Int->Int->Int->Int->Int->Int->Hx (Int×Bool))(d:Int)(e:Int)(f:Int)(g:Int)(h:Int)(i:Int):Hx (Int×Bool):=aJ 1 a b λj=>af j λk l=>au .u8 k λm=>c b d e f (ah .i64 (g.add (ah .i64 (h.mul (ah .i64 m))))) (ah .i64 (Int.mul 256 h)) (ah .i64 (i.add 1))
def XS(w:Nat):H1->Int->Int->Int->Hx (Int×Bool):=λa b c d=>ob (wo w c) λe=>bif aj e 0 then some (0,false) else bif ak d 1 then some (0,false) else bif ak 2 d then some (0,false) else bif ak b 0 then some (0,false) else aw a λf=>bif ak (Int.ofNat f) b then some (0,false) else aw a λg=>bif ak (ah .i64 ((Int.ofNat g).sub b)) c then some (0,false) else lp (α:=H1->Int->Int->Int->Int->Int->Int->Hx (Int×Bool)) (λ_ _ _ _ _ _ _=>none) (λo p q r s t u v=>bif ak v r then bif aj s 2 then aF (ah .i64 ((ah .i64 ((ah .i64 (q.add r)).sub 1)).sub v)) λy=>Xj y p o q r s t u v else aF (ah .i64 (q.add v)) λz=>Xj z p o q r s t u v else some (t,true)) w a b c d 0 1 0
theorem aep(w:Nat):K 498 [.v,vI,vI,vI] (.aG [vI,.b]) (XS w):=fr Tryz.f498 (pa pn (A7 w)) w (lc 0 [(0,.v),(1,vI),(2,vI),(3,vI),(10,vI),(11,vI),(12,vI)] [] 0 ln)
def V3(w:Nat):RK 414 [.v,vI,vI,vI] (vI):=rr Tryz.f414 pn w (lc 0 [(0,.v),(1,vI),(2,vI),(3,vI),(9,vI)] [] 0 ln)
def ahM(w:Nat):RK 491 [.agg [vI,vI,vI,vI],vI] (.aG [.v,.b]):=rr Tryz.f491 (pa pn (ES w)) w
def V0(w:Nat):RK 350 [vI] (vI):=rr Tryz.f350 pn w
def V5(w:Nat):RK 419 [vI] (.b):=rr Tryz.f419 pn w
def ahr(w:Nat):RK 354 [vI] (.b):=rr Tryz.f354 (pa pn (V5 w).2) w
def ahs(w:Nat):RK 355 [.v] (vI):=rr Tryz.f355 (pa pn (V5 w).2) w (lc 0 [(0,.v),(3,vI)] [] 0 ln)
def ahz(w:Nat):RK 418 [vI] (.b):=rr Tryz.f418 pn w
def ahq(w:Nat):RK 353 [.v,.b] (.v):=rr Tryz.f353 (pa pn (ahz w).2) w (lc 0 [(0,.v),(1,.b),(5,.gr 0 3),(6,vI)] [(0,.grow 3 185)] 1 ln)
def ahA(w:Nat):RK 459 [.agg [vI,.v,.v,.v,.v,.v,.v,.v,.v,.v,vI,vI,vI,.v]] (.b):=rr Tryz.f459 pn w
def VU(w:Nat):RK 272 [.agg [vI,vI,vI,vI,vI],vI] (.aG [.v,.b]):=rr Tryz.f272 (pa pn (ES w)) w (lc 0 [(1,vI),(6,.gr 2 1),(7,.sl 1 0),(8,vI)] [(1,.arr 3),(2,.grow 1 5)] 3 ln)
def ajA(w:Nat):Int->Int->Int->Int->Int->Int->Hx (H1×Bool):=(VU w).1
def VV(w:Nat):RK 274 [vI,.v] (.agg [vI,vI,vI,.v]):=rr Tryz.f274 pn w
def XK(w:Nat):Int->H1->Hx (Int×Int×Int×H1):=(VV w).1
def ahG(w:Nat):RH 466 ⟨5,⟨[(0,.gr 0 5),(1,vI),(2,vI),(3,vI),(4,vI)],[(0,.grow 5 307)],1⟩,0,⟨[(0,.gr 0 5)],[(0,.grow 5 307)],1⟩⟩:=rh Tryz.f466 (pa (pa pn (Fv w).2) (V9 w).2) w
def V6(w:Nat):RH 466 ⟨5,⟨[(0,.gr 0 5),(1,vI),(2,vI),(3,vI),(4,vI)],[(0,.grow 5 307)],1⟩,1,⟨[(0,.gr 1 5)],[(1,.grow 5 307)],2⟩⟩:=rh Tryz.f466 (pa (pa pn (Fv w).2) (V9 w).2) w
def Oi(w:Nat):Int->Int->Int->Int->qr H1->Hx (qr H1):=(V6 w).1
def alD(w:Nat)(rec:H1->H1->H1->Int->qr H1->Hx (qr H1)):H1->H1->H1->Int->qr H1->Hx (qr H1):=λa b c d e=>ob (XP w a b c) λf=>ob (Oi w 2 d 0 (ah .i64 (Int.add 6 (ah .i64 (Int.mul 12 f)))) e) λg=>lp (α:=Int->Int->qr H1->H1->H1->H1->Hx (qr H1)) (λ_ _ _ _ _ _=>none) (λn o p q r s t=>aw r λu=>bif ak p (Int.ofNat u) then aF p λv=>aJ 4 v r λy=>af (List.drop 0 (List.drop 1 y)) λz a0=>au .i64 z λa1=>aF p λa2=>aJ 4 a2 r λa3=>af (List.drop 1 (List.drop 1 a3)) λa4 a5=>au .i64 a4 λa6=>ob (ajQ w a1 a6) λa7=>bif ak 0 a7 then aF p λa8=>aJ 4 a8 r λa9=>af (List.drop 0 a9) λb0 b1=>au .i64 b0 λb2=>ob (Oi w 3 o b2 a7 q) λb3=>n o (ah .i64 (p.add 1)) b3 r s t else n o (ah .i64 (p.add 1)) q r s t else lp (α:=Int->Int->Int->qr H1->H1->H1->H1->Hx (qr H1)) (λ_ _ _ _ _ _ _=>none) (λc1 c2 c3 c4 c5 c6 c7 c8=>aw c7 λc9=>bif ak c4 (Int.ofNat c9) then aF c4 λd0=>aJ 4 d0 c7 λd1=>af (List.drop 1 d1) λd2 d3=>af d3 λd4 d5=>af d5 λd6 d7=>ob (rec d2 d4 d6 c3 c5) λd8=>aF c4 λd9=>aJ 4 d9 c7 λe0=>af (List.drop 1 e0) λe1 e2=>af e2 λe3 e4=>af e4 λe5 e6=>ob (XQ w e1 e3 e5) λe7=>aw e7 λe8=>c1 c2 (ah .i64 (c3.add (Int.ofNat e8))) (ah .i64 (c4.add 1)) d8 c6 c7 c8 else aw c8 λe9=>bif ak 0 (Int.ofNat e9) then aw c8 λf0=>ob (Oi w 4 c2 0 (Int.ofNat f0) c5) λf1=>some f1 else some c5) w o (ah .i64 (o.add 1)) 0 q r s t) w d 0 g a b c
def ajM(w:Nat):H1->H1->H1->Int->qr H1->Hx (qr H1):=mc (iZ (HT.ti ⟨3,⟨[(0,.gr 0 5),(1,.agg [.v,.v,.v]),(2,.i .i64)],[(0,.grow 5 307)],1⟩,1,⟨[(0,.gr 1 5)],[(1,.grow 5 307)],2⟩⟩).ks) (alD w) w
theorem ael(w:Nat):KH 467 ⟨3,⟨[(0,.gr 0 5),(1,.agg [.v,.v,.v]),(2,vI)],[(0,.grow 5 307)],1⟩,1,⟨[(0,.gr 1 5)],[(1,.grow 5 307)],2⟩⟩ (ajM w):=Ks (λrec h=>fh Tryz.f467 (ph (ph (pa (pa (pa pn (Bv w).2) (Wb w).2) (LD w)) (V6 w).2) h) w (lc 0 [(0,.gr 3 5),(2,vI),(4,.ptr 1 0),(7,vI)] [(3,.grow 5 307),(1,.cells [.v,.v,.v] 261)] 4 (lc 2 [(0,.gr 3 5),(2,vI),(4,.ptr 1 0),(9,vI),(10,vI)] [(3,.grow 5 307),(1,.cells [.v,.v,.v] 261)] 4 ln))) w
def V1(w:Nat):RK 409 [.agg [vI,.v]] (.aG [.v,.b]):=rr Tryz.f409 (ph (ph (pa (pa (pa (pa (pa pn (ahF w).2) (Bv w).2) (vL w)) (LD w)) (Fv w).2) (ahG w).2) (ael w)) w (lc 0 [(1,.ptr 0 0),(4,.v),(5,vI)] [(0,.cells [vI,.v] 217)] 1 (lc 2 [(1,.ptr 0 0),(4,.v),(5,vI),(6,vI)] [(0,.cells [vI,.v] 217)] 1 (lc 4 [(1,.ptr 0 0),(7,.gr 1 5),(8,vI),(9,vI)] [(0,.cells [vI,.v] 217),(1,.grow 5 307)] 2 ln)))
def MJ(w:Nat):RK 410 [.agg [vI,.v]] (vI):=rr Tryz.f410 (pa (pa pn (Fv w).2) (V1 w).2) w
def ahx(w:Nat):RK 408 [.agg [vI,.v],.v] (vI):=rr Tryz.f408 (pa (pa (pa pn (ahE w).2) (aek w)) (MJ w).2) w (lc 0 [(1,.v),(2,.ptr 0 0),(5,vI),(6,vI),(7,vI)] [(0,.cells [vI,.v] 217)] 1 ln)
def NQ(a:Nat)(b:H1)(c:qr H1)(d:H1->Int->Int->Int->qr H1->Hx (qr H1))(e:Int)(f:Int)(g:Int):Hx (qr H1):=aJ 1 a b λh=>af h λi j=>au .u8 i λk=>bif aH c.length&&(Xg k) then d b e f (ah .i64 (g.add 1)) (c++[Value.int .u8 k]) else none
def Xm(w:Nat)(a:Int)(b:H1)(c:Int):Hx (qr H1):=bif ak a 1 then some [] else bif ak 2 a then some [] else lp (α:=H1->Int->Int->Int->qr H1->Hx (qr H1)) (λ_ _ _ _ _=>none) (λi j k l m n=>aw j λo=>bif ak m (Int.ofNat o) then bif aj l 1 then aw j λp=>aw j λq=>bif aj k 0 then none else bif ak m (ah .i64 ((Int.ofNat p).sub ((Int.ofNat q).tmod k))) then bif aj k 0 then none else bif aj k 0 then none else aF (Xk m k) λr=>NQ r j n i k l m else aF m λs=>NQ s j n i k l m else aF m λt=>NQ t j n i k l m else some n) w b c a 0 []
def ajW(w:Nat):H1->Int->Int->Hx (qr H1):=λa b c=>ob (wo w b) λd=>bif aj d 0 then bif !aj b 8 then some [] else Xm w c a b else Xm w c a b
theorem aer(w:Nat):KH 499 ⟨3,⟨[(0,.v),(1,vI),(2,vI)],[],0⟩,0,⟨[(0,.gr 0 1)],[(0,.grow 1 5)],1⟩⟩ (ajW w):=fh Tryz.f499 (pa pn (A7 w)) w (lc 0 [(0,.v),(1,vI),(2,vI),(7,.gr 0 1),(8,vI)] [(0,.grow 1 5)] 1 ln)
def Wc(w:Nat):RH 490 ⟨2,⟨[(0,.agg [vI,vI,.v]),(1,vI)],[],0⟩,0,⟨[(0,.gr 0 1)],[(0,.grow 1 5)],1⟩⟩:=rh Tryz.f490 (ph (pa (pa pn (vL w)) (Ly w)) (aer w)) w
def ajS(w:Nat):Int->Int->H1->Int->Hx (qr H1):=(Wc w).1
def ajR(w:Nat):Int->Int->Int->H1->Int->Hx (Int×Int×Int×Int×Bool):=λa b c d e=>bif ak a 0 then some (0,0,0,0,false) else bif ak 65535 a then some (0,0,0,0,false) else bif ak e 1 then some (0,0,0,0,false) else bif ak 2 e then some (0,0,0,0,false) else ob (G0 w b c d) λf=>bif !f then some (0,0,0,0,false) else ob (ajU w b c) λg=>bif !g then some (0,0,0,0,false) else ob (ajS w b c d e) λh=>lp (α:=Int->Int->Int->Int->H1->Int->Int->Int->Int->qr H1->Hx (Int×Int×Int×Int×Bool)) (λ_ _ _ _ _ _ _ _ _ _=>none) (λs t u v y z a0 a1 a2 a3 a4=>bif ak (Int.ofNat (a4.length/1)) 4 then bif aH a4.length&&(aH 1&&Nat.beq 1 1) then s t u v y z a0 a1 a2 a3 (a4++[Value.int .u8 0]) else none else ob (XS w (ae (a4.length/1) a4) 0 4 u) λa5=>some (t,v,y,a5.1,true)) w a e b c d 0 0 0 0 h
theorem aem(w:Nat):K 489 [vI,.agg [vI,vI,.v],vI] (.aG [.agg [vI,vI,vI,vI],.b]) (ajR w):=fr Tryz.f489 (ph (pa (pa (pa pn (vL w)) (We w).2) (aep w)) (Wc w).2) w (lc 0 [(0,vI),(2,vI),(4,.ptr 0 0),(6,.ptr 1 0),(8,.gr 2 1)] [(0,.cells [vI,vI,.v] 134),(1,.cells [vI,vI,vI,vI] 385),(2,.grow 1 5)] 3 ln)
def V7(w:Nat):RK 471 [.v,.v,.agg [.v,.v,.v],vI,.agg [.v,vI,vI,vI],.v,vI] (.v):=rr Tryz.f471 (pa (pa (pa (pa (pa (pa pn (V3 w).2) (ahL w).2) (MK w).2) (V2 w).2) (ahM w).2) (aem w)) w (lc 0 [(0,.v),(1,.v),(3,vI),(5,.v),(6,vI),(9,.ptr 0 0),(11,.ptr 1 0),(15,.gr 2 4),(16,vI)] [(0,.cells [.v,.v,.v] 261),(1,.cells [.v,vI,vI,vI] 293),(2,.grow 4 385)] 3 (lc 2 [(0,.v),(1,.v),(3,vI),(5,.v),(6,vI),(9,.ptr 0 0),(11,.ptr 1 0),(15,.gr 2 4),(20,vI)] [(0,.cells [.v,.v,.v] 261),(1,.cells [.v,vI,vI,vI] 293),(2,.grow 4 385)] 3 (lc 4 [(0,.v),(6,vI),(15,.gr 4 4),(22,vI),(23,vI)] [(4,.grow 4 385)] 5 (lc 6 [(0,.v),(6,vI),(15,.gr 4 4),(22,vI),(23,vI),(24,vI),(25,vI)] [(4,.grow 4 385)] 5 ln))))
def ajN(w:Nat):H1->H1->H1->H1->H1->Int->H1->Int->Int->Int->H1->Int->Hx (H1):=(V7 w).1
def alB(w:Nat)(rec:H1->H1->H1->H1->H1->Int->H1->Int->Int->Hx (H1×Int)):H1->H1->H1->H1->H1->Int->H1->Int->Int->Hx (H1×Int):=λa b c d e f g h i=>lp (α:=H1->H1->Int->H1->Int->Int->Int->Int->H1->H1->H1->qr H1->Hx (H1×Int)) (λ_ _ _ _ _ _ _ _ _ _ _ _=>none) (λv y z a0 a1 a2 a3 a4 a5 a6 a7 a8 a9=>aw a7 λb0=>bif ak a5 (Int.ofNat b0) then bif aH a9.length&&(aH ([Value.int .i64 a4].length/1)&&[Value.int .i64 a4].length.beq ([Value.int .i64 a4].length/1*1)) then aF a5 λb1=>aJ 4 b1 a7 λb2=>af (List.drop 1 b2) λb3 b4=>af b4 λb5 b6=>af b6 λb7 b8=>aF a2 λb9=>aJ 4 b9 a1 λc0=>af (List.drop 0 c0) λc1 c2=>aF a2 λc3=>aJ 4 c3 a1 λc4=>af c4 λc5 c6=>af c6 λc7 c8=>au .i64 c7 λc9=>af c8 λd0 d1=>au .i64 d0 λd2=>af d1 λd3 d4=>au .i64 d3 λd5=>aF a5 λd6=>aJ 4 d6 a7 λd7=>af (List.drop 0 d7) λd8 d9=>au .i64 d8 λe0=>ob (XR w c5 c9 d2 d5 e0) λe1=>aF e1 λe2=>aJ 2 e2 c1 λe3=>af (List.drop 1 e3) λe4 e5=>au .i64 e4 λe6=>ob (rec y z b3 b5 b7 a4 a1 e6 a3) λe7=>v e7.1 z a0 a1 a2 a3 e7.2 (ah .i64 (a5.add 1)) a6 a7 a8 (a9++[Value.int .i64 a4]) else none else aF a2 λe8=>aJ 4 e8 a1 λe9=>af e9 λf0 f1=>af f1 λf2 f3=>au .i64 f2 λf4=>af f3 λf5 f6=>au .i64 f5 λf7=>af f6 λf8 f9=>au .i64 f8 λg0=>ob (ajN w y z a6 a7 a8 a0 f0 f4 f7 g0 (ae (a9.length/1) a9) a3) λg1=>some (g1,a4)) w a b f g h i (ah .i64 (f.add 1)) 0 c d e []
def ajK(w:Nat):H1->H1->H1->H1->H1->Int->H1->Int->Int->Hx (H1×Int):=mc (iZ (VT.fw [.v,.v,.agg [.v,.v,.v],.i .i64,.v,.i .i64,.i .i64])) (alB w) w
theorem aej(w:Nat):K 413 [.v,.v,.agg [.v,.v,.v],vI,.v,vI,vI] (.aG [.v,vI]) (ajK w):=AA (λrec h=>fr Tryz.f413 (pa (pa (pa pn (Fw w).2) (V7 w).2) h) w (lc 0 [(0,.v),(1,.v),(3,vI),(4,.v),(5,vI),(6,vI),(9,.ptr 0 0),(16,vI),(17,.gr 1 1),(18,vI)] [(0,.cells [.v,.v,.v] 261),(1,.grow 1 3)] 2 ln)) w
def VZ(w:Nat):RK 347 [.agg [vI,.v],.v] (.aG [.v,vI]):=rr Tryz.f347 (pa (pa (pa (pa (pa (pa (pa (pa pn (ahx w).2) (V1 w).2) (MJ w).2) (MK w).2) (V2 w).2) (V3 w).2) (Bv w).2) (aej w)) w (lc 0 [(1,.v),(2,.ptr 0 0),(7,.v),(9,.v),(11,vI),(12,vI),(13,vI)] [(0,.cells [vI,.v] 217)] 4 ln)
def MI(w:Nat):RK 275 [.agg [vI,.v],.v] (.aG [.v,vI]):=rr Tryz.f275 (pa pn (VZ w).2) w
def ajC(w:Nat):Int->H1->H1->Hx (H1×Int):=(MI w).1
def aho(w:Nat):RK 351 [] (.v):=rr Tryz.f351 pn w
def ahh(w:Nat):RK 277 [.v] (.aG [.v,vI]):=rr Tryz.f277 (pa (pa pn (V0 w).2) (aho w).2) w (lc 0 [(0,.v),(4,vI),(5,.gr 0 1),(6,vI)] [(0,.grow 1 26)] 1 ln)
def ahi(w:Nat):RK 279 [.v] (.b):=rr Tryz.f279 pn w
def VX(w:Nat):RK 280 [.v] (.aG [.v,vI,vI,vI]):=rr Tryz.f280 (pa (pa pn (ahr w).2) (ahs w).2) w (lc 0 [(0,.v),(6,.gr 0 3),(7,vI)] [(0,.grow 3 185)] 1 ln) (λn=>cond (Nat.ble 400000 n) (Nat.blt n 500000) false)
def ahp(w:Nat):RK 352 [.v] (.aG [.v,vI]):=rr Tryz.f352 (pa pn (VX w).2) w (lc 0 [(0,.v),(4,.v),(5,vI),(8,vI),(9,vI)] [] 0 ln)
def VW(w:Nat):RK 278 [.v] (.b):=rr Tryz.f278 (pa (pa pn (ahq w).2) (ahp w).2) w
def ahu(w:Nat):RK 405 [vI,.v] (.aG [.v,vI]):=rr Tryz.f405 (pa (pa pn (Bu w).2) (MI w).2) w
def GV(E:H1->H1->Hx (H1)->Hx (H1))(w:Nat):H1->Hx (H1):=λa=>lp (α:=H1->Int->qr H1->Hx H1) (λ_ _ _=>none) (λe f g h=>aw f λi=>bif ak g (Int.ofNat i) then aF g λj=>aJ 3 j f λk=>af k λl m=>au .i64 l λn=>af m λo p=>af p λq r=>bif aH h.length&&(aH 2&&(List.take 2 (List.drop 0 [Value.int .u8 255,Value.int .u8 (ah .u8 n)])).length.beq 2) then bif aj g 0 then e f (ah .i64 (g.add 1)) (h++List.take 2 (List.drop 0 [Value.int .u8 255,Value.int .u8 (ah .u8 n)])) else aw f λs=>bif aj g (ah .i64 ((Int.ofNat s).sub 1)) then e f (ah .i64 (g.add 1)) (h++List.take 2 (List.drop 0 [Value.int .u8 255,Value.int .u8 (ah .u8 n)])) else aw o λt=>bif aH (h++List.take 2 (List.drop 0 [Value.int .u8 255,Value.int .u8 (ah .u8 n)])).length&&(aH 2&&(List.take 2 (List.drop 0 [Value.int .u8 (ah .u8 (ah .i64 ((ah .i64 ((Int.ofNat t).add 2)).tdiv 256))),Value.int .u8 (ah .u8 ((ah .i64 ((Int.ofNat t).add 2)).tmod 256))])).length.beq 2) then dQ 1 o λu v=>bif aH (h++List.take 2 (List.drop 0 [Value.int .u8 255,Value.int .u8 (ah .u8 n)])++List.take 2 (List.drop 0 [Value.int .u8 (ah .u8 (ah .i64 ((ah .i64 ((Int.ofNat t).add 2)).tdiv 256))),Value.int .u8 (ah .u8 ((ah .i64 ((Int.ofNat t).add 2)).tmod 256))])).length&&(aH u&&v.length.beq (u*1)) then E q q (dQ 1 q λy z=>bif aH (h++List.take 2 (List.drop 0 [Value.int .u8 255,Value.int .u8 (ah .u8 n)])++List.take 2 (List.drop 0 [Value.int .u8 (ah .u8 (ah .i64 ((ah .i64 ((Int.ofNat t).add 2)).tdiv 256))),Value.int .u8 (ah .u8 ((ah .i64 ((Int.ofNat t).add 2)).tmod 256))])++v).length&&(aH y&&z.length.beq (y*1)) then e f (ah .i64 (g.add 1)) (h++List.take 2 (List.drop 0 [Value.int .u8 255,Value.int .u8 (ah .u8 n)])++List.take 2 (List.drop 0 [Value.int .u8 (ah .u8 (ah .i64 ((ah .i64 ((Int.ofNat t).add 2)).tdiv 256))),Value.int .u8 (ah .u8 ((ah .i64 ((Int.ofNat t).add 2)).tmod 256))])++v++z) else none) else none else none else none else some (ae (h.length/1) h)) w a 0 []
def Oe(w:Nat):H1->Hx (H1):=GV (λ_ _ r=>r) w
theorem aec(w:Nat):cS Tryz.prog 281 [.v] (.v) (Oe w):=by
 have k:K 281 [.v] (.v) (GV jA w):=fr Tryz.f281 pn w (lc 0 [(0,.v),(3,.gr 0 1),(4,vI)] [(0,.grow 1 5)] 1 ln) (λn=>Nat.beq n 200010);have e:GV jA w=Oe w:=by unfold Oe GV;simp only[vk]
 rw[<-e];exact k
def GM(E:H1->H1->Hx (H1×Int)->Hx (H1×Int))(w:Nat):Int->H1->H1->Hx (H1×Int):=λa b c=>bif ak a 1 then some (ae 0 [],1) else bif ak 2 a then some (ae 0 [],1) else aw b λd=>bif ak (Int.ofNat d) 2 then some (ae 0 [],1) else lp (α:=Int->Int->H1->H1->qr H1->Hx (H1×Int)) (λ_ _ _ _ _=>none) (λj k l m n o=>aw m λp=>bif ak k (Int.ofNat p) then aF k λq=>aJ 5 q m λr=>af r λs t=>au .i64 s λu=>af t λv y=>au .i64 v λz=>af y λa0 a1=>au .i64 a0 λa2=>af a1 λa3 a4=>au .i64 a3 λa5=>af a4 λa6 a7=>au .i64 a6 λa8=>ob (ajA w u z a2 a5 a8 l) λa9=>bif !a9.2 then some (ae 0 [],1) else dQ 1 a9.1 λb0 b1=>bif aH o.length&&(aH b0&&b1.length.beq (b0*1)) then j (ah .i64 (k.add 1)) l m n (o++b1) else none else ob (ajB w 5 n) λb2=>bif !b2 then some (ae 0 [],6) else aw m λb3=>bif ak 4096 (Int.ofNat b3) then some (ae 0 [],7) else aw m λb4=>ob (O1 w 4 (ae ([Value.int .i64 (Int.ofNat b4)].length/1) [Value.int .i64 (Int.ofNat b4)])) λb5=>ob (XK w 45056 (ae 4 (List.drop 0 [Value.int .u8 48,Value.int .u8 49,Value.int .u8 48,Value.int .u8 48]))) λb6=>bif aj b5.1 b5.1 then bif aj b5.2.1 b5.2.1 then E b5.2.2.1 b5.2.2.1 (bif aj l l then ob (XK w 45058 (ae (o.length/1) o)) λb7=>bif aj b5.1 b5.1 then bif aj b5.2.1 b5.2.1 then E b5.2.2.1 b5.2.2.1 (bif aj l l then aw n λb8=>bif ak 0 (Int.ofNat b8) then none else ob (ajC w l (ae 1 [ae 3 (List.drop 0 [Value.int .i64 b6.1,Value.int .i64 b6.2.1,Value.int .i64 b6.2.2.1,b6.2.2.2,Value.int .i64 45057,Value.int .i64 b5.1,Value.int .i64 b5.2.1,b5.2.2.1,Value.int .i64 b7.1,Value.int .i64 b7.2.1,Value.int .i64 b7.2.2.1,b7.2.2.2]),ae 0 [],ae 0 []]) (ae 2 (List.drop 0 [ae 0 [],Value.int .i64 0,Value.int .i64 0,Value.int .i64 1,ae 0 [],Value.int .i64 0,Value.int .i64 0,Value.int .i64 (-1)]))) λb9=>some (b9.1,b9.2) else none) else none else none else none) else none else none) w 0 a b c []
def N7(w:Nat):Int->H1->H1->Hx (H1×Int):=GM (λ_ _ r=>r) w
theorem Us(w:Nat):cS Tryz.prog 203 [.agg [.i .i64,.v,.v]] (.aG [.v,.i .i64]) (N7 w):=by
 have k:K 203 [.agg [vI,.v,.v]] (.aG [.v,vI]) (GM jA w):=fr Tryz.f203 (pa (pa (pa (pa (pa pn (VU w).2) (Bu w).2) (UU w)) (VV w).2) (MI w).2) w (lc 0 [(1,.ptr 0 0),(4,.gr 1 1),(5,vI)] [(0,.cells [vI,.v,.v] 103),(1,.grow 1 5)] 2 ln) (λn=>cond (Nat.beq n 200016) true (Nat.beq n 600016));have e:GM jA w=N7 w:=by unfold N7 GM;simp only[vk]
 rw[<-e];exact k
def VY(w:Nat):RK 344 [.agg [.v],vI] (.aG [.v,vI]):=rr Tryz.f344 (pa (pa pn (ahu w).2) (Us w)) w (lc 0 [(2,.ptr 0 0),(7,.ptr 2 0),(8,vI)] [(0,.cells [.v] 24),(2,.cells [vI,.gr 3 5,.v] 103),(3,.grow 5 97)] 4 ln)
def ahg(w:Nat):RK 210 [.agg [vI,vI,.v]] (.agg [vI,vI,.v]):=rr Tryz.f210 (pa pn (ME w).2) w
def MF(w:Nat):RK 148 [.v] (.v):=rr Tryz.f148 (pa pn (ahg w).2) w (lc 0 [(0,.v),(3,.gr 0 4),(4,vI)] [(0,.grow 4 136)] 1 ln)
def ajt(w:Nat):H1->Hx (H1):=(MF w).1
def ahI(w:Nat):RK 473 [.v,.agg [vI,vI,vI,.v]] (.v):=rr Tryz.f473 (pa pn (MF w).2) w (lc 0 [(0,.v),(3,.ptr 0 0),(5,.gr 1 4),(6,vI)] [(0,.cells [vI,vI,vI,.v] 136),(1,.grow 4 136)] 2 (lc 2 [(0,.v),(3,.ptr 0 0),(5,.gr 3 4),(7,vI)] [(0,.cells [vI,vI,vI,.v] 136),(3,.grow 4 136)] 4 ln))
def alF(w:Nat)(rec:H1->H1->H1->Hx (H1×H1×H1)):H1->H1->H1->Hx (H1×H1×H1):=λa b c=>ob (ajt w a) λd=>ob (aiZ w c) λe=>lp (α:=Int->H1->H1->H1->H1->H1->qr H1->qr H1->qr H1->qr H1->Hx (H1×H1×H1)) (λ_ _ _ _ _ _ _ _ _ _=>none) (λp q r s t u v y z a0 a1=>aw s λa2=>bif ak q (Int.ofNat a2) then aF q λa3=>aJ 4 a3 s λa4=>af (List.drop 0 a4) λa5 a6=>au .i64 a5 λa7=>aF q λa8=>aJ 4 a8 s λa9=>af (List.drop 1 a9) λb0 b1=>af b1 λb2 b3=>af b3 λb4 b5=>ob (rec b0 b2 b4) λb6=>bif aH a1.length&&(aH 1&&(List.take 4 (List.drop 0 [Value.int .i64 a7,b6.1,b6.2.1,b6.2.2])).length.beq 4) then p (ah .i64 (q.add 1)) r s t u v y z a0 (a1++List.take 4 (List.drop 0 [Value.int .i64 a7,b6.1,b6.2.1,b6.2.2])) else none else some (u,ae (a1.length/4) a1,v)) w 0 a b c d e [] [] [] []
def ajT(w:Nat):H1->H1->H1->Hx (H1×H1×H1):=mc (iZ (VT.fw [.agg [.v,.v,.v]])) (alF w) w
theorem aeo(w:Nat):K 492 [.agg [.v,.v,.v]] (.agg [.v,.v,.v]) (ajT w):=AA (λrec h=>fr Tryz.f492 (pa (pa (pa pn (MF w).2) (ME w).2) h) w (lc 0 [(1,.ptr 0 0),(2,.ptr 1 0),(3,.ptr 2 0),(4,vI)] [(0,.cells [.v,.v,.v] 261),(1,.cells [.gr 3 4,.gr 4 4,.gr 5 1] 261),(2,.cells [.v,.gr 6 4,.v] 261),(3,.grow 4 136),(4,.grow 4 346),(5,.grow 1 5),(6,.grow 4 346)] 7 ln)) w
def ahJ(w:Nat):RK 474 [.agg [vI,.v]] (.agg [vI,.v]):=rr Tryz.f474 (pa pn (aeo w)) w (lc 0 [(1,.ptr 0 0),(2,.ptr 1 0),(3,.ptr 2 0),(4,vI)] [(0,.cells [vI,.v] 217),(1,.cells [vI,.gr 3 3] 217),(2,.cells [vI,.gr 4 3] 217),(3,.grow 3 261),(4,.grow 3 261)] 5 ln)
def V4(w:Nat):RK 416 [.agg [vI,.v,.v,.v,.v,.v,.v,.v]] (.aG [.agg [vI,.v],vI]):=rr Tryz.f416 (pa (pa (pa pn (ahH w).2) (ahI w).2) (ahJ w).2) w
def ahm(w:Nat):RK 348 [.agg [vI,.v,.v,.v,.v,.v,.v,.v]] (.aG [vI,vI]):=rr Tryz.f348 (pa (pa pn (MJ w).2) (V4 w).2) w
def ahn(w:Nat):RK 349 [.agg [vI,.v,.v,.v,.v,.v,.v,.v]] (.aG [.v,vI]):=rr Tryz.f349 (pa (pa (pa pn (V4 w).2) (ahy w).2) (VZ w).2) w
def Fu(w:Nat):RK 276 [.agg [vI,.v,.v,.v,.v,.v,.v,.v]] (.aG [.v,vI]):=rr Tryz.f276 (pa (pa pn (ahm w).2) (ahn w).2) w
def aht(w:Nat):RK 404 [.agg [vI,.v,.v,.v,.v,.v,.v,.v,.v,.v,vI,vI,vI,.v],vI] (.b):=rr Tryz.f404 (pa (pa (pa (pa (pa pn (V0 w).2) (VW w).2) (ahA w).2) (Bu w).2) (Fu w).2) w
def VR(w:Nat):RK 204 [.agg [vI,.v,.v,.v,.v,.v,.v,.v,.v,.v,.v,vI,vI]] (.aG [.v,vI]):=rr Tryz.f204 (pa (pa (pa (pa (pa (pa pn (Fu w).2) (ahh w).2) (VW w).2) (ahi w).2) (VX w).2) (aec w)) w (lc 0 [(6,.v),(7,.v),(11,.gr 4 3),(12,vI)] [(4,.grow 3 185)] 5 ln) (λn=>Nat.beq n 500014)
def MH(w:Nat):RK 271 [.agg [.v],vI] (.agg [vI,.v,.v,.v,.v,.v,.v,.v,.v,.v,.v,vI,vI]):=rr Tryz.f271 (pa (pa (pa pn (VY w).2) (Fu w).2) (VR w).2) w
def ahj(w:Nat):RK 343 [.agg [.v]] (.aG [vI,vI]):=rr Tryz.f343 (pa (pa (pa pn (VY w).2) (aht w).2) (MH w).2) w (lc 0 [(1,.ptr 0 0),(4,vI),(5,vI)] [(0,.cells [.v] 24)] 1 (lc 2 [(1,.ptr 0 0),(4,vI),(5,vI),(6,vI)] [(0,.cells [.v] 24)] 1 (lc 4 [(1,.ptr 0 0),(4,vI),(8,vI),(9,vI)] [(0,.cells [.v] 24)] 2 ln)))
def MG(w:Nat):RK 270 [.agg [.v]] (vI):=rr Tryz.f270 (pa (pa pn (ahj w).2) (Fu w).2) w
def ahe(w:Nat):RK 202 [.agg [.v]] (.v):=rr Tryz.f202 (pa (pa pn (MG w).2) (MH w).2) w (lc 0 [(1,.ptr 0 0),(3,.gr 1 13),(4,vI)] [(0,.cells [.v] 24),(1,.grow 13 56)] 2 ln)
def ahd(w:Nat):RK 201 [.agg [.v]] (.aG [.v,vI]):=rr Tryz.f201 (pa (pa pn (MG w).2) (ahe w).2) w (lc 0 [(1,.ptr 0 0),(5,.v),(6,.gr 1 5),(7,vI),(8,vI)] [(0,.cells [.v] 24),(1,.grow 5 97)] 2 ln)
def ahf(w:Nat):RH 202 ⟨1,⟨[(0,.agg [.v])],[],0⟩,0,⟨[(0,.gr 0 13)],[(0,.grow 13 56)],1⟩⟩:=rh Tryz.f202 (pa (pa pn (MG w).2) (MH w).2) w (lc 0 [(1,.ptr 0 0),(3,.gr 1 13),(4,vI)] [(0,.cells [.v] 24),(1,.grow 13 56)] 2 ln)
def ahc(w:Nat):RK 136 [.agg [.v]] (.aG [.v,vI]):=rr Tryz.f136 (pa (ph (pa (pa pn (Us w)) (ahd w).2) (ahf w).2) (VR w).2) w (lc 0 [(1,.ptr 0 0),(4,.v),(6,.gr 1 13),(7,.gr 2 1),(8,vI)] [(0,.cells [.v] 24),(1,.grow 13 56),(2,.grow 1 26)] 3 ln)
def VQ(w:Nat):RK 70 [.agg [.v]] (.aG [.v,vI]):=rr Tryz.f70 (pa pn (ahc w).2) w (lc 0 [(4,.v),(5,vI),(6,.gr 1 1),(7,vI)] [(1,.grow 1 5)] 2 ln)
def yI(w:Nat):H1->Hx (H1×Int):=(VQ w).1
end
noncomputable section
theorem adT(w:Nat):K 135 [.v] (.aG [vI,.b]) (GF w):=fr Tryz.f135 (pa (pa (pa pn (A8 w)) (LV w)) (LU w)) w (lc 0 [(25,.v),(26,vI),(27,vI)] [] 2 ln)
theorem adx(w:Nat):K 68 [.v,vI,.agg [vI,vI,vI,vI,vI]] (.aG [.v,.b]) (Gu w):=fr Tryz.f68 (pa (pa (pa pn (A8 w)) (Ux w)) (adT w)) w
theorem Um(w:Nat):K 97 [.v,vI] (.aG [vI,.b]) (sJ w):=fr Tryz.f97 (pa pn (E6 w)) w
theorem adk(w:Nat):cS Tryz.prog 23 [.v] (.aG [.v,.i .i64]) (Gl w):=aaZ w (Um w)
theorem adl(w:Nat):K 25 [.v] (.aG [.v,vI]) (Gm w):=fr Tryz.f25 (pa (pa (pa (pa (pa pn (adk w)) (LM w)) (A8 w)) (Uk w)) (adx w)) w (lc 0 [(0,.v),(4,.v),(6,.ptr 0 0),(7,.ptr 1 0),(8,.gr 2 1),(43,vI),(44,vI)] [(0,.cells [vI,.v,.v,.v,.v,.v,.v,.v,.v,.v,.v,vI,vI] 56),(1,.cells [vI,.v,.v] 103),(2,.grow 1 3)] 3 (lc 2 [(0,.v),(6,.ptr 0 0),(11,.b),(12,.v),(73,.v),(74,vI),(75,vI)] [(0,.cells [vI,.v,.v,.v,.v,.v,.v,.v,.v,.v,.v,vI,vI] 56)] 3 ln))
end
end Lt
end Go.Proofs.YtcfjfbeadhnknaaGreatDoor

import Derived.Deep.Slices
import Derived.Deep.Fields
import Derived.OpenShut
import Derived.ProofKit
import Derived.ChangeSame
import Derived.Test.YtcfjfbeadhnknaaGreatDoorCards
import Derived.Test.YtcfjfbeadhnknaaGreatDoorTie
import Derived.Deep.DeepHandedRow
import Derived.Deep.DeepWitnessRowRef
import Derived.Lib.LaidTab
import Derived.LaidMore
import Derived.MakeChecks
import Derived.Lib.SmallJoins
import Derived.Test.YtcfjfbeadhnknaaGreatDoorOG
namespace Go.Proofs.YtcfjfbeadhnknaaGreatDoor
set_option linter.unusedVariables false
set_option linter.unusedSimpArgs false
set_option linter.unusedSectionVars false
set_option linter.constructorNameAsVariable false
set_option maxRecDepth 100000
namespace Lt
noncomputable def Tg(w:Nat)(x0:Int)(x1 x3 x5 x7:Qu):Zh (Int×Qu×Qu×Bool):=
 ob (kO w 45058 7 x3 x5 x7) λ(x78:Qu×Qu×Qu×Qu)=>ob (kO w 45057 4 x78.snd.fst x78.snd.snd.fst x78.snd.snd.snd) λ(x79:Qu×Qu×Qu×Qu)=>ob (jN w x79.fst 0 4 2) λ(x80:Int×Bool)=>bif !x80.snd then some (0,ae 0 [],ae 0 [],false) else bif ak x80.fst 2 then some (0,ae 0 [],ae 0 [],false) else ar x78.fst λ(x81:Nat)=>bif !aj (Int.ofNat x81) (ag IntKind.i64 (Int.mul 16 x80.fst)) then some (0,ae 0 [],ae 0 [],false) else ob (kO w 45057 4 x79.snd.fst x79.snd.snd.fst x79.snd.snd.snd) λ(x82:Qu×Qu×Qu×Qu)=>ar x82.fst λ(x83:Nat)=>bif !aj (Int.ofNat x83) 4 then some (0,ae 0 [],ae 0 [],false) else ob (kO w 45056 7 x82.snd.fst x82.snd.snd.fst x82.snd.snd.snd) λ(x84:Qu×Qu×Qu×Qu)=>dN 1 x84.fst λ(x85:Nat)(x86:H1 Qu)=>ob (pU x86) λ(x87:H1 Int)=>bif !mO (mkStr x87).data.toList (ByteArray.mk #[48,49,48,48]).data.toList then some (0,ae 0 [],ae 0 [],false) else lp K0 (AO w) w x78.fst 0 x0 x1 0 (ae 0 []) x0 (ae 0 []) [] []
theorem Lx{w:Nat}(hw:5<=w)(b:H1 UInt8)(hb:b.length<2^50){o:Int}(ho:o=1\/o=2)(p s:Nat)(hs:s=2\/s=4)(hp:p+s<=b.length):jN w (ah b) (p:Int) (s:Int) o=some ((cq b p s o:Int),true):=by have:=xI (l:=b) (p:=p) (s:=s) (order:=o) (by omega) ho (by omega);unfold cq;rw[Ch hw b (by omega) _ _ _ (by omega),this];simp
theorem ajN{w:Nat}(hw:5<=w)(b:H1 UInt8)(hb:b.length<2^50){o:Int}(ho:o=1\/o=2)(p:Nat)(hp:p+16<=b.length):Ci w (ah b) (p:Int) o=some ((nW b p o).attr,(nW b p o).size,(nW b p o).at_,(nW b p o).ee,(nW b p o).ef):=by have n4:∀q:Nat,q+4<=b.length->jN w (ah b) (q:Int) 4 o=some ((cq b q 4 o:Int),true):=λq hq=>Lx hw b hb ho q 4 (.inr rfl) hq;have n2:∀q:Nat,q+2<=b.length->jN w (ah b) (q:Int) 2 o=some ((cq b q 2 o:Int),true):=λq hq=>Lx hw b hb ho q 2 (.inl rfl) hq;unfold Ci Cr lC;simp only[aB,cf];rw[aQ (n:=(p:Int)+4) (by omega) (by omega),aQ (n:=(p:Int)+4+4) (by omega) (by omega),aQ (n:=(p:Int)+4+4+4) (by omega) (by omega),aQ (n:=(p:Int)+4+4+4+2) (by omega) (by omega)];rw[show(p:Int)+4+4+4+2=((p+14:Nat):Int) by omega,show(p:Int)+4+4+4=((p+12:Nat):Int) by omega,show(p:Int)+4+4=((p+8:Nat):Int) by omega,show(p:Int)+4=((p+4:Nat):Int) by omega];rw[n4 p (by omega),n4 (p+4) (by omega),n4 (p+8) (by omega),n2 (p+12) (by omega),n2 (p+14) (by omega)];simp only[aB];rfl
theorem Mv(b:H1 UInt8)(o:Int):∀(n p:Nat),(placesOf b o p n).length=n
 |0,_=>rfl
 |n+1,p=>by show(placesOf b o (p+16) n).length+1=n+1;rw[Mv]
theorem VP(b:H1 UInt8)(o:Int):∀(n p i:Nat)(h:i<(placesOf b o p n).length),(placesOf b o p n)[i]=nW b (p+16*i) o
 |0,_,i,h=>absurd h (Nat.not_lt_zero _)
 |n+1,p,0,h=>rfl
 |n+1,p,i+1,h=>by
  show(placesOf b o (p+16) n)[i]'(by simpa[placesOf] using h)=_
  rw[VP b o n (p+16) i]
  congr 1
  omega
def wU:H1 aV->H1 aN->H1 aN
 |[],v=>v
 | .mk tags _ _::r,_=>wU r tags
theorem acx{w:Nat}(ds:H1 aV)(hw:ds.length<w)(hl:ds.length<1000)(o x0:Int)(a:Qu)(P:H1 cS)(c:H1 Qu)(v:H1 aN):
 lp Ti Es w (aA dr ds) ds.length 0 x0 a o (au v) c (P.flatMap fC)=some (o,dU P,au (wU ds v),true):=by
 refine nQ (σ:=H1 aN) (ev:=λi s (k:Dc)=>k (aA dr ds) ds.length i x0 a o (au s) c (P.flatMap fC)) (Inv:=λi s=>wU (ds.drop i) s=wU ds v) ds.length v ?_ ?_ ?_ hw
 ·rw[er]
 ·intro i g s hi hI;rw[cW hi] at hI;have e1:((i:Int)<(ds.length:Int)):=by omega
  obtain⟨⟨tags,subs,blob⟩,hd⟩:∃d,ds[i]=d:=⟨_,rfl⟩;rw[hd] at hI;refine⟨tags,hI,?_⟩;unfold Es yA;simp only[aU,e1,bd,aC,bH];rw[bu kX hi,hd,Ao];simp only[bc,cf];rw[aQ (by omega) (by omega)];rfl
 ·intro g s hI;rw[rN,wU] at hI;subst hI;have e1:¬((ds.length:Int)<(ds.length:Int)):=by omega
  unfold Es yA;simp only[aU,e1,bM,aD];rw[cy nX,ir _ (by decide)];rfl
theorem acy{w:Nat}{d:H1 UInt8}{n:Nat}(hd:d.length=16*n)(hn:n<10000){o:Int}(ho:o=1\/o=2)(D0:aV)(ds:H1 aV)(hl:ds.length<900)(hw:200000<w)(x0:Int)(a b:Qu)(c:H1 Qu)(v:H1 aN)(y:Int):
 ∃q:Unit,lp K0 (AO w) w (ah d) 0 o (db (D0::ds)) x0 a o (au v) c []=some (o,dU (placesOf d o 0 n),au (wU ds v),true):=by
 refine⟨(),?_⟩;refine gV (ev:=λi (k:Db)=>k (ah d) ((16*i:Nat):Int) o (db (D0::ds)) x0 a o (au v) c (((placesOf d o 0 n).take i).flatMap fC)) n ?_ ?_ (by omega)
 ·intro i g hi;have e1:(((16*i:Nat):Int)<(d.length:Int)):=by omega
  have hiP:i<(placesOf d o 0 n).length:=by rw[Mv];exact hi
  unfold AO ug;rw[cN];simp only[aU,bO,e1,bd,aC];rw[ajN (by omega) d (by omega) ho (16*i) (by omega)];simp only[aB];have hr1:aF (((placesOf d o 0 n).take i).flatMap fC).length=true:=by rw[cy nX,dk];simp;omega
  have hpc:fC (placesOf d o 0 n)[i]=[.int .i64 (nW d (16*i) o).attr,.int .i64 (nW d (16*i) o).size,.int .i64 (nW d (16*i) o).at_,.int .i64 (nW d (16*i) o).ee,.int .i64 (nW d (16*i) o).ef]:=by rw[VP,fI];rfl
  rw[hr1,cf,aQ (by omega) (by omega),show((16*i:Nat):Int)+16=((16*(i+1):Nat):Int) by omega,im hiP,fo,show[(placesOf d o 0 n)[i]].flatMap fC=fC (placesOf d o 0 n)[i] from by simp,hpc];rfl
 ·intro g;have e1:¬(((16*n:Nat):Int)<(d.length:Int)):=by omega
  unfold AO ug;rw[cN];simp only[aU,bO,e1,bM,aD];rw[show db (D0::ds)=aA dr (D0::ds) from rfl,bU];have e2:1<=(D0::ds).length:=by rw[cc];omega
  simp only[gA,aM,e2,bd,jB,aC];rw[r8 kX _ (aM _),List.drop_succ_cons,er,eQ (by rw[cc];omega),bU,eQ (by rw[Mv];omega)];exact acx ds (by omega) (by omega) o x0 a _ c v
def ia(o:Int)(l:H1 cS):H1 aN:=[⟨45056,7,4,[48,49,48,48]⟩,⟨45057,4,1,fa l.length 4⟩,⟨45058,7,((16*l.length:Nat):Int),l.flatMap (eX o)⟩]
theorem Th{w:Nat}(hw:200000<w){o:Int}(ho:o=1\/o=2){l:H1 cS}(h2:2<=l.length)(hl:16*l.length<=65536)(hp:∀p∈l,kL p=true)(D0:aV)(ds:H1 aV)(hds:ds.length<900)(y z:Qu):
 Tg w o (db (D0::ds)) (au (ia o l)) y z=some (o,dU l,au (wU ds []),true):=by
 have hlen:(l.flatMap (eX o)).length=16*l.length:=rj o l;have hd:∀t∈ia o l,t.data.length<=1000000000:=by
  intro t ht;simp only[ia,cX,nu,nA] at ht;rcases ht with rfl|rfl|rfl
  ·simp
  ·simp only[pB];omega
  ·simp only[hlen];omega
 have hr:fP (ia o l)=true:=by simp[ia,fP]
 have hL:(ia o l).length=3:=rfl;have f1:=GO (w:=w) (ia o l) 45058 hr (by rw[hL];omega) (by rw[hL];omega) hd;have f2:=GO (w:=w) (ia o l) 45057 hr (by rw[hL];omega) (by rw[hL];omega) hd;have f3:=GO (w:=w) (ia o l) 45056 hr (by rw[hL];omega) (by rw[hL];omega) hd;rw[show iK (ia o l) 45058=some ⟨45058,7,((16*l.length:Nat):Int),l.flatMap (eX o)⟩ from rfl] at f1;rw[show iK (ia o l) 45057=some ⟨45057,4,1,fa l.length 4⟩ from rfl] at f2;rw[show iK (ia o l) 45056=some ⟨45056,7,4,[48,49,48,48]⟩ from rfl] at f3;have g1:∀a b:Qu,kO w 45058 7 (au (ia o l)) a b=some (ah (l.flatMap (eX o)),au (ia o l),a,b):=by intro a b;unfold kO;rw[f1];rfl
 have g2:∀a b:Qu,kO w 45057 4 (au (ia o l)) a b=some (ah (fa l.length 4),au (ia o l),a,b):=by intro a b;unfold kO;rw[f2];rfl
 have g3:∀a b:Qu,kO w 45056 7 (au (ia o l)) a b=some (ah [48,49,48,48],au (ia o l),a,b):=by intro a b;unfold kO;rw[f3];rfl
 have hn:jN w (ah (fa l.length 4)) 0 4 2=some ((l.length:Int),true):=by have:=Lx (w:=w) (by omega) (fa l.length 4) (by rw[pB];omega) (.inr rfl) 0 4 (.inr rfl) (by rw[pB];omega);rw[nT (b:=fa l.length 4) (pre:=[]) (post:=[]) (n:=l.length) (p:=0) (s:=4) (order:=2) (by simp[aY]) rfl (.inr (.inr rfl)) (.inr rfl) (by omega)] at this;exact this
 obtain⟨-,h6⟩:=acy (w:=w) (d:=l.flatMap (eX o)) (n:=l.length) hlen (by omega) ho D0 ds hds hw 0 (ae 0 []) (ae 0 []) [] [] 0;have hpl:placesOf (l.flatMap (eX o)) o 0 l.length=l:=Mu ho l [] [] 0 (by simp) rfl hp;rw[hpl] at h6;unfold Tg;rw[g1];simp only[aB];rw[g2];simp only[aB];rw[hn];simp only[aB,bW,aD];rw[show ak (l.length:Int) 2=false by rw[aU,gQ];omega,aD,cN,pH,aQ (by omega) (by omega),show aj (Int.ofNat (l.flatMap (eX o)).length) (16*(l.length:Int))=true by rw[bY,cm,bO,hlen];omega,bW,aD,g2];simp only[aB];rw[cN,pB,show(!aj (Int.ofNat 4) 4)=false from rfl,aD,g3];simp only[aB];rw[iL,iR,C3];simp only[aB];rw[EE,show(!mO [48,49,48,48] (ByteArray.mk #[48,49,48,48]).data.toList)=false from rfl,aD];exact h6
theorem alx{w:Nat}(hw:200000<w){o:Int}(ho:o=1\/o=2){l:H1 cS}(h2:2<=l.length)(hl:16*l.length<=65536)(hp:∀p∈l,kL p=true){view:H1 aN}(hv:VS view)(hr:da 5 view=true):
 CL w o (db (dM o l view).dO)=some (o,dU l,au view,true):=by
 have hvl:=hv.1;have e0:∀(ds:H1 aV)(K:H1 Qu->Zh (Int×Qu×Qu×Bool)),aJ 3 0 (db (fA o l::ds)) K=K (dr (fA o l)++ds.flatMap dr):=λds K=>bu kX (l:=fA o l::ds) (m:=0) (by rw[cc];omega) K;have e1:dr (fA o l)=[au (ia o l),ae 0 [],ae 0 []]:=by unfold fA;rw[tG];rfl
 have e2:∀(ds:H1 aV)(K:Nat->Zh (Int×Qu×Qu×Bool)),ar (db (fA o l::ds)) K=K (fA o l::ds).length:=λds K=>bU dr _ K;have e3:∀(K:Nat->Zh (Int×Qu×Qu×Bool)),ar (au (ia o l)) K=K 3:=λK=>bU cC _ K;unfold dM;by_cases h0:view.length=0
 ·rw[ay h0];have hve:view=[]:=qM.1 h0;have ht:=Th hw ho h2 hl hp (fA o l) [] (by show 0<900;omega) (ae 0 []) (ae 0 []);unfold CL ug yA;rw[e0,e1];simp only[eD,bc];rw[e3,show(!aj (Int.ofNat 3) 3)=false from rfl,aD,e2,show ak 1 (Int.ofNat [fA o l].length)=false from rfl,aD,hve];exact ht
 ·rw[aq h0];have ht:=Th hw ho h2 hl hp (fA o l) [.mk view .nil []] (by show 1<900;omega) (ae 0 []) (ae 0 []);have x1:∀(K:H1 Qu->Zh (Int×Qu×Qu×Bool)),aJ 3 1 (db (fA o l::[.mk view .nil []])) K=K (dr (.mk view .nil [])++[]):=λK=>bu kX (l:=fA o l::[.mk view .nil []]) (m:=1) (by show 1<2;omega) K;unfold CL ug yA;rw[e0,e1];simp only[eD,bc];rw[e3,show(!aj (Int.ofNat 3) 3)=false from rfl,aD,e2,show ak 1 (Int.ofNat [fA o l,.mk view .nil []].length)=true from rfl,aC,x1,tG];simp only[eD,er,bc];rw[ru (by omega) 5 view (by omega) (λt ht=>by have:=hv.2 t ht;omega) (by omega),hr];simp only[aB,bW,aD];exact ht
theorem O1{w:Nat}(W:cZ w)(hw:800000<w){o:Int}{l:H1 cS}{view:H1 aN}{b:H1 UInt8}(h:iU o l view=.ok b)(hv:VS view)(hS:(fD (dM o l view)).length<100000000):qI w (ah b)=some (o,dU l,au view,0):=by
 have hvl:=hv.1;have ho:(o=1\/o=2)/\2<=l.length/\16*l.length<=65536/\(∀p∈l,kL p=true)/\da 5 view=true:=by
  unfold iU at h;split at h
  ·cases h
  rename_i h1;split at h
  ·cases h
  rename_i h2;split at h
  ·cases h
  rename_i h3;split at h
  ·cases h
  rename_i h4;refine⟨by omega,by omega,by omega,λp hp=>iE.1 (by simpa using h2) p hp,by simpa using h3⟩
 obtain⟨r,hb,hr,hwk,-,hbl⟩:=SK h (by omega);have hp:gG.isPrefixOf b=true:=by rw[hb,qL];exact s9 _ _
 have hl4:b.length=r.length+4:=by rw[hb,aP];have:gG.length=4:=rfl;omega
 have h117:=Oa (w:=w) (b:=r) (sh:=gB) (by omega) (by omega) JK (λs hs=>by
  have:s=0\/s=1:=by simp[gB] at hs;omega
  rcases this with rfl|rfl<;>decide) (by decide) (by decide) (Yv (by omega)) (o:=o) (ds:=(dM o l view).dO) (S:=fD (dM o l view)) hS hwk
 have h62:uA w (ah b) (ct gB)=some (o,db (dM o l view).dO,aA cd (fD (dM o l view)),0):=by
  have e1:¬((65533:Int)<(b.length:Int)):=by omega
  have e2:¬((b.length:Int)<(4:Int)):=by omega
  have e3:4<=b.length:=by omega
  have h116:yM w (ah b)=some true:=by unfold yM BP;have:ae 4 (List.drop 0 [Value.int IntKind.u8 77,Value.int IntKind.u8 80,Value.int IntKind.u8 70,Value.int IntKind.u8 0])=ah gG:=rfl;rw[this,B4,hp];rfl
  unfold uA;rw[cN];simp only[aU,bO,e1,bM,aD];rw[cN];simp only[e2,bM,aD];rw[h116];simp only[aB,bW,aD];rw[cN];simp only[gA,aM,e3,bd,jB,aC];rw[mS _ (aM _),eQ (by rw[eu];omega),show b.drop 4=r by rw[hb];rfl,h117];rfl
 unfold qI;rw[show wJ w=some (ct gB) from rfl];simp only[aB];rw[h62];simp only[aB];rw[show(!aj 0 0)=false from rfl,aD,alx (by omega) ho.1 ho.2.1 ho.2.2.1 ho.2.2.2.1 hv ho.2.2.2.2];rfl
noncomputable def Te(w:Nat)(x0:Int)(x1 x2:Qu):Zh (Qu×Int):=
 ar x1 λ(x48:Nat)=>bif ak (Int.ofNat x48) 2 then some (ae 0 [],1) else ar x1 λ(x49:Nat)=>lp q8 (nP w) w x1 (Int.ofNat x49) 0 x0 x1 x2 []
theorem SP{w:Nat}(W:cZ w){o:Int}(ho:o=1\/o=2){l:H1 cS}(h2:2<=l.length)(hl:l.length<=600){view:H1 aN}(hv:VS view)(hr:da 5 view=true):pj w 10000 gB o (dM o l view).dO:=by
 have hvl:=hv.1;have hdirs:∀d∈(dM o l view).dO,d=fA o l\/(d=.mk view .nil []/\view.length≠0):=by
  intro d hd;rcases cX.1 hd with rfl|hd
  ·exact .inl rfl
  ·split at hd
   ·cases hd
   ·rename_i h0;exact .inr ⟨nt.1 hd,h0⟩
 have hlen2:(dM o l view).dO.length<=2:=by unfold dM;split<;>simp
 refine PV W JK (Yv (by have:=W.kH;omega)) (by decide) (λs hs=>?_) ho (by simp[dM]) (by omega) (λd hd=>?_) ?_ ?_ (SN ⟨by omega,by omega⟩ hr (by omega))
 ·have:s=0\/s=1:=by simp[gB] at hs;omega
  rcases this with rfl|rfl<;>decide
 ·rcases hdirs d hd with rfl|⟨rfl,_⟩
  ·refine⟨by show 3<=_;omega,by show 0<=_;omega,by show 0<=_;omega,λt ht=>?_,trivial⟩;simp_all;rcases ht with rfl|rfl|rfl
   ·simp
   ·simp only[pB];omega
   ·simp only[(rj o l)];omega
  ·exact⟨by omega,by show 0<=_;omega,by show 0<=_;omega,λt ht=>by have:=hv.2 t ht;omega,trivial⟩
 ·unfold dM fA;split<;>simp[kV,gj,jX]
 ·unfold dM fA;split<;>simp[gZ,dL,iu]
theorem acw{w:Nat}(W:cZ w){o:Int}(ho:o=1\/o=2){l:H1 cS}(h2:2<=l.length)(hl:l.length<=600){view:H1 aN}(hv:VS view):
 lp q8 (nP w) w (dU l) l.length 0 o (dU l) (au view) []=some (match iU o l view with| .ok b=>(ah b,0)| .error e=>(ae 0 [],e)):=by
 have hb:=W.kH;have hvl:=hv.1;have hlen:∀i,((l.take i).flatMap (eX o)).length=16*(l.take i).length:=λi=>rj o _;have h1n:¬(¬(o=1\/o=2)\/l.length<2):=by
  rintro (q|q)
  ·exact q ho
  ·omega
 have hall:∀(k i v:Nat),i+k=l.length->k<v->l.all kL=true->lp q8 (nP w) v (dU l) l.length i o (dU l) (au view) (((l.take i).flatMap (eX o)).map bh)=some (match iU o l view with| .ok b=>(ah b,0)| .error e=>(ae 0 [],e)):=by
  intro k;induction k with
  |zero=>
   intro i v hi hv2 ha;have e1:¬((i:Int)<(l.length:Int)):=by omega
   have htk:l.take i=l:=eQ (by omega);have hpl:(l.flatMap (eX o)).length=16*l.length:=rj o l;rw[eU q8 (nP w) (by omega),htk];unfold nP wh wg wj;simp only[aU,e1,bM,aD];rw[ru (by omega) 5 view (by omega) (λt ht=>by have:=hv.2 t ht;omega) (by omega)];simp only[aB];unfold iU;rw[aq h1n,ha,aq (by decide:¬(true=false))];cases hr:da 5 view with
   |false=>rfl
   |true=>
    have T:=SP W ho h2 hl hv hr;have h150:=Yk T;rw[show(⟨o,(dM o l view).dO⟩:mN)=dM o l view from rfl] at h150;rw[aq (by decide:¬(true=false)),aq (by omega:¬(65536<16*l.length))];simp only[bW,aD,cH,kG,bO];have e2:¬((65536:Int)<((l.flatMap (eX o)).length:Int)):=by omega
    simp only[e2,bM,aD];rw[show dU l=aA fC l from rfl,bU];rw[show[Value.int IntKind.i64 (l.length:Int)].length=1 from rfl,akc (by omega) l.length (by omega)];simp only[aB];rw[show au view=aA cC view from rfl,bU,show wJ w=some (ct gB) from rfl];simp only[aB];have hd0:ae 3 [Value.int IntKind.i64 45056,Value.int IntKind.i64 7,Value.int IntKind.i64 4,ae 4 (List.drop 0 [Value.int IntKind.u8 48,Value.int IntKind.u8 49,Value.int IntKind.u8 48,Value.int IntKind.u8 48]),Value.int IntKind.i64 45057,Value.int IntKind.i64 4,Value.int IntKind.i64 1,ah (fa l.length 4),Value.int IntKind.i64 45058,Value.int IntKind.i64 7,Value.int IntKind.i64 ((l.flatMap (eX o)).length:Int),ae (l.flatMap (eX o)).length ((l.flatMap (eX o)).map bh)]=au (ia o l):=by unfold ia;rw[<-oG,hpl];rfl
    rw[hd0];have hdc:dr (fA o l)=[au (ia o l),ae 0 [],ae 0 []]:=by unfold fA;rw[tG];rfl
    have fin:(ob (wo w o (db (dM o l view).dO) (ct gB)) λ(x45:Qu×Int)=>some (x45.fst,x45.snd))=some (match(if 65533<4+gT (dM o l view) then .error 7 else .ok (gG++eM (dM o l view) gB):Except Int (H1 UInt8)) with| .ok b=>(ah b,0)| .error e=>(ae 0 [],e)):=by
     rw[h150];by_cases h7:65533<4+gT (dM o l view)
     ·rw[ay h7,ay h7];rfl
     ·rw[aq h7,aq h7];rfl
    by_cases h0:view.length=0
    ·have e3:¬((0:Int)<((view.length:Nat):Int)):=by omega
     simp only[e3,bM,aD];have hdd:ae 1 [au (ia o l),ae 0 [],ae 0 []]=db (dM o l view).dO:=by unfold dM;rw[ay h0];show _=ae 1 (dr (fA o l)++[]);rw[hdc];rfl
     rw[hdd];exact fin
    ·have e3:((0:Int)<((view.length:Nat):Int)):=by omega
     simp only[e3,bd,aC];have hdd:ae ((List.take 3 (List.drop 0 [au (ia o l),ae 0 [],ae 0 []])++List.take 3 (List.drop 0 [aA cC view,ae 0 [],ae 0 []])).length/3) (List.take 3 (List.drop 0 [au (ia o l),ae 0 [],ae 0 []])++List.take 3 (List.drop 0 [aA cC view,ae 0 [],ae 0 []]))=db (dM o l view).dO:=by unfold dM;rw[aq h0];show _=ae 2 (dr (fA o l)++(dr (.mk view .nil [])++[]));rw[hdc,tG,show(List.take 3 (List.drop 0 [au (ia o l),ae 0 [],ae 0 []])++List.take 3 (List.drop 0 [aA cC view,ae 0 [],ae 0 []])).length=6 from rfl];rfl
     rw[hdd];exact fin
  |succ k ih=>
   intro i v hi hv2 ha;have hiL:i<l.length:=by omega
   have e1:((i:Int)<(l.length:Int)):=by omega
   have hp:=iE.1 ha _ (cx hiL);have:=ih (i+1) (v -1) (by omega) (by omega) ha;rw[eU q8 (nP w) (by omega),<-this];generalize hg:lp q8 (nP w) (v -1)=g;have tg:∀(y:cS)(r:H1 Qu),fC y++r=.int .i64 y.attr::.int .i64 y.size::.int .i64 y.at_::.int .i64 y.ee::.int .i64 y.ef::r:=λ_ _=>rfl;unfold nP wh wg wj;simp only[aU,e1,bd,aC,bH];rw[show dU l=aA fC l from rfl,bu nX hiL,tg];simp only[bc,bK];rw[Oo (by omega) l[i] ho,ay hp];simp only[aB,bW,aD];rw[iL,iR];have r1:aF (List.map bh ((l.take i).flatMap (eX o))).length=true:=by rw[cH,hlen,dk];simp;omega
   rw[r1,FK _ (by rw[Fq];omega),jB,aC,cf,aQ (by omega) (by omega),im hiL,fo,fY,show[l[i]].flatMap (eX o)=eX o l[i] by simp];rfl
 cases ha:l.all kL with
 |true=>exact hall l.length 0 w (by omega) (by omega) ha
 |false=>
  have hbad:∀(k i v:Nat),i+k=l.length->k<v->(l.drop i).all kL=false->lp q8 (nP w) v (dU l) l.length i o (dU l) (au view) (((l.take i).flatMap (eX o)).map bh)=some (ae 0 [],1):=by
   intro k;induction k with
   |zero=>intro i v hi hv2 h;rw[show l.drop i=[] from rO (by omega)] at h;cases h
   |succ k ih=>
    intro i v hi hv2 h;have hiL:i<l.length:=by omega
    have e1:((i:Int)<(l.length:Int)):=by omega
    rw[cW hiL,List.all_cons] at h;have tg:∀(y:cS)(r:H1 Qu),fC y++r=.int .i64 y.attr::.int .i64 y.size::.int .i64 y.at_::.int .i64 y.ee::.int .i64 y.ef::r:=λ_ _=>rfl;rw[eU q8 (nP w) (by omega)];cases hp:kL l[i] with
    |false=>unfold nP wh wg wj;simp only[aU,e1,bd,aC,bH];rw[show dU l=aA fC l from rfl,bu nX hiL,tg];simp only[bc,bK];rw[Oo (by omega) l[i] ho,hp];rfl
    |true=>
     rw[hp,eY] at h;have:=ih (i+1) (v -1) (by omega) (by omega) h;rw[<-this];generalize hg:lp q8 (nP w) (v -1)=g;unfold nP wh wg wj;simp only[aU,e1,bd,aC,bH];rw[show dU l=aA fC l from rfl,bu nX hiL,tg];simp only[bc,bK];rw[Oo (by omega) l[i] ho,ay hp];simp only[aB,bW,aD];rw[iL,iR];have r1:aF (List.map bh ((l.take i).flatMap (eX o))).length=true:=by rw[cH,hlen,dk];simp;omega
     rw[r1,FK _ (by rw[Fq];omega),jB,aC,cf,aQ (by omega) (by omega),im hiL,fo,fY,show[l[i]].flatMap (eX o)=eX o l[i] by simp];rfl
  have:=hbad l.length 0 w (by omega) (by omega) (by rw[er];exact ha);unfold iU;rw[aq h1n,ha,ay rfl];exact this
theorem YT{w:Nat}(W:cZ w)(o:Int){l:H1 cS}(hl:l.length<=600){view:H1 aN}(hv:VS view):CN w o (dU l) (au view)=some (match iU o l view with| .ok b=>(ah b,0)| .error e=>(ae 0 [],e)):=by
 by_cases ho:o=1\/o=2
 case neg=>unfold CN iU wh wg wj;rw[ay (.inl ho),(show aj o 1=false from by rw[bY,gQ];exactλq=>ho (.inl q)),(show aj o 2=false from by rw[bY,gQ];exactλq=>ho (.inr q))];rfl
 have hrest:Te w o (dU l) (au view)=some (match iU o l view with| .ok b=>(ah b,0)| .error e=>(ae 0 [],e)):=by
  unfold Te;rw[(show∀K:Nat->Zh (Qu×Int),ar (dU l) K=K l.length fromλK=>bU fC l K)];by_cases h2:l.length<2
  ·have e1:ak (Int.ofNat l.length) 2=true:=by rw[aU,cm,bO];omega
   unfold iU;rw[ay (.inr h2),e1];rfl
  ·have e1:ak (Int.ofNat l.length) 2=false:=by rw[aU,gQ,bO];omega
   rw[e1];exact acw W ho (by omega) hl hv
 rcases ho with rfl|rfl<;>exact hrest
def gW(ms:H1 aO):H1 cS:=ms.map λp=>⟨p.attr,0,0,p.ee,p.ef⟩
def iA(ms:H1 aO)(i:Nat):Except Int (H1 UInt8):=
 match ms[i]? with
 |none=>.ok []
 |some p=>if i=0 then(if 1<ms.length then iU p.aG.order (gW ms) p.view else .ok []) else if p.view.length=0 then .ok [] else rL p.aG.order p.view
theorem aiX{w:Nat}(W:cZ w){ms:H1 aO}(hl:ms.length<=600)(o:Int){view:H1 aN}(hv:VS view):
 lp Xu (F4 w) w (cI ms) ms.length 0 o (au view) []=some (match iU o (gW ms) view with| .ok b=>(ah b,0)| .error e=>(ae 0 [],e)):=by
 have hb:=W.kH;refine gV (ev:=λi (k:Dt)=>k (cI ms) ms.length i o (au view) ((gW (ms.take i)).flatMap fC)) ms.length ?_ ?_ (by omega)
 ·intro i g hi;have e1:((i:Int)<(ms.length:Int)):=by omega
  have r1:aF ((gW (ms.take i)).flatMap fC).length=true:=by rw[cy nX];unfold gW;simp;omega
  unfold F4 Gf;simp only[aU,e1,bH];rw[show cI ms=aA cR ms from rfl,bu kj hi,r1,cf,aQ (by omega) (by omega)];have hp:(gW (ms.take (i+1))).flatMap fC=(gW (ms.take i)).flatMap fC++[Value.int IntKind.i64 ms[i].attr,Value.int IntKind.i64 0,Value.int IntKind.i64 0,Value.int IntKind.i64 ms[i].ee,Value.int IntKind.i64 ms[i].ef]:=by unfold gW;rw[im hi,fY,fo];rfl
  rw[hp];rfl
 ·intro g;unfold F4 Gf;simp only[aU,(show¬((ms.length:Int)<(ms.length:Int)) from by omega)];rw[mL,cy nX,ir _ (by decide)];have:=YT W o (l:=gW ms) (by unfold gW;rw[cH];exact hl) hv;rw[show ae (gW ms).length ((gW ms).flatMap fC)=dU (gW ms) from rfl,this];rfl
theorem YO{w:Nat}(W:cZ w){ms:H1 aO}(h:∀p∈ms,eJ p)(hl:ms.length<=600){i:Nat}(hi:i<ms.length):H8 w (cI ms) (i:Int)=some (match iA ms i with| .ok b=>(ah b,0)| .error e=>(ae 0 [],e)):=by
 have hm:=h _ (cx hi);have hlr:∀K:Nat->Zh (Qu×Int),ar (cI ms) K=K ms.length:=λK=>bU cR ms K;have hlv:∀K:Nat->Zh (Qu×Int),ar (au ms[i].view) K=K ms[i].view.length:=λK=>bU cC _ K;unfold H8 iA NO;rw[cw hi,bH,show cI ms=aA cR ms from rfl,bu kj hi,nR];simp only[bc,bK];rw[show aA cR ms=cI ms from rfl];by_cases h0:i=0
 ·rw[ay h0,show aj (i:Int) 0=true by rw[bY,cm];omega,hlr];by_cases h1:1<ms.length
  ·rw[ay h1,show ak 1 (Int.ofNat ms.length)=true by rw[aU,cm,bO];omega,hlr];exact aiX W hl _ hm.vs
  ·rw[aq h1,show ak 1 (Int.ofNat ms.length)=false by rw[aU,gQ,bO];omega];rfl
 ·rw[aq h0,show aj (i:Int) 0=false by rw[bY,gQ];omega,hlv];by_cases h1:ms[i].view.length=0
  ·rw[h1];rfl
  ·rw[aq h1,show aj (Int.ofNat ms[i].view.length) 0=false by rw[bY,gQ,bO];omega,alC W _ hm.vs];rfl
theorem Nz{ms:H1 aO}{i:Nat}{b:H1 UInt8}(h:iA ms i=.ok b)(hm:∀p∈ms,eJ p)(hl:ms.length<=600):b.length=0\/(gG.isPrefixOf b=true/\b.length<=65533):=by
 unfold iA at h;split at h
 ·injection h with h;subst h;exact .inl rfl
 rename_i p hp;have hmp:=hm p (ou hp);split at h
 ·split at h
  ·right;obtain⟨r,hb,-,-,-,hbl⟩:=SK h (by have:=hmp.tv.1;omega);exact⟨by rw[hb,qL];exact s9 _ _,hbl⟩
  ·injection h with h;subst h;exact .inl rfl
 ·split at h
  ·injection h with h;subst h;exact .inl rfl
  ·right;rename_i h0;unfold rL at h;split at h
   ·cases h
   split at h
   ·cases h
   rename_i hr;split at h
   ·cases h
   injection h with h;have hlen:=wQ (P2 (o:=p.aG.order) (by simpa using hr) h0 (by have:=hmp.tv.1;omega));rw[<-h];refine⟨by rw[qL];exact s9 _ _,?_⟩;rw[aP];have:gG.length=4:=rfl;omega
def fO(p:aO)(cO:H1 UInt8):oA:=⟨p.aG,p.cg,p.core,cO,0,0⟩
theorem KQ{ms:H1 aO}{i:Nat}(hi:i<ms.length){b aT:H1 UInt8}(h:iA ms i=.ok b)(hm:∀p∈ms,eJ p)(hl:ms.length<=600)(ha:iQ ms[i].aG=.ok aT)(hc:nJ ms[i].core=true):xe (fO ms[i] b) aT:=by have hmp:=hm _ (cx hi);refine⟨ha,?_,by have:=hmp.ic;show ms[i].cg.length<=_;omega,hc,Nz h hm hl⟩;have:=hmp.vn.rows;show rl ms[i].aG 65000;unfold rl at this⊢;omega
def jF(aT b:H1 UInt8):Int:=if b.length=0 then 0 else((aT.length+10:Nat):Int)
theorem YL{w:Nat}(W:cZ w)(hw:1000000<w){ms:H1 aO}{i:Nat}(hi:i<ms.length){b aT:H1 UInt8}(h:iA ms i=.ok b)(hm:∀p∈ms,eJ p)(hl:ms.length<=600)(ha:iQ ms[i].aG=.ok aT)(hc:nJ ms[i].core=true):
 wF w (cI ms) (i:Int)=some (ms[i].aG.order,au ms[i].aG.cu,au ms[i].aG.bG,au ms[i].aG.bN,au ms[i].aG.bm,au ms[i].aG.first,ah ms[i].aG.bF,ah ms[i].aG.cP,ah ms[i].cg,ah ms[i].core,ah b,jF aT b,((fj (fO ms[i] b) aT).length:Int),true):=by
 have hmp:=hm _ (cx hi);have hok:=KQ hi h hm hl ha hc;have hic:=hmp.ic;have hco:=hmp.co;have hbl:b.length<=65533:=by rcases Nz h hm hl with q|q;omega;exact q.2
 unfold wF;rw[YO W hm hl hi,h];simp only[aB];rw[bH,show cI ms=aA cR ms from rfl,bu kj hi,nR];simp;rw[(show yX w ms[i].aG.order (au ms[i].aG.cu) (au ms[i].aG.bG) (au ms[i].aG.bN) (au ms[i].aG.bm) (au ms[i].aG.first) (ah ms[i].aG.bF) (ah ms[i].aG.cP) (ah ms[i].cg) (ah ms[i].core) (ah b) 0 0=some (ah (fj (fO ms[i] b) aT),0) from(Yx W hok hmp.vn (by omega) ⟨by show ms[i].core.length<=_;omega,by show ms[i].cg.length<=_;omega,hbl⟩ (by omega) 0 0))];simp;rw[(akI W hok hmp.vn (by omega) ⟨by show ms[i].core.length<=_;omega,by show ms[i].cg.length<=_;omega,hbl⟩ (by omega))];rfl
theorem alc{w:Nat}(W:cZ w){ms:H1 aO}{i:Nat}(hi:i<ms.length){e:Int}(h:iA ms i=.error e)(he:e≠0)(hm:∀p∈ms,eJ p)(hl:ms.length<=600):
 wF w (cI ms) (i:Int)=some (0,ae 0 [],ae 0 [],ae 0 [],ae 0 [],ae 0 [],ae 0 [],ae 0 [],ae 0 [],ae 0 [],ae 0 [],0,0,false):=by
 unfold wF;rw[YO W hm hl hi];simp_all
theorem aiY{ms:H1 aO}{i:Nat}{e:Int}(h:iA ms i=.error e):e≠0:=by
 unfold iA at h;split at h
 ·cases h
 split at h
 ·split at h
  ·unfold iU at h
   repeat' split at h
   all_goals(cases h<;>decide)
  ·cases h
 ·split at h
  ·cases h
  ·unfold rL at h
   repeat' split at h
   all_goals(cases h<;>decide)
def bI(l:H1 Int):H1 Qu:=l.map λn:Int=>.int .i64 n
theorem OH{w:Nat}(n:Int)(st:H1 Int)(s:Int)(hn:1<=n/\n<=10000000)(hs:0<=s/\s<=4000000000)(hl:st.length<10000):wx w n (bI (st++[s]))=some (false,bI (st++[s]++[s+n])):=by
 have hdrop:List.drop (0+st.length*1) (bI (st++[s]))=[Value.int .i64 s]:=by unfold bI;rw[fY,List.drop_left' (by simp)];rfl
 unfold wx;rw[(show(bI (st++[s])).length=st.length+1 from by unfold bI;simp),kG,jh,bO,aQ (by omega) (by omega),show((st.length+1:Nat):Int) -1=(st.length:Int) by omega,bH,hdrop];simp;rw[Yp,ay ⟨by unfold mw;rw[cm];omega,by unfold mw;rw[cm];omega,by unfold mw;rw[cm];omega⟩];have r1:aF (st.length+1)=true:=by simp;omega
 have hap:bI (st++[s])++[Value.int IntKind.i64 (s+n)]=bI (st++[s]++[s+n]):=by unfold bI;simp
 simp_all
theorem al0{w:Nat}(L:H1 Int)(hL:∀n∈L,1<=n/\n<=3000000)(hl:L.length<=1000)(hw:2000<w):∃st:H1 Qu,lp rF (gu w) w L.length 0 (bI L) (bI [0])=some (-1,bI L,st):=by
 have key:∀(k i v:Nat)(st:H1 Int)(s:Int),i+k=L.length->k<v->st.length=i->0<=s/\s<=3000000*i->∃st':H1 Qu,lp rF (gu w) v L.length i (bI L) (bI (st++[s]))=some (-1,bI L,st'):=by
  intro k;induction k with
  |zero=>
   intro i v st s hi hv _ _;have e1:¬((i:Int)<(L.length:Int)):=by omega
   rw[eU rF (gu w) (by omega)];unfold gu;simp only[aU,e1,bM,aD];exact⟨_,rfl⟩
  |succ k ih=>
   intro i v st s hi hv hst hs;have hiL:i<L.length:=by omega
   have e1:((i:Int)<(L.length:Int)):=by omega
   have hn:=hL _ (cx hiL);obtain⟨st',hst'⟩:=ih (i+1) (v -1) (st++[s]) (s+L[i]) (by omega) (by omega) (by rw[aP,hst];rfl) (by omega);refine⟨st',?_⟩;rw[eU rF (gu w) (by omega),<-hst'];have hlen:(bI L).length=L.length:=by unfold bI;rw[cH]
   have hdrop:List.drop (0+i*1) (bI L)=.int .i64 L[i]::bI (L.drop (i+1)):=by unfold bI;rw[fI,gy,<-List.map_drop,cW hiL,ij]
   have e2:i*1<L.length:=by omega
   unfold gu;simp only[aU,e1,bd,aC,bH];rw[hlen];simp only[mQ,e2,bd,kA,aC];rw[hdrop];simp only[bc,bK];rw[OH _ st s ⟨hn.1,by omega⟩ ⟨hs.1,by omega⟩ (by omega)];simp only[aB,aD,cf];rw[aQ (by omega) (by omega)];rfl
 exact key L.length 0 w [] 0 (by omega) (by omega) rfl ⟨by omega,by omega⟩
theorem ajW{w:Nat}(L:H1 Int)(hL:∀n∈L,1<=n/\n<=3000000)(hl:L.length<=1000)(hw:2000<w):∃st:H1 Qu,um w (bI L)=some (true,bI L,st):=by
 obtain⟨st,h⟩:=al0 L hL hl hw;refine⟨st,?_⟩;have h2:yZ w (bI L) [Value.int .i64 0]=some (-1,bI L,st):=by unfold yZ;rw[(show(bI L).length=L.length from by unfold bI;rw[cH]),kG];exact h
 unfold um Hc;simp_all
def Kf(ms:H1 aO)(i:Nat):Bool:=match iA ms i with| .ok _=>false| .error _=>true
def rn(ms:H1 aO):Nat->Nat->Int
 |0,_=>-1
 |k+1,i=>if Kf ms i=true then(i:Int) else rn ms k (i+1)
theorem SG(x:oA)(aT:H1 UInt8):1<=(fj x aT).length:=by unfold fj jK;rw[mH,aP];have:(dt ⟨216,[],[]⟩).length=2:=rfl;omega
theorem QE{ms:H1 aO}(h:∀p∈ms,jG p=false){i:Nat}(hi:i<ms.length):∃aT,iQ ms[i].aG=.ok aT:=by
 have:=h _ (cx hi);unfold jG at this;cases he:iQ ms[i].aG with
 |ok b=>simp
 |error e=>grind
theorem SI{ms:H1 aO}{i:Nat}(hi:i<ms.length){b aT:H1 UInt8}(h:iA ms i=.ok b)(hm:∀p∈ms,eJ p)(hl:ms.length<=600)(ha:iQ ms[i].aG=.ok aT)(hc:nJ ms[i].core=true):(fj (fO ms[i] b) aT).length<=3000000:=by
 have hmp:=hm _ (cx hi);have hok:=KQ hi h hm hl ha hc;obtain⟨r,c1,c2,c3,c4,c5,c6⟩:=DK hok.core;have h1:=SE (aT:=aT) c2 c4;obtain⟨-,-,hl2,-⟩:=Ab hok.app hok.rows;have hbl:b.length<=65533:=by rcases Nz h hm hl with q|q;omega;exact q.2
 have hic:=hmp.ic;have hco:=hmp.co;have e1:(fO ms[i] b).cO.length=b.length:=rfl;have e2:(fO ms[i] b).cg.length=ms[i].cg.length:=rfl;have e3:(fO ms[i] b).core.length=ms[i].core.length:=rfl;omega
theorem al1{w:Nat}(L:H1 Int)(hL:∀n∈L,1<=n/\n<=3000000)(hl:L.length<=1000)(hw:2000<w):∃r:Int×H1 Qu×H1 Qu,lp rF (gu w) w (L++[0]).length 0 (bI (L++[0])) (bI [0])=some r:=by
 have hll:(L++[0]:H1 Int).length=L.length+1:=by simp
 have key:∀(k i v:Nat)(st:H1 Int)(s:Int),i+k=L.length->k+1<v->st.length=i->0<=s/\s<=3000000*i->∃r:Int×H1 Qu×H1 Qu,lp rF (gu w) v (L++[0]).length i (bI (L++[0])) (bI (st++[s]))=some r:=by
  intro k;induction k with
  |zero=>
   intro i v st s hi hv hst hs;have hiL:i<(L++[0]:H1 Int).length:=by omega
   have e1:((i:Int)<((L++[0]:H1 Int).length:Int)):=by omega
   have hget:(L++[0]:H1 Int)[i]=0:=by rw[List.getElem_append_right (by omega)];simp
   have hlen:(bI (L++[0])).length=(L++[0]).length:=by unfold bI;rw[cH]
   have hdrop:List.drop (0+i*1) (bI (L++[0]))=.int .i64 0::bI ((L++[0]).drop (i+1)):=by unfold bI;rw[fI,gy,<-List.map_drop,cW hiL,ij,hget]
   have e2:i*1<(L++[0]:H1 Int).length:=by omega
   rw[eU rF (gu w) (by omega)];unfold gu;simp only[aU,e1,bd,aC,bH];rw[hlen];simp only[mQ,e2,bd,kA,show Nat.beq 1 1=true from rfl,aC];rw[hdrop];simp only[bc,bK];have h190:∃x,wx w 0 (bI (st++[s]))=some (true,x):=by
    have hlen2:(bI (st++[s])).length=st.length+1:=by unfold bI;simp
    have hdrop2:List.drop (0+st.length*1) (bI (st++[s]))=[Value.int .i64 s]:=by unfold bI;rw[fY,fI,gy,List.drop_left' (by simp)];rfl
    unfold wx;rw[hlen2,kG,jh,bO,aQ (by omega) (by omega),show((st.length+1:Nat):Int) -1=(st.length:Int) by omega,bH];have e1:st.length*1<st.length+1:=by omega
    simp only[mQ,e1,bd,kA,show Nat.beq 1 1=true from rfl,aC];rw[hdrop2];simp only[bc,bK];rw[Yp,ay ⟨by unfold mw;rw[cm];omega,by unfold mw;rw[cm];omega,by unfold mw;rw[cm];omega⟩];simp only[aB];have r1:aF (st.length+1)=true:=by simp;omega
    rw[r1];simp only[show ak 0 1=true from rfl,wX,kG,gy,nv,show aF 1=true from rfl,jB,aC,bW,aD];exact⟨_,rfl⟩
   obtain⟨x,h190⟩:=h190;rw[h190];exact⟨_,rfl⟩
  |succ k ih=>
   intro i v st s hi hv hst hs;have hiL0:i<L.length:=by omega
   have hiL:i<(L++[0]:H1 Int).length:=by omega
   have e1:((i:Int)<((L++[0]:H1 Int).length:Int)):=by omega
   have hget:(L++[0]:H1 Int)[i]=L[i]:=List.getElem_append_left hiL0;have hn:=hL _ (cx hiL0);obtain⟨r,hr⟩:=ih (i+1) (v -1) (st++[s]) (s+L[i]) (by omega) (by omega) (by rw[aP,hst];rfl) (by omega);refine⟨r,?_⟩;rw[eU rF (gu w) (by omega),<-hr];generalize hg:lp rF (gu w) (v -1)=g;have hlen:(bI (L++[0])).length=(L++[0]).length:=by unfold bI;rw[cH]
   have hdrop:List.drop (0+i*1) (bI (L++[0]))=.int .i64 L[i]::bI ((L++[0]).drop (i+1)):=by unfold bI;rw[fI,gy,<-List.map_drop,cW hiL,ij,hget]
   have e2:i*1<(L++[0]:H1 Int).length:=by omega
   unfold gu;simp only[aU,e1,bd,aC,bH];rw[hlen];simp only[mQ,e2,bd,kA,show Nat.beq 1 1=true from rfl,aC];rw[hdrop];simp only[bc,bK];rw[OH _ st s ⟨hn.1,by omega⟩ ⟨hs.1,by omega⟩ (by omega)];simp only[aB,aD,cf];rw[aQ (by omega) (by omega)];rfl
 exact key L.length 0 w [] 0 (by omega) (by omega) rfl ⟨by omega,by omega⟩
theorem ajX{w:Nat}(L:H1 Int)(hL:∀n∈L,1<=n/\n<=3000000)(hl:L.length<=1000)(hw:2000<w):∃r:Bool×H1 Qu×H1 Qu,um w (bI (L++[0]))=some r:=by
 obtain⟨r,h⟩:=al1 L hL hl hw;have h2:yZ w (bI (L++[0])) [Value.int .i64 0]=some r:=by unfold yZ;rw[(show(bI (L++[0])).length=(L++[0]).length from by unfold bI;rw[cH]),kG];exact h
 unfold um Hc;simp_all;cases(!ak r.fst 0)<;>grind
theorem ac9{w:Nat}(W:cZ w)(hw:1000000<w){ms:H1 aO}(hm:∀p∈ms,eJ p)(hl:ms.length<=600)(ha:∀p∈ms,jG p=false)(hc:∀p∈ms,nH p=false):
 ∃c:Qu×H1 Qu,Hb w (cI ms) (cI ms) []=some (rn ms ms.length 0,c):=by
 have key:∀(k i v:Nat)(L:H1 Int),i+k=ms.length->k<v->L.length=i->(∀n∈L,1<=n/\n<=3000000)->∃c:Qu×H1 Qu,lp AW (tS w) v (cI ms) ms.length i (cI ms) (bI L)=some (rn ms k i,c):=by
  intro k;induction k with
  |zero=>
   intro i v L hi hv hL _;have e1:¬((i:Int)<(ms.length:Int)):=by omega
   rw[eU AW (tS w) (by omega)];unfold tS;simp only[aU,e1,bM,aD];exact⟨_,rfl⟩
  |succ k ih=>
   intro i v L hi hv hL hL2;have hiL:i<ms.length:=by omega
   have e1:((i:Int)<(ms.length:Int)):=by omega
   have hlen:(bI L).length=i:=by unfold bI;rw[cH,hL]
   have r1:aF i=true:=by simp;omega
   have rr:∀n:Int,(aF (bI L).length&&(aF ([Value.int IntKind.i64 n].length/1)&&[Value.int IntKind.i64 n].length.beq ([Value.int IntKind.i64 n].length/1*1)))=true:=by intro n;rw[hlen,r1];simp
   rw[eU AW (tS w) (by omega)];unfold rn Kf;cases hs:iA ms i with
   |error e=>
    have h34:=alc W hiL hs (aiY hs) hm hl;rw[ay rfl];have h131:∃r:Bool×H1 Qu×H1 Qu,um w (bI L++[Value.int IntKind.i64 0])=some r:=by obtain⟨st,hst⟩:∃r,um w (bI (L++[0]))=some r:=ajX L hL2 (by omega) (by omega);refine⟨st,?_⟩;rw[<-hst];unfold bI;rw[fY];rfl
    obtain⟨r,h131⟩:=h131;unfold tS;simp only[aU,e1,bd,aC,bH];rw[show cI ms=aA cR ms from rfl,bu kj hiL,nR];simp only[bc,bK];unfold GX;rw[show aA cR ms=cI ms from rfl,hlen,kG,bO,h34];simp only[aB];rw[<-hlen,rr 0,aC,h131];exact⟨_,rfl⟩
   |ok b=>
    obtain⟨aT,hcam⟩:=QE ha hiL;have hcore:nJ ms[i].core=true:=by have:=hc _ (cx hiL);unfold nH at this;simpa using this
    have h34:=YL W hw hiL hs hm hl hcam hcore;have hsm:=SI hiL hs hm hl hcam hcore;have hps:=SG (fO ms[i] b) aT;have hL3:∀n∈L++[((fj (fO ms[i] b) aT).length:Int)],1<=n/\n<=3000000:=by intro n hn;rcases fQ.1 hn with hn|hn<;>grind
    obtain⟨st,h131⟩:=ajW (w:=w) _ hL3 (by rw[aP,wX];omega) (by omega);have hap:bI L++[Value.int IntKind.i64 ((fj (fO ms[i] b) aT).length:Int)]=bI (L++[((fj (fO ms[i] b) aT).length:Int)]):=by unfold bI;simp
    obtain⟨c,hih⟩:=ih (i+1) (v -1) _ (by omega) (by omega) (by rw[aP,wX];omega) hL3;rw[aq (λq=>by cases q)];refine⟨c,?_⟩;rw[<-hih];generalize hg:lp AW (tS w) (v -1)=g;unfold tS;simp only[aU,e1,bd,aC,bH];rw[show cI ms=aA cR ms from rfl,bu kj hiL,nR];simp only[bc,bK];unfold GX;rw[show aA cR ms=cI ms from rfl,hlen,kG,bO,h34];simp only[aB];have rr2:=rr ((fj (fO ms[i] b) aT).length:Int);rw[hlen] at rr2;rw[rr2,aC,hap,h131];simp only[aB,bW,aD,cf];rw[aQ (by omega) (by omega)];rfl
 obtain⟨c,h⟩:=key ms.length 0 w [] (by omega) (by omega) rfl (λn hn=>by cases hn);refine⟨c,?_⟩;unfold Hb;exact h
def xr(ms:H1 aO):Bool:=match ms with
 |[p]=>!decide (p.attr=0/\p.ee=0/\p.ef=0/\p.view.length=0)
 |_=>false
def fS(ms:H1 aO):Int×Int:=
 if ms.length<1\/1000<ms.length then(1,0)
 else if 0<=dD jG ms then(2,dD jG ms)
 else if 0<=dD nH ms then(4,dD nH ms)
 else if 0<=dD oE ms then(5,dD oE ms)
 else if 0<=dD mP ms then(6,dD mP ms)
 else if xr ms=true then(7,0)
 else if 0<=rn ms ms.length 0 then(8,rn ms ms.length 0)
 else(0,0)
theorem vC{α:Type}{p:α->Bool}{l:H1 α}(h:¬0<=dD p l):∀x∈l,p x=false:=by
 have h1:dD p l<0:=by omega
 rw[xL] at h1
 grind
theorem ab3{α:Type}(l:H1 α):dD (λ_=>false) l=-1:=by
 unfold dD
 grind
theorem KM{α:Type}{p:α->Bool}{l:H1 α}(h:0<=dD p l):∃i:Nat,∃hi:i<l.length,dD p l=(i:Int)/\p l[i]=true:=by
 unfold dD at h⊢;cases hf:l.findIdx? p with
 |none=>grind
 |some i=>
  rw[List.findIdx?_eq_some_iff_getElem] at hf
  grind
theorem aly(w:Nat){ms:H1 aO}(hl:ms.length<=2000):Ij w (cI ms)=some (if ms.length<1\/1000<ms.length then 0 else-1):=by
 have hlr:∀K:Nat->Zh Int,ar (cI ms) K=K ms.length:=λK=>bU cR ms K;unfold Ij;rw[hlr,hlr,GP,GP];simp only[aB,aU]
 grind
theorem alz(w:Nat){ms:H1 aO}(hl:ms.length<=2000)(h1:1<=ms.length):Ik w (cI ms)=some (if xr ms=true then 0 else-1):=by
 have hlr:∀K:Nat->Zh Int,ar (cI ms) K=K ms.length:=λK=>bU cR ms K;cases ms with
 |nil=>simp at h1
 |cons p r=>
  unfold Ik;rw[(show∀K:H1 Qu->Zh Int,aJ 14 0 (cI (p::r)) K=K (cR p++r.flatMap cR) fromλK=>bu kj (by rw[cc];omega) K),nR];simp;rw[hlr];cases r with
  |nil=>
   rw[(show∀K:Nat->Zh Int,ar (au p.view) K=K p.view.length fromλK=>bU cC _ K),GP,GP];unfold xr;by_cases a1:p.attr=0
   case neg=>simp[a1]
   by_cases a2:p.ee=0
   case neg=>simp_all
   by_cases a3:p.ef=0
   case neg=>simp_all
   by_cases a4:p.view.length=0
   ·simp_all
   ·have:(0:Int)<(p.view.length:Int):=by omega
    simp_all
  |cons q r=>rfl
theorem Pz{w:Nat}(W:cZ w)(hw:1000000<w){ms:H1 aO}(hm:∀p∈ms,eJ p)(hl:ms.length<=600\/1000<ms.length)(hl2:ms.length<=2000):zj w (cI ms)=some (fS ms):=by
 unfold zj fS F9 Ge;rw[show O5 w=some () from rfl];rw[aly w hl2];simp only[aB];by_cases h1:ms.length<1\/1000<ms.length
 ·rw[ay h1,ay h1];rfl
 rw[aq h1,aq h1,show(!ak (-1) 0)=false from rfl];have hlt:ms.length<=600:=by omega
 unfold Ps Od;rw[akn W hm hl2];simp only[aB,aU];by_cases h2:0<=dD jG ms
 ·rw[ay h2,eB (by omega)];rfl
 rw[aq h2,dZ (by omega:dD jG ms<0)];unfold Pt Oe;rw[ako W hm hl2];simp only[aB];rw[show dD Af ms=-1 from ab3 ms];simp only[show decide ((-1:Int)<0)=true from rfl,aD];unfold Pu Of;rw[akp W hm hl2];simp only[aB];by_cases h4:0<=dD nH ms
 ·rw[ay h4,eB (by omega)];rfl
 rw[aq h4,dZ (by omega:dD nH ms<0)];unfold Pv Og;rw[akq W hm hl2];simp only[aB];by_cases h5:0<=dD oE ms
 ·rw[ay h5,eB (by omega)];rfl
 rw[aq h5,dZ (by omega:dD oE ms<0)];unfold Pw Oh;rw[akr W hm hl2];simp only[aB];by_cases h6:0<=dD mP ms
 ·rw[ay h6,eB (by omega)];rfl
 rw[aq h6,dZ (by omega:dD mP ms<0)];rw[alz w hl2 (by omega)];simp only[aB];by_cases h7:xr ms=true
 ·rw[ay h7,ay h7];rfl
 rw[aq h7,aq h7];simp only[show decide ((-1:Int)<0)=true from rfl,aD];unfold Px Oc;obtain⟨c,h188⟩:=ac9 W hw hm hlt (vC h2) (vC h4);rw[h188];simp only[aB];by_cases h8:0<=rn ms ms.length 0
 ·rw[ay h8,eB (by omega)];rfl
 rw[aq h8,dZ (by omega:rn ms ms.length 0<0)];rfl
def ga(ms:H1 aO):Int:=
 if(fS ms).1 =0 then 0
 else if(fS ms).1 =1 then(if ms.length=0 then 1 else 7)
 else if(fS ms).1 =2 then(match ms[(fS ms).2.toNat]? with|some p=>(match iQ p.aG with| .ok _=>0| .error e=>e)|none=>0)
 else if(fS ms).1 =4 then 2
 else if(fS ms).1 =5 then 1
 else if(fS ms).1 =7 then 1
 else if(fS ms).1 =6 then 6
 else 7
theorem Oj{w:Nat}(W:cZ w)(hw:1000000<w){ms:H1 aO}(hm:∀p∈ms,eJ p)(hl:ms.length<=600\/1000<ms.length)(hl2:ms.length<=2000):yO w (cI ms)=some (ga ms):=by
 have hlr:∀K:Nat->Zh Int,ar (cI ms) K=K ms.length:=λK=>bU cR ms K;unfold yO ga;rw[Pz W hw hm hl hl2];simp only[aB,bY,qT];by_cases h0:(fS ms).1 =0
 ·rw[ay h0,ay h0]
 rw[aq h0,aq h0];by_cases h1:(fS ms).1 =1
 ·rw[ay h1,ay h1,hlr];by_cases hz:ms.length=0<;>grind
 rw[aq h1,aq h1];by_cases h2:(fS ms).1 =2
 ·rw[ay h2,ay h2];have hidx:0<=dD jG ms/\(fS ms).2 =dD jG ms:=by
   unfold fS at h2⊢;split at h2
   ·exact absurd h2 (by decide)
   rename_i a;rw[aq a];split at h2
   ·rename_i b;rw[ay b];exact⟨b,rfl⟩
   ·exfalso
    repeat' split at h2
    all_goals(simp only at h2;exact absurd h2 (show¬((_:Int)=2) by decide))
  obtain⟨i,hi,he,hb⟩:=KM hidx.1;rw[hidx.2,he,bH,show cI ms=aA cR ms from rfl,bu kj hi,nq,cw hi];have d0:∀r:H1 Qu,List.drop 0 (cR ms[i]++r)=cR ms[i]++r:=λ_=>rfl;rw[d0,nR];simp;rw[Pd W (hm _ (cx hi)).vn];cases iQ ms[i].aG<;>rfl
 rw[aq h2,aq h2]
 repeat' split
 all_goals rfl
theorem amv{o:Int}{view:H1 aN}(hv:TS view)(hr:da 5 view=true):gT (gx o view)<=40000:=by
 obtain⟨h1,h2⟩:=hv;have hV:=As view (aI 8+(6+12*bE (.mk view .nil []))) λt ht=>⟨(ED (((yr hr).2) t ht)).2.2.2,h2 t ht⟩;have hN:bE (.mk view .nil [])=view.length:=by show view.length+0+0=_;simp
 have hE:gT (gx o view)=cn (aI 8+(6+12*bE (.mk view .nil []))) view:=by show eG 8 [.mk view .nil []]=_;simp[eG,bB,eH]
 have e8:aI 8=8:=rfl;omega
theorem acb{o:Int}{l:H1 cS}(h2:2<=l.length)(hl:l.length<=6){view:H1 aN}(hv:TS view)(hr:da 5 view=true):gT (dM o l view)<=40000:=by
 obtain⟨h1,h2'⟩:=hv;have hm:=(yr hr).2;have hlen:=rj o l;have m3:eI 7 ((16*l.length:Nat):Int) (l.flatMap (eX o))=true:=by unfold eI;have:(kindOf 7).1 =1:=rfl;rw[hlen];simp_all;omega
 obtain⟨e1,he1⟩:∃e1,bB 8 (fA o l)=e1:=⟨_,rfl⟩;have hD:e1<=700:=by
  have hV:=As (m:=100) [⟨45056,7,4,[48,49,48,48]⟩,⟨45057,4,1,fa l.length 4⟩,⟨45058,7,((16*l.length:Nat):Int),l.flatMap (eX o)⟩] (aI 8+(6+12*bE (fA o l))) λt ht=>by
   simp at ht;rcases ht with rfl|rfl|rfl
   ·exact⟨(by decide),by simp⟩
   ·exact⟨aab,by simp only[pB];omega⟩
   ·exact⟨m3,by simp_all;omega⟩
  have hN:bE (fA o l)=3:=rfl;have e8:aI 8=8:=rfl;have:e1=cn (aI 8+(6+12*bE (fA o l))) [⟨45056,7,4,[48,49,48,48]⟩,⟨45057,4,1,fa l.length 4⟩,⟨45058,7,((16*l.length:Nat):Int),l.flatMap (eX o)⟩]:=by rw[<-he1];simp[fA,bB,eH,ea]
  simp_all;omega
 have hT:gT (dM o l view)=eG e1 (if view.length=0 then[] else[.mk view .nil []]):=by rw[<-he1];rfl
 rw[hT];by_cases h0:view.length=0
 ·rw[ay h0];show e1<=_;omega
 ·rw[aq h0];have hV:=As view (aI e1+(6+12*bE (.mk view .nil []))) λt ht=>⟨(ED (hm t ht)).2.2.2,h2' t ht⟩;have hN:bE (.mk view .nil [])=view.length:=by
   show view.length+0+0=_;omega
  have hE:eG e1 [.mk view .nil []]=cn (aI e1+(6+12*bE (.mk view .nil []))) view:=by simp[eG,bB,eH,ea]
  have e8:=vj e1;omega
def oI(p:aO):Bool:=!jG p&&(!nH p&&(!oE p&&!mP p))
theorem oJ{p:aO}(h:oI p=true):jG p=false/\nH p=false/\oE p=false/\mP p=false:=by
 unfold oI at h
 grind
theorem Eg{p:aO}(h:jG p=false):p.aG.order=1\/p.aG.order=2:=by
 unfold jG at h;cases he:iQ p.aG with
 |error e=>grind
 |ok b=>
  unfold iQ at he;split at he
  ·grind
  ·rename_i q;exact(tF (qK.1 q)).1
theorem Xw{ms:H1 aO}(hm:∀p∈ms,eJ p)(hl:ms.length<=6)(hg:∀p∈ms,oI p=true)(i:Nat):∃b,iA ms i=.ok b:=by
 unfold iA;split
 ·exact⟨_,rfl⟩
 rename_i p hp;have hpm:=ou hp;obtain⟨g1,g2,g3,g4⟩:=oJ (hg p hpm);have ho:=Eg g1;have hv:=(hm p hpm).tv;have hr:da 5 p.view=true:=by unfold mP at g4;simpa using g4
 split
 ·split
  ·rename_i h1;have hpl:(gW ms).length=ms.length:=by unfold gW;rw[cH]
   have hall:(gW ms).all kL=true:=by rw[iE];intro q hq;obtain⟨y,hy,rfl⟩:=mK.1 hq;have:=(oJ (hg y hy)).2.2.1;unfold oE at this;unfold kL;simp only[Bool.not_eq_false',cm] at this⊢;obtain⟨a,b,c⟩:=this;exact⟨a,by decide,by decide,b,c⟩
   have he:=acb (o:=p.aG.order) (l:=gW ms) (by omega) (by omega) hv hr;unfold iU;rw[aq (by rintro (q|q);exact q ho;omega),hall,aq (by decide),hr,aq (by decide),aq (by omega),aq (by omega)];exact⟨_,rfl⟩
  ·exact⟨_,rfl⟩
 ·split
  ·exact⟨_,rfl⟩
  ·rename_i h0;have he:=amv (o:=p.aG.order) hv hr;unfold rL;rw[aq (by rintro (q|q);exact q ho;exact h0 q),hr,aq (by decide),aq (by omega)];exact⟨_,rfl⟩
theorem Xv{ms:H1 aO}(h:∀i,∃b,iA ms i=.ok b):∀k i,rn ms k i=-1
 |0,i=>rfl
 |k+1,i=>by obtain⟨b,hb⟩:=h i;unfold rn Kf;rw[hb];exact Xv h k (i+1)
theorem El{α:Type}{p:α->Bool}{l:H1 α}:(¬0<=dD p l)↔∀x∈l,p x=false:=by
 constructor
 ·exact vC
 ·intro h q;obtain⟨i,hi,_,hb⟩:=KM q
  grind
theorem Ks{ms:H1 aO}(hm:∀p∈ms,eJ p)(h1:1<=ms.length)(hl:ms.length<=6):(fS ms).1 =0↔(∀p∈ms,oI p=true)/\xr ms=false:=by
 unfold fS;rw[aq (by omega)];constructor
 ·intro h;split at h
  ·exact absurd h (by simp)
  rename_i a1;split at h
  ·exact absurd h (by simp)
  rename_i a2;split at h
  ·exact absurd h (by simp)
  rename_i a3;split at h
  ·exact absurd h (by simp)
  rename_i a4;split at h
  ·exact absurd h (by simp)
  rename_i a5;refine⟨λp hp=>?_,by simpa using a5⟩;unfold oI;rw[vC a1 p hp,vC a2 p hp,vC a3 p hp,vC a4 p hp];rfl
 ·rintro ⟨hg,h1⟩
  rw[aq (El.2 λp hp=>(oJ (hg p hp)).1),aq (El.2 λp hp=>(oJ (hg p hp)).2.1),aq (El.2 λp hp=>(oJ (hg p hp)).2.2.1),aq (El.2 λp hp=>(oJ (hg p hp)).2.2.2),h1,aq (by decide),Xv (Xw hm hl hg),aq (by decide)]
theorem Aj(ms:H1 aO)(h:1<=ms.length):ga ms=0↔(fS ms).1 =0:=by
 unfold ga;constructor
 ·intro hc;split at hc
  ·rename_i q;exact q
  split at hc
  ·rw[aq (by omega)] at hc;cases hc
  split at hc
  ·rename_i h0 h1 h2;exfalso;have hidx:0<=dD jG ms/\(fS ms).2 =dD jG ms:=by
    unfold fS at h2⊢;split at h2
    ·exact absurd h2 (by decide)
    rename_i a;rw[aq a];split at h2
    ·rename_i b;rw[ay b];exact⟨b,rfl⟩
    ·exfalso
     repeat' split at h2
     all_goals(simp only at h2;exact absurd h2 (show¬((_:Int)=2) by decide))
   obtain⟨i,hi,he,hb⟩:=KM hidx.1;rw[hidx.2,he,nq,cw hi] at hc;unfold jG at hb;simp only at hc;cases ha:iQ ms[i].aG with
   |ok b=>rw[ha] at hb;cases hb
   |error e=>rw[ha] at hc;exact QD ha hc
  repeat' split at hc
  all_goals(exact absurd hc (by decide))
 ·intro h0;rw[ay h0]
def JN:H1 UInt8:=[255,216,255,218,0,8,1,1,0,0,63,0,7,255,217]
def Br:aO:=⟨⟨2,[⟨274,3,1,[0,1]⟩],[],[],[],[],[],[]⟩,[],JN,0,0,0,[]⟩
structure rS where
 p:aO
 b:List UInt8
 aT:List UInt8
def Fa(x:Except Int (H1 UInt8)):H1 UInt8:=match x with| .ok b=>b| .error _=>[]
def aL(ms:H1 aO)(i:Nat):rS:=⟨(ms[i]?).getD Br,Fa (iA ms i),Fa (iQ ((ms[i]?).getD Br).aG)⟩
def iv(g:rS):H1 Qu:=[.int .i64 g.p.aG.order,au g.p.aG.cu,au g.p.aG.bG,au g.p.aG.bN,au g.p.aG.bm,au g.p.aG.first,ah g.p.aG.bF,ah g.p.aG.cP,ah g.p.cg,ah g.p.core,ah g.b,.int .i64 (jF g.aT g.b),.int .i64 ((fj (fO g.p g.b) g.aT).length:Int)]
theorem xM(g:rS):(iv g).length=13:=rfl
def fU(ms:H1 aO):H1 rS:=(List.range ms.length).map (aL ms)
structure dX(ms:List aO):Prop where
 mem:∀p∈ms,eJ p
 le:ms.length<=6
 qn:∀p∈ms,oI p=true
theorem dX.SH{ms:H1 aO}(F:dX ms){i:Nat}(hi:i<ms.length):∃b aT,iA ms i=.ok b/\iQ ms[i].aG=.ok aT/\nJ ms[i].core=true/\aL ms i=⟨ms[i],b,aT⟩:=by
 obtain⟨b,hb⟩:=Xw F.mem F.le F.qn i;obtain⟨aT,hc⟩:=QE (λp hp=>(oJ (F.qn p hp)).1) hi;refine⟨b,aT,hb,hc,?_,?_⟩
 ·have:=(oJ (F.qn _ (cx hi))).2.1;unfold nH at this
  grind
 ·unfold aL;rw[cw hi,qP,hb,hc];rfl
theorem AD{ms:H1 aO}(hm:∀p∈ms,eJ p)(hl:ms.length<=6\/1000<ms.length)(h:ga ms=0):dX ms/\1<=ms.length:=by
 by_cases h0:ms.length<1\/1000<ms.length
 ·exfalso;unfold ga at h;rw[(show(fS ms).1 =1 from by unfold fS;rw[ay h0])] at h;omega
 ·have h1:1<=ms.length:=by omega
  have h6:ms.length<=6:=by omega
  have:=(Aj ms h1).1 h;have:=(Ks hm h1 h6).1 this;exact⟨⟨hm,h6,this.1⟩,h1⟩
theorem VR(a d e:Int)(x:dJ)(c:H1 UInt8)(hx:x=Br.aG\/x=⟨1,[],[],[],[],[],[],[]⟩)(hc:c=JN\/c=[]):eJ ⟨x,[],c,a,d,e,[]⟩:=by
 have t0:TS []:=⟨by decide,λt h=>by cases h⟩;have hcl:c.length<=2000:=by rcases hc with rfl|rfl<;>decide
 rcases hx with rfl|rfl
 ·exact⟨(show TS [⟨274,3,1,[0,1]⟩] from⟨by decide,λt h=>by rw[nt.1 h];decide⟩),t0,t0,t0,t0,t0,(show 0<=2000 by decide),(show 0<=2000 by decide),(show 0<=2000 by decide),hcl⟩
 ·exact⟨t0,t0,t0,t0,t0,t0,(show 0<=2000 by decide),(show 0<=2000 by decide),(show 0<=2000 by decide),hcl⟩
def plA:aO:=⟨Br.aG,[],JN,1,0,0,[]⟩
theorem Lo:eJ Br:=VR 0 0 0 _ _ (.inl rfl) (.inl rfl)
theorem Lp:eJ plA:=VR 1 0 0 _ _ (.inl rfl) (.inl rfl)
def mG(l:H1 aN):Bool:=l.any (λt=>decide (600<t.data.length))||decide (60<l.length)
theorem akV{w:Nat}(l:H1 aN)(hl:l.length<2^63)(hw:l.length<w):YE w (au l)=some (mG l):=by
 have hlr:∀K:Nat->Zh Bool,ar (au l) K=K l.length:=λK=>bU cC l K;have key:∀(k i v:Nat),i+k=l.length->k<v->∀(z:Qu->Int->Zh Bool)(F:(Qu->Int->Zh Bool)->Qu->Int->Zh Bool),
  (∀(x3:Qu->Int->Zh Bool)(x4:Qu)(x5:Int),F x3 x4 x5=ar x4 λ(x6:Nat)=>bif ak x5 (Int.ofNat x6) then aE x5 λ(x7:Nat)=>aJ 4 x7 x4 λx8=>af (List.drop 2 (List.drop 1 x8)) λ(x9:Qu)(x10:H1 Qu)=>ar x9 λ(x11:Nat)=>bif ak 600 (Int.ofNat x11) then some true else x3 x4 (ag IntKind.i64 (x5.add 1)) else ar x4 λ(x12:Nat)=>some (ak 60 (Int.ofNat x12)))->
  lp z F v (au l) i=some ((l.drop i).any (λt=>decide (600<t.data.length))||decide (60<l.length)):=by
  intro k;induction k with
  |zero=>
   intro i v hi hv z F hF;have e1:¬((i:Int)<(l.length:Int)):=by omega
   rw[eU z F (by omega),hF,hlr,show l.drop i=[] from rO (by omega)];simp only[aU,bO,e1,bM,aD];rw[hlr,List.any_nil,zJ]
   congr 1
   rw[iD,cm,cm];omega
  |succ k ih=>
   intro i v hi hv z F hF;have hiL:i<l.length:=by omega
   have e1:((i:Int)<(l.length:Int)):=by omega
   have dd:∀(y:aN)(r:H1 Qu),List.drop 2 (List.drop 1 (cC y++r))=ah y.data::r:=λ_ _=>rfl;rw[eU z F (by omega),hF,hlr];simp only[aU,bO,e1,bd,aC,bH];rw[show au l=aA cC l from rfl,bu ig hiL,dd];simp only[bc];rw[cN,cW hiL,List.any_cons];by_cases h:600<l[i].data.length
   ·have e2:(600:Int)<(l[i].data.length:Int):=by omega
    simp_all
   ·have e2:¬((600:Int)<(l[i].data.length:Int)):=by omega
    simp only[h,e2,bM,aD];have:=ih (i+1) (v -1) (by omega) (by omega) z F hF;rw[cf,aQ (by omega) (by omega)];exact this
 exact key l.length 0 w (by omega) hw _ _ (λ_ _ _=>rfl)
theorem zF{l:H1 aN}(h:mG l=false):TS l:=by unfold mG at h;simp_all;exact⟨by omega,λt ht=>by have:=h.1 t ht;omega⟩
def C5(p:aO):Bool:=mG p.aG.cu||(mG p.aG.bG||(mG p.aG.bN||(mG p.aG.bm||(mG p.aG.first||(mG p.view||(decide (2000<p.aG.bF.length)||(decide (2000<p.aG.cP.length)||(decide (2000<p.cg.length)||decide (2000<p.core.length)))))))))
theorem amt{p:aO}(h:C5 p=false):eJ p:=by unfold C5 at h;simp_all;obtain⟨a0,a2,a3,a4,a1,av,b1,b2,b3,b4⟩:=h;exact⟨zF a0,zF a2,zF a3,zF a4,zF a1,zF av,by omega,by omega,by omega,by omega⟩
structure C7(w:Nat)(ms:List aO):Prop where
 n:ms.length<2^63
 rows:∀p∈ms,∀l∈[p.aG.cu,p.aG.bG,p.aG.bN,p.aG.bm,p.aG.first,p.view],l.length<2^63/\l.length<w
theorem WW(l:H1 aN):rowOf (au l)=some (l.length,l.flatMap cC):=rfl
theorem Yo(w:Nat)(a b:Int)(d:H1 UInt8)(hd:d.length<=1000000000):uq w a b (ah d)=some (a,b,ah d):=by unfold uq;rw[rZ w _ hd];rfl
theorem Mm(w:Nat):∀l:H1 aN,(∀t∈l,t.data.length<=1000000000)->nV (uq w) (l.flatMap cC)=some (l.flatMap cC)
 |[],_=>rfl
 |t::l,h=>by have e:(t::l).flatMap cC=.int .i64 t.tag::.int .i64 t.ty::.int .i64 t.az::ah t.data::l.flatMap cC:=rfl;rw[e];unfold nV;rw[show aZ [ah t.data]=true from rfl,aC,Yo w _ _ _ (h t (by simp)),aB,Mm w l λx hx=>h x (by grind),aB]
theorem TJ:∀(l:H1 aN)(i:Nat)(p:aN->Bool),(∀x (h:x<l.length),x<i->p l[x]=true)->(∀x (h:x<l.length),i<=x->p l[x]=false)->l.filter p=l.take i
 |[],_,_,_,_=>by simp
 |a::l,0,p,h1,h2=>by rw[qa,List.filter_eq_nil_iff];intro x hx;obtain⟨k,hk,rfl⟩:=List.mem_iff_getElem.1 hx;simp_all
 |a::l,i+1,p,h1,h2=>by have h0:=h1 0 (by simp) (by simp);simp at h0;rw[kE,ay h0,ox,TJ l i p (λx h q=>by have:=h1 (x+1) (by grind) (by omega);simpa using this) λx h q=>by have:=h2 (x+1) (by simp;omega) (by omega);simpa using this]
theorem KE:∀(l:H1 aN)(i:Nat)(p:aN->Bool),(∀x (h:x<l.length),x<i->p l[x]=false)->(∀x (h:x<l.length),i<=x->p l[x]=true)->l.filter p=l.drop i
 |[],_,_,_,_=>by simp
 |a::l,0,p,h1,h2=>by rw[er,List.filter_eq_self];intro x hx;obtain⟨k,hk,rfl⟩:=List.mem_iff_getElem.1 hx;simp_all
 |a::l,i+1,p,h1,h2=>by have h0:=h1 0 (by simp) (by simp);simp at h0;rw[kE,aq (by simp[h0]),List.drop_succ_cons,KE l i p (λx h q=>by have:=h1 (x+1) (by grind) (by omega);simpa using this) λx h q=>by have:=h2 (x+1) (by simp;omega) (by omega);simpa using this]
theorem aa4{w:Nat}(l:H1 aN)(t:Int)(hr:fP l=true)(hl:l.length<2^20)(hw:l.length+2<w)(hd:∀t∈l,t.data.length<=1000000000):zc w (au l) t=some (au (pD l t)):=by
 obtain⟨i,a,b,c,h1,h2⟩:=Oz l t hr (by omega) hw;unfold zc xA;rw[WW,aB,(cy ig l),nv,show Nat.blt l.length 1000000000=true by simp;omega];rw[show(true&&true)=true from rfl,Mm w l hd,aB,show ae l.length (l.flatMap cC)=au l from rfl,a,aB];cases hf:iK l t with
 |none=>
  have:pD l t=l:=by unfold pD;rw[List.filter_eq_self];intro x hx;have:=List.find?_eq_none.1 (hf) x hx;simpa using this
  rw[this];rfl
 |some x=>
  obtain⟨hi,hx⟩:=c (by rw[hf];rfl);have ht:l[i].tag=t:=by have h0:=List.find?_some (hf);rw[hf] at hx;rw[<-jC hx];simpa using h0
  have e1:(decide ((0:Int)<=((i:Nat):Int))&&Nat.blt i l.length)=true:=by simp;omega
  have hdr:pD l t=l.take i++l.drop (i+1):=by
   unfold pD
   conv=>lhs;rw[<-kF i l,cW hi]
   rw[List.filter_append,kE,aq (by simp[ht])]
   congr 1
   ·rw[List.filter_eq_self];intro x hx;obtain⟨k,hk,rfl⟩:=List.mem_iff_getElem.1 hx;simp at hk;have:=h1 k (by omega) (by omega);simp;omega
   ·rw[List.filter_eq_self];intro x hx;obtain⟨k,hk,rfl⟩:=List.mem_iff_getElem.1 hx;simp at hk;have:=vZ hr (show i<i+1+k by omega) (show i+1+k<l.length by omega);simp;omega
  simp only[Option.isSome_some,aC,e1,nq];rw[mT ig,vr ig,vr ig,eQ (l:=l.drop (i+1)) (by simp),hdr,<-fo];unfold au aA;rw[show(l.take i++l.drop (i+1)).length=l.length -1 by simp;omega]
theorem ai9{w:Nat}(l:H1 aN)(x:aN)(hr:fP l=true)(hl:l.length<2^20)(hw:l.length+2<w)(hd:∀t∈l,t.data.length<=1000000000)(hx:x.data.length<=1000000000):Cu w (au l) x.tag x.ty x.az (ah x.data)=some (au (ku l x)):=by
 obtain⟨i,a,b,c,h1,h2⟩:=Oz l x.tag hr (by omega) hw;unfold Cu yD;rw[WW,aB,(cy ig l),nv,show Nat.blt l.length 1000000000=true by simp;omega,show aZ [ah x.data]=true from rfl];rw[show(true&&true&&true)=true from rfl,aC,Mm w l hd,Yo w _ _ _ hx,aB,show ae l.length (l.flatMap cC)=au l from rfl,a];have hlt:l.filter (λy=>decide (y.tag<x.tag))=l.take i:=TJ l i _ (λk h q=>by have:=h1 k h q;simpa using this) λk h q=>by have:=h2 k h q;simp;omega
 cases hf:iK l x.tag with
 |none=>
  have cA:∀k (h:k<l.length),l[k].tag≠x.tag:=λk h=>by have:=List.find?_eq_none.1 (hf) l[k] (cx h);simpa using this
  simp_all;rw[mT ig,vr ig];unfold ku au aA;rw[hlt,(KE l i _ (λk h q=>by have:=h1 k h q;simp;omega) λk h q=>by have:=h2 k h q;have:=cA k h;simp;omega),fo,show(l.take i++x::l.drop i).length=l.length+1 by simp;omega];rfl
 |some y=>
  obtain⟨hi,hy⟩:=c (by rw[hf];rfl);have ht:l[i].tag=x.tag:=by rw[hf] at hy;rw[<-jC hy];simpa using(List.find?_some (hf))
  have hgt:l.filter (λy=>decide (x.tag<y.tag))=l.drop (i+1):=KE l (i+1) _ (λk h q=>by
   by_cases hk:k=i
   ·subst hk;simp;omega
   ·have:=h1 k h (by omega);simp;omega) λk h q=>by have:=vZ hr (show i<k by omega) h;simp;omega
  simp_all;rw[mT ig,vr ig];unfold ku au aA;rw[hlt,hgt,fo,show(l.take i++x::l.drop (i+1)).length=l.length by simp;omega];rfl
theorem DE(l:H1 UInt8):bk (l.map λb=>(b.toNat:Int))=l.map bh:=by unfold bk;rw[List.map_map];rfl
theorem aaO{w:Nat}(b:H1 UInt8)(hb:b.length<=65519):CG w (ah b)=some (aA cV (gD b),0):=by
 unfold CG Al;rw[rX,cH,YU w _ (by omega),aB];cases b with
 |nil=>rfl
 |cons a b=>
  rw[(show xx (a::b).length=1 from by unfold xx;simp_all;omega),show(aj ((1:Nat):Int) 1&&Nat.ble (a::b).length 65519)=true by rw[show Nat.ble (a::b).length 65519=true by rw[iq];exact hb];rfl];have e:bk (mU++(a::b).map λb=>(b.toNat:Int))=(fT++1::1::(a::b)).map bh:=by rw[<-DE];rfl
  rw[e,(show gD (a::b)=[fT++1::1::(a::b)] from by unfold gD;rw[aq (by simp)])];unfold aA cV ah aA;rw[dG,(show∀l:H1 UInt8,l.flatMap pC=l.map bh fromλl=>by induction l with|nil=>rfl|cons x l ih=>rw[dG,ih];rfl),(show(fT++1::1::(a::b)).length=14+(a::b).length from by simp[fT];omega)]
  rfl
theorem aan{w:Nat}(a b c d:H1 UInt8)(h0:0<a.length)(h:a.length+b.length+c.length+d.length<2^29):uk w (ah a) (ah b) (ah c) (d.map bh)=some ((d++(a++(b++c))).map bh):=by
 unfold uk;rw[PZ,aB,rX,rX,rX,<-fY,<-fY,<-fY,DE];have e:(Nat.blt 0 (d++(a++(b++c))).length&&Nat.ble (d++(a++(b++c))).length 1000000000)=true:=by simp;omega
 grind
theorem acR(t:Int):(kindOf t).1 <=8:=by
 unfold kindOf
 repeat' split
 all_goals decide
theorem adp{ty az:Int}{l:H1 UInt8}(h:eI ty az l=true):l.length<=524288:=by obtain⟨h0,h1,h2,h3⟩:=vM h;have:az*(kindOf ty).1 <=az*8:=Int.mul_le_mul_of_nonneg_left (acR ty) (by omega);omega
theorem ads{w:Nat}(l:H1 aN)(h:∀t∈l,eI t.ty t.az t.data=true)(hl:l.length<=65535)(hw:65540<=w):oo w (au l)=some false:=by
 have key:Pg w (au l)=some (-1):=by
  refine gV (ev:=λi (g:Qu->Int->Int->Zh Int)=>g (au l) (l.length:Int) i) l.length ?_ ?_ (by omega)
  ·intro i g hi;simp_all;rw[show au l=aA cC l from rfl,bu ig hi,(show∀(y:aN)(r:H1 Qu),cC y++r=Value.int .i64 y.tag::.int .i64 y.ty::.int .i64 y.az::ah y.data::r fromλ_ _=>rfl)];simp;have hm:=h l[i] (cx hi);unfold O7;rw[yY w _ _ _ (by have:=adp hm;omega),hm,aQ (by omega) (by omega)];rfl
  ·intro g;simp
 unfold oo;rw[key];rfl
theorem M9(d:aV):(fV (dT d)&&(fV (dS d)&&fV (dB d)))=true:=by cases d;rfl
theorem ado{w:Nat}(hw:65540<=w){sh:H1 bg}{s:Nat}{d:aV}(h:cM sh s d=true):mY (kP w) (oo w) (dT d) (dS d) (dB d)=true:=by
 unfold mY;rw[M9];obtain⟨tags,subs,blob⟩:=d;unfold cM at h;simp_all;obtain⟨⟨h1,h2⟩,h3,_⟩:=h;have hn:bE (.mk tags subs blob)=tags.length+cj subs+(if blob.length=0 then 0 else 2):=rfl;have hT:∀t∈tags,eI t.ty t.az t.data=true:=λt ht=>by unfold ky at h3;simp_all
 rw[show dT (.mk tags subs blob)=au tags from rfl,show dS (.mk tags subs blob)=ae (cj subs) (gO subs) from rfl,show dB (.mk tags subs blob)=ah blob from rfl,Hg w tags subs blob (by omega),ads tags hT (by omega) hw]
 grind
mutual
theorem TP{w:Nat}(hw:65540<=w){sh:H1 bg}:∀(d:aV)(s f:Nat),cM sh s d=true->gj d<=f->mr (mY (kP w) (oo w)) f (dT d) (dS d) (dB d)=true
 | .mk tags subs blob,s,0,h,hf=>by simp[gj] at hf
 | .mk tags subs blob,s,f+1,h,hf=>by unfold mr;rw[ado hw h];unfold cM at h;simp at h;obtain⟨⟨h1,h2⟩,_,_,_,h5⟩:=h;have hn:bE (.mk tags subs blob)=tags.length+cj subs+(if blob.length=0 then 0 else 2):=rfl;show(Nat.beq (gO subs).length (cj subs*4)&&Nat.blt (cj subs) 1000000000&&vL (mr (mY (kP w) (oo w)) f) (gO subs))=true;rw[Zd,nv,show Nat.blt (cj subs) 1000000000=true by simp;omega,TU hw subs _ f h5 (by simp only[gj] at hf;omega)];rfl
theorem TU{w:Nat}(hw:65540<=w){sh:H1 bg}:∀(s:cK)(S:bg)(f:Nat),jg sh S s=true->jX s<=f->vL (mr (mY (kP w) (oo w)) f) (gO s)=true
 | .nil,_,_,_,_=>rfl
 | .cons tag d r,S,f,h,hf=>by unfold jg at h;simp_all;unfold jX at hf;rw[show gO (.cons tag d r)=.int .i64 tag::(dr d++gO r) from rfl,ql];show((fV (dT d)&&(fV (dS d)&&fV (dB d)))&&mr (mY (kP w) (oo w)) f (dT d) (dS d) (dB d)&&vL (mr (mY (kP w) (oo w)) f) (gO r))=true;rw[M9,TP hw d _ f h.2.1 (by omega),TU hw r S f h.2.2 (by omega)];rfl
end
theorem adq{w:Nat}(hw:65540<=w)(o:Int)(ds:H1 aV)(hn:ds.length<1000000000)(h:∀d∈ds,∃(sh:H1 bg)(s:Nat),cM sh s d=true)(hd:kV ds<=w):wC w o (db ds)=some true:=by
 have hC:∀ds:H1 aV,(∀d∈ds,∃(sh:H1 bg)(s:Nat),cM sh s d=true)->kV ds<=w->sy (mr (mY (kP w) (oo w)) w) (ds.flatMap dr)=true:=by
  intro ds;induction ds with
  |nil=>intro _ _;rfl
  |cons d ds ih=>intro h hd;obtain⟨sh,s,h0⟩:=h d (by simp);unfold kV at hd;rw[dG,ql];show((fV (dT d)&&(fV (dS d)&&fV (dB d)))&&mr (mY (kP w) (oo w)) w (dT d) (dS d) (dB d)&&sy (mr (mY (kP w) (oo w)) w) (ds.flatMap dr))=true;rw[M9,TP hw d s w h0 (by omega),ih (λx hx=>h x (by grind)) (by omega)];rfl
 show cond (Nat.beq (ds.flatMap dr).length (ds.length*3)&&(Nat.blt ds.length 1000000000&&sy (mr (mY (kP w) (oo w)) w) (ds.flatMap dr))) (some true) none=some true;rw[(cy kX ds),nv,show Nat.blt ds.length 1000000000=true by simp;omega,hC ds h hd];rfl
theorem abV{w:Nat}(hw:65540<=w):Hand w:=
 ⟨λo ds hn h hd=>adq hw o ds hn h hd,λl x h1 h2 h3 h4 h5=>ai9 l x h1 h2 h3 h4 h5,λl t h1 h2 h3 h4=>aa4 l t h1 h2 h3 h4,λb h=>aaO b h,λa b c d h0 h=>aan a b c d h0 h⟩
section
open Go.Shelf Go.RowKit Go.Lib Go.ChangeShapes Go.WideShapes Go.Deep
section
variable{H:Type} {enc:TypeId×Qu->H} {P:Program} {w:Hx} {base:Nat} {spare:Nat->Bool} {held:Bool}
theorem aao{b i:Nat}{y:Qu}(h:w.cell? ⟨b,i,none⟩=some y):fJ w b i=some y:=by
 unfold fJ;split
 ·rename_i es c q;unfold World.cell? at h;simp only[q] at h;cases h
 ·exact h
theorem aap{a:Addr}{y:Qu}(h:w.cell? a=some y):a.spot=none:=by
 unfold World.cell? at h;split at h
 ·split at h
  ·cases h
  ·rename_i q;cases e:a.spot with
   |none=>rfl
   |some _=>rw[e] at q;exact absurd rfl q
 ·cases h
theorem Vr{α:Type}{f:α->H1 Qu}(h:∀x,aZ (f x)=true):∀l:H1 α,aZ (l.flatMap f)=true
 |[]=>rfl
 |x::l=>by rw[dG];exact Bd (h x) (Vr h l)
theorem PY{α:Type}{t e:TypeId}{k:Nat}(f:α->H1 Qu)(pf:∀p,aZ (f p)=true)(ht:P.underlying t=some (.slice e))(hk:P.cellsOf e=k)(k0:0<k){fuel:Nat}{cs:H1 Qu}{x:DataW H×H1 MemPlace}
 (each:∀fuel cs x,DataW.trod enc P w base spare held fuel e cs=some x->∃p:α,bD (λb i=>fJ w b i) (f p) cs) (h:DataW.trod enc P w base spare held fuel t cs=some x):
 ∃(l:H1 α)(v:Qu),cs=[v]/\aK (λb i=>fJ w b i) (aA f l) v/\l.length<=maxLen:=by
 rcases open_slice ht h with⟨rfl,_⟩|⟨a,len,cap,m,n,D,Pl,rfl,hb,hl,hm,hmm,hx,hi⟩
 ·exact⟨[],_,rfl,.fW,gU _⟩
 have hlm:len<=m:=by rw[hmm];split<;>omega
 have key:∀j,j<=len->∃(l:H1 α)(ys:H1 Qu),l.length=j/\bD (λb i=>fJ w b i) (l.flatMap f) ys/\ys.length=j*k/\∀q y,ys[q]? =some y->w.cell? (a.add q)=some y:=by
  intro j;induction j with
  |zero=>intro _;exact⟨[],[],rfl,.nil,by simp,λq y h=>by simp at h⟩
  |succ j ih=>
   intro hj;obtain⟨l,ys,e1,e2,e3,e4⟩:=ih (by omega);obtain⟨cs',hc,htr⟩:=hi j (by omega);obtain⟨p,hp⟩:=each _ _ _ htr;rw[hk] at hc;obtain⟨_,hcl,hat⟩:=World.cells?_some hc;refine⟨l++[p],ys++cs',by simp[e1],?_,by simp[e3,hcl,lW],λq y hq=>?_⟩
   ·rw[fo,dG,lH,dP];exact e2.join hp
   ·rcases gY q ys.length with hlt|hge
    ·rw[rQ hlt] at hq;exact e4 q y hq
    ·rw[uJ hge] at hq;have hql:=(mJ.1 hq).1;have:=hat (q -ys.length) (by omega);rw[hq] at this;rw[<-this,Go.Deep.add_add]
     congr 2
     omega
 obtain⟨l,ys,e1,e2,e3,e4⟩:=key len (aM _);refine⟨l,_,rfl,?_,by omega⟩;by_cases h0:len=0
 ·have:l=[]:=kC (by omega);subst this;subst h0;exact .fW
 ·obtain⟨y0,hy0⟩:∃y,ys[0]? =some y:=⟨_,cw (by rw[e3];exact Nat.mul_pos (by omega) k0)⟩;obtain⟨b,o,sp⟩:=a;have hs:sp=none:=by
   have:=aap (e4 0 y0 hy0);unfold Addr.add at this;first|exact this|(split at this<;>exact this)|simpa using this
  subst hs;subst e1;refine aK.row e2 (λi y hy=>aao ?_) rfl hl (Vr pf l);have:=e4 i y hy;rwa[Addr.add_lit] at this
end
end
section
open Go.Shelf Go.RowKit Go.Lib Go.ChangeShapes Go.WideShapes Go.Deep
theorem QT:Tryz.prog.cellsOf 136=4:=by kernel_rfl
theorem ve:Tryz.prog.cellsOf 3=1:=by kernel_rfl
theorem aat:Tryz.prog.cellsOf 5=1:=by kernel_rfl
theorem aau:Tryz.prog.cellsOf 134=3:=by kernel_rfl
theorem Ai:Tryz.prog.cellsOf 26=1:=by kernel_rfl
theorem xv:Tryz.prog.cellsOf 25=1:=by kernel_rfl
theorem aar:Tryz.prog.cellsOf 28=8:=by kernel_rfl
theorem QS:Tryz.prog.cellsOf 30=14:=by kernel_rfl
theorem aas:Tryz.prog.cellsOf 22=1:=by kernel_rfl
theorem aaq:Tryz.prog.cellsOf 24=1:=by kernel_rfl
section
variable{H:Type} {enc:TypeId×Qu->H} {w:Hx} {base:Nat} {spare:Nat->Bool} {held:Bool}
theorem jI{t:TypeId}{fs:Array Field}{fuel:Nat}{cs:H1 Qu}{x:DataW H×H1 MemPlace}(ht:Tryz.prog.underlying t=some (.struct fs))(h:DataW.trod enc Tryz.prog w base spare held fuel t cs=some x)(i:Nat)(f:Field)(hf:fs[i]? =some f){k:Nat}(hk:Tryz.prog.cellsOf f.type=k):
 ∃n y,DataW.trod enc Tryz.prog w base spare held n f.type ((cs.drop f.offset).take k)=some y:=by
 obtain⟨xs,n,_,_,_,hl,hat⟩:=DataW.trod_struct ht h;have hi:i<fs.size:=(fw.1 hf).1;subst hk;exact⟨n,_,(hat i f hf).trans (cw (by omega))⟩
theorem lenOf{t:TypeId}{fs:Array Field}{fuel:Nat}{cs:H1 Qu}{x:DataW H×H1 MemPlace}(ht:Tryz.prog.underlying t=some (.struct fs))(h:DataW.trod enc Tryz.prog w base spare held fuel t cs=some x){k:Nat}(hk:Tryz.prog.cellsOf t=k):cs.length=k:=by obtain⟨_,_,_,_,hl,_⟩:=DataW.trod_struct ht h;rw[hl,hk]
theorem vY{fuel:Nat}{cs:H1 Qu}{x:DataW H×H1 MemPlace}(h:DataW.trod enc Tryz.prog w base spare held fuel 3 cs=some x):∃n,cs=[.int .i64 n]:=by obtain⟨n,e,_⟩:=DataW.trod_int Tryz.underlying3 h;exact⟨n,e⟩
theorem aid{fuel:Nat}{cs:H1 Qu}{x:DataW H×H1 MemPlace}(h:DataW.trod enc Tryz.prog w base spare held fuel 5 cs=some x):∃b:UInt8,bD (λb i=>fJ w b i) (pC b) cs:=by
 obtain⟨n,rfl,_,q⟩:=DataW.trod_int Tryz.underlying5 h;have hq:0<=n/\n<=255:=by unfold Lit.wf at q;rw[bt] at q;exact⟨ny q.1,ny q.2⟩
 refine⟨UInt8.ofNat n.toNat,?_⟩;have e:pC (UInt8.ofNat n.toNat)=[.int .u8 n]:=by
  unfold pC bh;have:((UInt8.ofNat n.toNat).toNat:Int)=n:=by rw[w7];omega
  rw[this]
 rw[e];exact .cons (.int _ _) .nil
theorem BD{fuel:Nat}{cs:H1 Qu}{x:DataW H×H1 MemPlace}(h:DataW.trod enc Tryz.prog w base spare held fuel 26 cs=some x):∃(l:H1 UInt8)(v:Qu),cs=[v]/\aK (λb i=>fJ w b i) (ah l) v/\l.length<=maxLen:=
 PY pC (λ_=>rfl) Tryz.underlying26 aat (by decide) (λ_ _ _ h=>aid h) h
theorem aif{fuel:Nat}{cs:H1 Qu}{x:DataW H×H1 MemPlace}(h:DataW.trod enc Tryz.prog w base spare held fuel 136 cs=some x):∃t:aN,bD (λb i=>fJ w b i) (cC t) cs:=by
 have hl:=lenOf Tryz.underlying136 h QT
 match cs,hl with
 |[a,b,c,d],_=>obtain⟨_,_,h0⟩:=jI Tryz.underlying136 h 0 _ rfl ve;obtain⟨_,_,h1⟩:=jI Tryz.underlying136 h 1 _ rfl aau;obtain⟨_,_,h2⟩:=jI Tryz.underlying134 h1 0 _ rfl ve;obtain⟨_,_,h3⟩:=jI Tryz.underlying134 h1 1 _ rfl ve;obtain⟨_,_,h4⟩:=jI Tryz.underlying134 h1 2 _ rfl Ai;obtain⟨n0,e0⟩:=vY h0;obtain⟨n1,e1⟩:=vY h2;obtain⟨n2,e2⟩:=vY h3;obtain⟨l,v,e3,L,_⟩:=BD h4;have e0:[a]=[.int .i64 n0]:=e0;have e1:[b]=[.int .i64 n1]:=e1;have e2:[c]=[.int .i64 n2]:=e2;have e3:[d]=[v]:=e3;cases e0;cases e1;cases e2;cases e3;exact⟨⟨n0,n1,n2,l⟩,.cons (.int _ _) (.cons (.int _ _) (.cons (.int _ _) (.cons L .nil)))⟩
theorem ym{fuel:Nat}{cs:H1 Qu}{x:DataW H×H1 MemPlace}(h:DataW.trod enc Tryz.prog w base spare held fuel 25 cs=some x):∃(l:H1 aN)(v:Qu),cs=[v]/\aK (λb i=>fJ w b i) (au l) v/\l.length<=maxLen:=
 PY cC (λ_=>rfl) Tryz.underlying25 QT (by decide) (λ_ _ _ h=>aif h) h
def zR(p:aO):Prop:=∀l∈[p.aG.cu,p.aG.bG,p.aG.bN,p.aG.bm,p.aG.first,p.view],l.length<=maxLen
theorem aie{fuel:Nat}{cs:H1 Qu}{x:DataW H×H1 MemPlace}(h:DataW.trod enc Tryz.prog w base spare held fuel 30 cs=some x):∃p:{p:aO//zR p},bD (λb i=>fJ w b i) (cR p.1) cs:=by
 have hl:=lenOf Tryz.underlying30 h QS
 match cs,hl with
 |[a0,a1,a2,a3,a4,a5,a6,a7,a8,a9,a10,a11,a12,a13],_=>obtain⟨_,_,hE⟩:=jI Tryz.underlying30 h 0 _ rfl aar;obtain⟨_,_,h0⟩:=jI Tryz.underlying28 hE 0 _ rfl ve;obtain⟨_,_,h1⟩:=jI Tryz.underlying28 hE 1 _ rfl xv;obtain⟨_,_,h2⟩:=jI Tryz.underlying28 hE 2 _ rfl xv;obtain⟨_,_,h3⟩:=jI Tryz.underlying28 hE 3 _ rfl xv;obtain⟨_,_,h4⟩:=jI Tryz.underlying28 hE 4 _ rfl xv;obtain⟨_,_,h5⟩:=jI Tryz.underlying28 hE 5 _ rfl xv;obtain⟨_,_,h6⟩:=jI Tryz.underlying28 hE 6 _ rfl Ai;obtain⟨_,_,h7⟩:=jI Tryz.underlying28 hE 7 _ rfl Ai;obtain⟨_,_,h8⟩:=jI Tryz.underlying30 h 1 _ rfl Ai;obtain⟨_,_,h9⟩:=jI Tryz.underlying30 h 2 _ rfl Ai;obtain⟨_,_,h10⟩:=jI Tryz.underlying30 h 3 _ rfl ve;obtain⟨_,_,h11⟩:=jI Tryz.underlying30 h 4 _ rfl ve;obtain⟨_,_,h12⟩:=jI Tryz.underlying30 h 5 _ rfl ve;obtain⟨_,_,h13⟩:=jI Tryz.underlying30 h 6 _ rfl xv;obtain⟨n0,e0⟩:=vY h0;obtain⟨l1,v1,e1,L1,m1⟩:=ym h1;obtain⟨l2,v2,e2,L2,m2⟩:=ym h2;obtain⟨l3,v3,e3,L3,m3⟩:=ym h3;obtain⟨l4,v4,e4,L4,m4⟩:=ym h4;obtain⟨l5,v5,e5,L5,m5⟩:=ym h5;obtain⟨l6,v6,e6,L6,_⟩:=BD h6;obtain⟨l7,v7,e7,L7,_⟩:=BD h7;obtain⟨l8,v8,e8,L8,_⟩:=BD h8;obtain⟨l9,v9,e9,L9,_⟩:=BD h9;obtain⟨n10,e10⟩:=vY h10;obtain⟨n11,e11⟩:=vY h11;obtain⟨n12,e12⟩:=vY h12;obtain⟨l13,v13,e13,L13,m13⟩:=ym h13;have e0:[a0]=[.int .i64 n0]:=e0;have e1:[a1]=[v1]:=e1;have e2:[a2]=[v2]:=e2;have e3:[a3]=[v3]:=e3;have e4:[a4]=[v4]:=e4;have e5:[a5]=[v5]:=e5;have e6:[a6]=[v6]:=e6;have e7:[a7]=[v7]:=e7;have e8:[a8]=[v8]:=e8;have e9:[a9]=[v9]:=e9;have e10:[a10]=[.int .i64 n10]:=e10;have e11:[a11]=[.int .i64 n11]:=e11;have e12:[a12]=[.int .i64 n12]:=e12;have e13:[a13]=[v13]:=e13;cases e0;cases e1;cases e2;cases e3;cases e4;cases e5;cases e6;cases e7;cases e8;cases e9;cases e10;cases e11;cases e12;cases e13;refine⟨⟨⟨⟨n0,l1,l2,l3,l4,l5,l6,l7⟩,l8,l9,n10,n11,n12,l13⟩,λl hl=>?_⟩,.cons (.int _ _) (.cons L1 (.cons L2 (.cons L3 (.cons L4 (.cons L5 (.cons L6 (.cons L7 (.cons L8 (.cons L9 (.cons (.int _ _) (.cons (.int _ _) (.cons (.int _ _) (.cons L13 .nil)))))))))))))⟩;simp only[cX,nu,nA] at hl;rcases hl with rfl|rfl|rfl|rfl|rfl|rfl<;>assumption
theorem WH{fuel:Nat}{cs:H1 Qu}{x:DataW H×H1 MemPlace}(h:DataW.trod enc Tryz.prog w base spare held fuel 24 cs=some x):∃(ms:H1 aO)(v:Qu),cs=[v]/\aK (λb i=>fJ w b i) (cI ms) v/\ms.length<=maxLen/\∀p∈ms,zR p:=by
 have hl:=lenOf Tryz.underlying24 h aaq
 match cs,hl with
 |[a],_=>
  obtain⟨_,_,h0⟩:=jI Tryz.underlying24 h 0 _ rfl aas;obtain⟨l,v,e,L,hm⟩:=PY (λp:{p:aO//zR p}=>cR p.1) (λ_=>rfl) Tryz.underlying22 QS (by decide) (λ_ _ _ h=>aie h) h0;have e:[a]=[v]:=e;cases e;refine⟨l.map (·.1),a,rfl,?_,by simpa using hm,λp hp=>?_⟩
  ·have:cI (l.map (·.1))=aA (λp:{p:aO//zR p}=>cR p.1) l:=by
    unfold cI aA;rw[cH,List.flatMap_map]
   rw[this];exact L
  ·obtain⟨q,_,rfl⟩:=mK.1 hp;exact q.2
end
end
def dE(ms:H1 aO)(i:Nat):Nat:=(fj (fO (aL ms i).p (aL ms i).b) (aL ms i).aT).length
def dF(ms:H1 aO):Nat->Nat
 |0=>0
 |i+1=>dF ms i+dE ms i
def kJ(ms:H1 aO):Nat:=(aL ms 0).aT.length+14
def ri(ms:H1 aO)(i:Nat):cS:=⟨(aL ms i).p.attr,dE ms i,if i=0 then 0 else(dF ms i:Int) -kJ ms,(aL ms i).p.ee,(aL ms i).p.ef⟩
def gX(ms:H1 aO):H1 cS:=(List.range ms.length).map (ri ms)
def eV(ms:H1 aO)(i:Nat):H1 UInt8:=if i=0/\1<ms.length then Fa (iU (aL ms 0).p.aG.order (gX ms) (aL ms 0).p.view) else(aL ms i).b
def dc(ms:H1 aO)(i:Nat):H1 UInt8:=fj (fO (aL ms i).p (eV ms i)) (aL ms i).aT
def bV(ms:H1 aO):H1 (H1 UInt8):=(List.range ms.length).map (dc ms)
theorem nY(ms:H1 aO):(gX ms).length=ms.length:=by unfold gX;rw[cH,List.length_range]
theorem lu(ms:H1 aO):(bV ms).length=ms.length:=by unfold bV;rw[cH,List.length_range]
theorem dX.at_{ms:H1 aO}(F:dX ms){i:Nat}(hi:i<ms.length):(aL ms i).p=ms[i]/\iA ms i=.ok (aL ms i).b/\iQ ms[i].aG=.ok (aL ms i).aT/\nJ ms[i].core=true:=by obtain⟨b,aT,k1,k2,k3,k4⟩:=F.SH hi;rw[k4];exact⟨rfl,k1,k2,k3⟩
theorem mm{ms:H1 aO}(F:dX ms){i:Nat}(hi:i<ms.length):1<=dE ms i/\dE ms i<=3000000:=by obtain⟨h1,h2,h3,h4⟩:=F.at_ hi;have h6:=F.le;unfold dE;rw[h1];exact⟨SG _ _,SI hi h2 F.mem (by omega) h3 h4⟩
theorem PM{ms:H1 aO}(F:dX ms):∀i,i<=ms.length->dF ms i<=3000000*i
 |0,_=>aM _
 |i+1,h=>by have:=PM F i (by omega);have:=(mm F (i:=i) (by omega)).2;unfold dF;omega
theorem CY(ms:H1 aO):∀{i j:Nat},i<=j->dF ms i<=dF ms j
 |i,0,h=>by rw[Nat.le_zero.1 h];exact aM _
 |i,j+1,h=>by
  rcases gY i (j+1) with q|q
  ·have:=CY ms (show i<=j by omega);show dF ms i<=dF ms j+dE ms j;omega
  ·rw[show i=j+1 by omega];exact aM _
theorem JH{x:oA}{aT:H1 UInt8}:aT.length+x.cO.length+6<=(fj x aT).length:=by
 unfold fj jK;rw[mH,mH];have a1:(dt ⟨216,[],[]⟩).length=2:=rfl;have a2:(dt ⟨225,aT,[]⟩).length=aT.length+4:=by rw[show dt ⟨225,aT,[]⟩=[255,UInt8.ofNat (225:Int).toNat,UInt8.ofNat ((aT.length+2)/256),UInt8.ofNat ((aT.length+2)%256)]++aT++[] from rfl];simp only[aP,cc,List.length_nil];omega
 rw[aP,aP,a1,a2];split
 ·rename_i h;omega
 ·rw[List.singleton_append,mH,aP];have a3:(dt ⟨226,x.cO,[]⟩).length=x.cO.length+4:=by
   rw[show dt ⟨226,x.cO,[]⟩=[255,UInt8.ofNat (226:Int).toNat,UInt8.ofNat ((x.cO.length+2)/256),UInt8.ofNat ((x.cO.length+2)%256)]++x.cO++[] from rfl];simp only[aP,cc,List.length_nil];omega
  omega
theorem Fs{ms:H1 aO}(F:dX ms)(h2:1<ms.length):
 ∃b,iU (aL ms 0).p.aG.order (gX ms) (aL ms 0).p.view=.ok b/\b.length=(aL ms 0).b.length/\eV ms 0=b/\14<b.length:=by
 obtain⟨h1,k1,k2,k3⟩:=F.at_ (i:=0) (by omega);have h6:=F.le;unfold iA at k1;rw[cw (by omega:0<ms.length)] at k1;simp only[ea] at k1;rw[ay h2] at k1;rw[h1];have hpl:(gW ms).length=ms.length:=by unfold gW;rw[cH]
 have hwl:=nY ms;have hn:2<=ms.length/\16*ms.length<=65536:=by omega
 obtain⟨N,hN⟩:=ab4 ms[0].aG.order hn ms[0].view;obtain⟨A,B,hAB⟩:=aca ms[0].aG.order hn ms[0].view;have hhead:kJ ms<=dE ms 0:=by
  unfold kJ dE;have:=JH (x:=fO (aL ms 0).p (aL ms 0).b) (aT:=(aL ms 0).aT);have e:(fO (aL ms 0).p (aL ms 0).b).cO=(aL ms 0).b:=rfl;rw[e] at this;obtain⟨e1,_⟩:=SL k1;have e2:(aL ms 0).b.length=4+(eM (dM ms[0].aG.order (gW ms) ms[0].view) gB).length:=by rw[e1,aP];rfl
  have e3:8<=(eM (dM ms[0].aG.order (gW ms) ms[0].view) gB).length:=by unfold eM;simp only[aP,eL];split<;>(simp;omega)
  omega
 have hall:(gX ms).all kL=true:=by
  rw[iE];intro p hp;unfold gX at hp;obtain⟨i,hi,rfl⟩:=mK.1 hp;have hi:=List.mem_range.1 hi;obtain⟨g1,g2,g3,g4⟩:=F.at_ hi;have:=oJ (F.qn _ (cx hi));have bp:=this.2.2.1;unfold oE at bp;simp at bp;have l1:=mm F hi;have s1:=PM F i (by omega);unfold kL ri;rw[g1];rw[cm];refine⟨bp.1,⟨by show 0<=(dE ms i:Int);omega,by show(dE ms i:Int)<_;omega⟩,?_,bp.2.1,bp.2.2⟩;show 0<=(if i=0 then(0:Int) else(dF ms i:Int) -kJ ms)/\(if i=0 then(0:Int) else(dF ms i:Int) -kJ ms)<4294967296;by_cases hi0:i=0
  ·rw[ay hi0];omega
  ·rw[aq hi0];have:=CY ms (show 1<=i by omega);have e:dF ms 1=dE ms 0:=by show dF ms 0+dE ms 0=_;show 0+dE ms 0=_;omega
   omega
 have hb:=k1;unfold iU at hb;split at hb
 ·cases hb
 split at hb
 ·cases hb
 split at hb
 ·cases hb
 split at hb
 ·cases hb
 split at hb
 ·cases hb
 rename_i q1 q2 q3 q4 q5;rw[hN _ hpl] at q5;injection hb with hb;refine⟨gG++eM (dM ms[0].aG.order (gX ms) ms[0].view) gB,?_,?_,?_,?_⟩
 ·unfold iU;rw[aq (by rw[hwl];rw[hpl] at q1;exact q1),aq (by rw[hall];decide),aq q3,aq (by rw[hwl];omega),aq (by rw[hN _ hwl];exact q5)]
 ·rw[<-hb,hAB _ hwl,hAB _ hpl];simp only[aP,rj,hwl,hpl]
 ·unfold eV;rw[ay ⟨rfl,h2⟩,h1];unfold iU;rw[aq (by rw[hwl];rw[hpl] at q1;exact q1),aq (by rw[hall];decide),aq q3,aq (by rw[hwl];omega),aq (by rw[hN _ hwl];exact q5)];rfl
 ·rw[hAB _ hwl];simp only[aP,rj,hwl];have:gG.length=4:=rfl;omega
def lL(L:H1 Int)(i:Nat):Int:=(L.take i).sum
def oY(L:H1 Int):H1 Int:=(List.range (L.length+1)).map (lL L)
theorem Dy{L:H1 Int}{i:Nat}(h:i<L.length):lL L (i+1)=lL L i+L[i]:=by unfold lL;rw[im h,List.sum_append];simp
theorem al3(L:H1 Int):(oY L).length=L.length+1:=by unfold oY;rw[cH,List.length_range]
theorem al2(L:H1 Int){i:Nat}(h:i<(oY L).length):(oY L)[i]=lL L i:=by simp[oY]
theorem Js{L:H1 Int}(hL:∀n∈L,1<=n/\n<=3000000):∀i,i<=L.length->(i:Int)<=lL L i/\lL L i<=3000000*i
 |0,_=>by unfold lL;simp
 |i+1,h=>by have:=Js hL i (by omega);have:=hL _ (cx (show i<L.length by omega));rw[Dy (by omega)];omega
theorem AL(L:H1 Int):L.flatMap cF=bI L:=by
 unfold bI;induction L with
 |nil=>rfl
 |cons a l ih=>rw[dG,ij,ih];rfl
theorem akD{w:Nat}(L:H1 Int)(hL:∀n∈L,1<=n/\n<=3000000)(hl:L.length<=1000)(hw:2000<w):Hp w (aA cF L) [Value.int .i64 0]=some (-1,bI (oY L)):=by
 unfold Hp;rw[bU];refine gV (ev:=λi (g:Qu->Int->Int->H1 Qu->Zh (Int×H1 Qu))=>g (aA cF L) L.length i (bI ((List.range (i+1)).map (lL L)))) L.length ?_ ?_ (by omega)
 ·intro i g hi;have e1:((i:Int)<(L.length:Int)):=by omega
  have hn:=hL _ (cx hi);have ha:=Js hL i (by omega);simp only[aU,e1,bd,aC,bH];rw[bu mg hi,show cF L[i]++(L.drop (i+1)).flatMap cF=.int .i64 L[i]::(L.drop (i+1)).flatMap cF from rfl];simp only[bc,bK];rw[List.range_succ,fY,ij,List.map_nil,OH _ _ _ ⟨hn.1,by omega⟩ ⟨by omega,by omega⟩ (by simp;omega)];simp only[aB,aD,cf];rw[aQ (by omega) (by omega),List.range_succ,fY,ij,List.map_nil,List.range_succ,fY,ij,List.map_nil,Dy hi];rfl
 ·intro g;have e1:¬((L.length:Int)<(L.length:Int)):=by omega
  simp only[aU,e1,bM,aD];rfl
theorem Ya{w:Nat}(L:H1 Int)(hL:∀n∈L,1<=n/\n<=3000000)(hl:L.length<=1000)(hw:2000<w):GY w (aA cF L)=some (aA cF (oY L),true):=by unfold GY OG;rw[akD L hL hl hw];simp only[aB,aA,AL];rw[show(bI (oY L)).length=(oY L).length by unfold bI;rw[cH],kG];rfl
theorem ajG(w:Nat)(P:H1 cS)(h0:0<P.length)(hl:P.length<=1000):GG w (dU P)=some (P.flatMap fC):=by
 unfold GG dU;rw[bU,vw nX];have hn:=nextslicecap_le (need:=0+P.length) (old:=0) (by omega);have e4:(Builtin.nextslicecap (0+P.length) 0).ble 5000000000=true:=by rw[iq];omega
 have e5:(P.flatMap fC).length.beq (P.length*5)=true:=by rw[cy nX];exact nv _
 have e6:Nat.blt 0 P.length=true:=by simp;omega
 have e7:(0+P.length).ble 0=false:=by
  cases h:P.length with
  |zero=>omega
  |succ n=>rw[fI];rfl
 have e8:aF P.length=true:=by simp;omega
 rw[e6,e5,e7,e8,e4];rfl
def qz(L:H1 Int)(h:Int)(P:H1 cS):H1 cS:=(List.range P.length).map λi=>⟨(P[i]?.getD ⟨0,0,0,0,0⟩).attr,L[i]?.getD 0,if i=0 then 0 else lL L i -h,(P[i]?.getD ⟨0,0,0,0,0⟩).ee,(P[i]?.getD ⟨0,0,0,0,0⟩).ef⟩
theorem V3(A B vs:H1 Qu)(k:Nat):aX (A.length+k) vs (A++B)=A++aX k vs B:=by
 induction vs generalizing k B with
 |nil=>rfl
 |cons v vs ih=>rw[aX,aX,show A.length+k+1=A.length+(k+1) by omega,List.set_append_right (A.length+k) v (by omega),show A.length+k -A.length=k by omega,ih]
theorem Mt(L:H1 Int)(h:Int)(P:H1 cS):(qz L h P).length=P.length:=by simp[qz]
theorem VO(L:H1 Int)(h:Int)(P:H1 cS){i:Nat}(hi:i<P.length)(hL:i<L.length)(q:i<(qz L h P).length):(qz L h P)[i]=⟨P[i].attr,L[i],if i=0 then 0 else lL L i -h,P[i].ee,P[i].ef⟩:=by simp[qz,hi,hL]
set_option maxHeartbeats 1000000 in
theorem ajw{w:Nat}(L:H1 Int)(hL:∀n∈L,1<=n/\n<=3000000)(hl:L.length<=1000)(hw:2000<w)(h:Int)(hh:0<=h/\h<=lL L 1)(P:H1 cS)(hP:P.length=L.length)(h0:0<P.length):
 wm w (aA cF L) h (dU P)=some (dU (qz L h P),true):=by
 unfold wm;rw[Ya L hL hl hw,ajG w P h0 (by omega)];simp only[aB,bW,aD];rw[show dU P=aA fC P from rfl,bU,bU,hP];have e0:ak h 0=false:=by rw[aU,gQ];omega
 rw[show aj (Int.ofNat L.length) (Int.ofNat L.length)=true by rw[bY,cm],bW,aD,e0,aD,cy nX,ir _ (by decide)];have hmono:∀i,1<=i->i<=L.length->lL L 1<=lL L i:=by
  intro i h1;induction i with
  |zero=>omega
  |succ i ih=>
   intro h2;rcases Nat.eq_zero_or_pos i with rfl|q
   ·exact Int.le_refl _
   ·have:=ih q (by omega);have:=hL _ (cx (show i<L.length by omega));rw[Dy (i:=i) (by omega)];omega
 refine gV (ev:=λi (g:Qu->Int->Qu->Int->Int->H1 Qu->Zh (Qu×Bool))=>g (aA cF L) h (aA cF (oY L)) P.length i (((qz L h P).take i++P.drop i).flatMap fC)) P.length ?_ ?_ (by omega)
 ·intro i g hi;have e1:((i:Int)<(P.length:Int)):=by omega
  have hiL:i<L.length:=by omega
  have hiS:i<(oY L).length:=by rw[al3];omega
  have hiQ:i<(qz L h P).length:=by rw[Mt];exact hi
  have hn:=hL _ (cx hiL);have ha:=Js hL i (by omega);have tg:∀(p:cS)(r:H1 Qu),fC p++r=.int .i64 p.attr::.int .i64 p.size::.int .i64 p.at_::.int .i64 p.ee::.int .i64 p.ef::r:=λ_ _=>rfl;rw[fo,cW hi,dG,tg,im hiQ,ed,fo,fo,dG,lH,dP,tg,VO L h P hi hiL hiQ];have hA:(((qz L h P).take i).flatMap fC).length=i*5:=by rw[cy nX,dk];congr 1;omega
  generalize((qz L h P).take i).flatMap fC=A at hA⊢;generalize(P.drop (i+1)).flatMap fC=B;have put1:∀(a s t v:Qu)(B:H1 Qu),aX (0+i*5+1) [v] (A++(a::s::t::B))=A++(a::v::t::B):=λa s t v B=>by rw[show 0+i*5+1=A.length+1 by omega,V3];rfl
  have vX:∀(a s t v:Qu)(B:H1 Qu),aX (0+i*5+2) [v] (A++(a::s::t::B))=A++(a::s::v::B):=λa s t v B=>by rw[show 0+i*5+2=A.length+2 by omega,V3];rfl
  have dr2:∀(a s t:Qu)(B:H1 Qu),List.drop (0+i*5+2) (A++(a::s::t::B))=t::B:=λa s t B=>by rw[show 0+i*5+2=A.length+2 by omega,List.drop_append];simp
  have b1:∀(a s t d e:Qu),(i*5).blt (A++(a::s::t::d::e::B)).length=true:=λa s t d e=>by simp;omega
  have b2:∀(a s t d e:Qu)(k:Nat),k<=5->(0+i*5+k).ble (A++(a::s::t::d::e::B)).length=true:=λa s t d e k hk=>by simp;omega
  have c1:∀z:Int,(SV.i IntKind.i64 z).cells.length.beq 1=true:=λ_=>rfl;simp only[aU,e1,bd,aC,bH];rw[bu mg hiL,show cF L[i]++(L.drop (i+1)).flatMap cF=.int .i64 L[i]::(L.drop (i+1)).flatMap cF from rfl];simp only[bc,bK];rw[b1,show Nat.beq 5 5=true from rfl,eY,aC,c1,eY,show 0+i*5+1+1=0+i*5+2 from rfl,b2 _ _ _ _ _ 2 (by omega),aC,put1,b1,eY,aC,show Nat.beq 1 1=true from rfl,eY,show 0+i*5+2+1=0+i*5+3 from rfl,b2 _ _ _ _ _ 3 (by omega),aC,vX];by_cases h1:i=0
  ·subst h1;rw[show decide ((0:Int)<((0:Nat):Int))=false from rfl,aD,b1,eY,aC,dr2];simp only[bc,bK];rw[cf,aQ (by omega) (by omega)];rfl
  ·have e2:((0:Int)<(i:Int)):=by omega
   have hm:=hmono i (by omega) (by omega);rw[dZ e2,aC,bu mg hiS,show∀r,cF (oY L)[i]++r=.int .i64 (oY L)[i]::r fromλ_=>rfl,al2];simp only[bc,bK];rw[b1,eY,aC,jh,aQ (by omega) (by omega),c1,eY,show 0+i*5+2+1=0+i*5+3 from rfl,b2 _ _ _ _ _ 3 (by omega),aC,vX,b1,eY,aC,dr2];simp only[bc,bK];have e3:¬(lL L i -h<0):=by omega
   rw[eB e3,aD,cf,aQ (by omega) (by omega),aq h1];rfl
 ·intro g;have e1:¬((P.length:Int)<(P.length:Int)):=by omega
  simp only[aU,e1,bM,aD];rw[rO (aM _),dP,eQ (by rw[Mt];exact aM _),cy nX,ir _ (by decide)];rfl
theorem KT{w:Nat}(W:cZ w){o:Int}(ho:o=1\/o=2){l:H1 cS}(h2:2<=l.length)(hl:l.length<=600){view:H1 aN}(hv:VS view)(hr:da 5 view=true):(fD (dM o l view)).length<100000000:=by
 have T:=SP W ho h2 hl hv hr;have h:=CT (dM o l view).dO 0 8 T.hd;have hc:gZ (dM o l view).dO<=2:=by unfold dM fA;simp only;split<;>simp[gZ,dL,iu]
 have h2:gZ (dM o l view).dO*(10000+2)<=2*(10000+2):=wZ _ hc;have h3:(fD (dM o l view)).length=(jA 0 8 (dM o l view).dO).length+1:=rfl;omega
def lN(x:rS×H1 UInt8):H1 Qu:=[.int .i64 x.1.p.aG.order,au x.1.p.aG.cu,au x.1.p.aG.bG,au x.1.p.aG.bN,au x.1.p.aG.bm,au x.1.p.aG.first,ah x.1.p.aG.bF,ah x.1.p.aG.cP,ah x.1.p.cg,ah x.1.p.core,ah x.2,.int .i64 (jF x.1.aT x.1.b),.int .i64 ((fj (fO x.1.p x.1.b) x.1.aT).length:Int)]
theorem Su(x:rS×H1 UInt8):(lN x).length=13:=rfl
def iT(ms:H1 aO):H1 (rS×H1 UInt8):=(List.range ms.length).map λi=>(aL ms i,eV ms i)
theorem abY(ms:H1 aO):(iT ms).length=ms.length:=by unfold iT;rw[cH,List.length_range]
theorem KS(ms:H1 aO):(fU ms).length=ms.length:=by unfold fU;rw[cH,List.length_range]
theorem KR(ms:H1 aO){i:Nat}(h:i<(fU ms).length):(fU ms)[i]=aL ms i:=by simp[fU]
theorem abX(ms:H1 aO){i:Nat}(h:i<(iT ms).length):(iT ms)[i]=(aL ms i,eV ms i):=by simp[iT]
def kK(ms:H1 aO):H1 Int:=(List.range ms.length).map λi=>(dE ms i:Int)
theorem Lg(ms:H1 aO):(kK ms).length=ms.length:=by unfold kK;rw[cH,List.length_range]
theorem K9(ms:H1 aO){i:Nat}(h:i<(kK ms).length):(kK ms)[i]=dE ms i:=by simp[kK]
theorem Jt(ms:H1 aO):∀i,i<=ms.length->lL (kK ms) i=(dF ms i:Int)
 |0,_=>rfl
 |i+1,h=>by
  have hi:i<(kK ms).length:=by rw[Lg];omega
  rw[Dy hi,Jt ms i (by omega),K9];show _=((dF ms i+dE ms i:Nat):Int);omega
theorem akd{w:Nat}(W:cZ w)(hw:1000000<w){ms:H1 aO}(F:dX ms)(hc:ga ms=0):G3 w (cI ms)=some ((fU ms).flatMap iv):=by
 have hlr:∀K:Nat->Zh (H1 Qu),ar (cI ms) K=K ms.length:=λK=>bU cR ms K;have h6:=F.le;have hm:=F.mem;unfold G3;rw[Oj W hw hm (by omega) (by omega)];simp only[aB,bY];rw[dZ hc,bW,aD,hlr];have hil:=KS ms;refine gV (ev:=λi (g:Int->Int->Qu->H1 Qu->Zh (H1 Qu))=>g ms.length i (cI ms) (((fU ms).take i).flatMap iv)) ms.length ?_ ?_ (by omega)
 ·intro i g hi;obtain⟨b,aT,k1,k2,k3,k4⟩:=F.SH hi;have e1:((i:Int)<(ms.length:Int)):=by omega
  have hiI:i<(fU ms).length:=by omega
  have hget:(fU ms)[i]=⟨ms[i],b,aT⟩:=by rw[KR];exact k4
  simp only[aU,e1,bd,aC];rw[YL W hw hi k1 hm (by omega) k2 k3];have hr1:aF (((fU ms).take i).flatMap iv).length=true:=by rw[cy xM];simp;omega
  rw[aB,hr1,cf,aQ (by omega) (by omega),im hiI,fo,hget];rfl
 ·intro g;have e1:¬((ms.length:Int)<(ms.length:Int)):=by omega
  simp only[aU,e1,bM,aD];rw[eQ (by omega)]
theorem ajF{w:Nat}(hw:1000000<w)(ms:H1 aO)(h6:ms.length<=6):GF w ((fU ms).flatMap iv)=some ((fU ms).flatMap iv,bI (kK ms)):=by
 unfold GF;have hil:=KS ms;have hll:=Lg ms;rw[cy xM,ir _ (by decide)];refine gV (ev:=λi (g:Int->Int->H1 Qu->H1 Qu->Zh (H1 Qu×H1 Qu))=>g (fU ms).length i ((fU ms).flatMap iv) (bI ((kK ms).take i))) ms.length ?_ ?_ (by omega)
 ·intro i g hi;have e1:((i:Int)<((fU ms).length:Int)):=by omega
  have hiI:i<(fU ms).length:=by omega
  have hiL:i<(kK ms).length:=by omega
  have hlt:(i*13).blt ((fU ms).flatMap iv).length=true:=by rw[cy xM];simp;omega
  have og:∀(y:rS)(r:H1 Qu),iv y++r=.int .i64 y.p.aG.order::au y.p.aG.cu::au y.p.aG.bG::au y.p.aG.bN::au y.p.aG.bm::au y.p.aG.first::ah y.p.aG.bF::ah y.p.aG.cP::ah y.p.cg::ah y.p.core::ah y.b::.int .i64 (jF y.aT y.b)::.int .i64 ((fj (fO y.p y.b) y.aT).length:Int)::r:=λ_ _=>rfl;simp only[aU,e1,bd,aC,bH];rw[show Nat.beq 13 13=true from rfl,eY,hlt,aC,fI,mT xM,cW hiI,dG,og];simp only[bc,bK];have hr:aF (bI ((kK ms).take i)).length=true:=by unfold bI;simp;omega
  rw[show∀a b c d e f g h i j k l m,N6 w a b c d e f g h i j k l m=some m fromλ_ _ _ _ _ _ _ _ _ _ _ _ _=>rfl,aB,hr,KR,cf,aQ (by omega) (by omega),im hiL,K9,show(i:Int)+1=((i+1:Nat):Int) by omega];rw[show∀z:Qu,(true&&(aF ([z].length/1)&&[z].length.beq ([z].length/1*1)))=true fromλz=>by simp,aC];unfold bI dE;rw[fY];rfl
 ·intro g;have e1:¬((ms.length:Int)<((fU ms).length:Int)):=by omega
  simp only[aU,e1,bM,aD];rw[eQ (by omega)]
def Jw(ms:H1 aO):(Int×Int×Qu×Qu×H1 Qu)⊕(Qu×Int):=
 if ga ms=0 then .inl (if ms.length=1 then(0,0,ae 0 [],ae 0 [],(iT ms).flatMap lN) else(0,(aL ms 0).p.aG.order,dU (gX ms),au (aL ms 0).p.view,(iT ms).flatMap lN)) else .inr (.pointer none,ga ms)
theorem abZ{ms:H1 aO}(h:ms.length=1):(fU ms).flatMap iv=(iT ms).flatMap lN:=by
 unfold fU iT;rw[h];have:eV ms 0=(aL ms 0).b:=by unfold eV;rw[aq (by omega)]
 show iv (aL ms 0)++[]=lN (aL ms 0,eV ms 0)++[];rw[this];rfl
theorem ab0{ms:H1 aO}(h:1<ms.length):aX 10 [ah (eV ms 0)] ((fU ms).flatMap iv)=(iT ms).flatMap lN:=by
 obtain⟨n,hn⟩:∃n,ms.length=n+1:=⟨ms.length -1,by omega⟩;unfold fU iT;rw[hn,uM,ij,ij,dG,dG];have e:((List.range n).map Nat.succ).map (aL ms)=((List.range n).map Nat.succ).map (aL ms):=rfl;have k:∀l:H1 Nat,((l.map Nat.succ).map (aL ms)).flatMap iv=((l.map Nat.succ).map λi=>(aL ms i,eV ms i)).flatMap lN:=by
  intro l;induction l with
  |nil=>rfl
  |cons a l ih=>
   rw[ij,ij,ij,dG,dG,ih];have:eV ms (Nat.succ a)=(aL ms (Nat.succ a)).b:=by unfold eV;rw[aq (λq=>Nat.succ_ne_zero a q.1)]
   rw[this];rfl
 rw[k];rfl
theorem ajt{w:Nat}(W:cZ w)(hw:1000000<w){ms:H1 aO}(hm:∀p∈ms,eJ p)(hl:ms.length<=6\/1000<ms.length)(hl2:ms.length<=2000):Gw w (cI ms)=some (Jw ms):=by
 unfold Gw Jw;rw[Oj W hw hm (by omega) hl2];simp only[aB,bY];by_cases hc:ga ms=0
 case neg=>rw[aq hc,eB hc];rfl
 obtain⟨F,h1⟩:=AD hm hl hc;have h6:=F.le;have hil:=KS ms;rw[ay hc,dZ hc,bW,aD,akd W hw F hc];simp only[aB];rw[show((fU ms).flatMap iv).length/13=ms.length by rw[cy xM,ir _ (by decide),hil]];by_cases hn:ms.length=1
 ·rw[ay hn,abZ hn,hn];rfl
 have h2:1<ms.length:=by omega
 have e2:¬((Int.ofNat ms.length:Int)=1):=by show¬((ms.length:Int)=1);omega
 rw[aq hn,eB e2,aD];obtain⟨g1,k1,k2,k3⟩:=F.at_ (i:=0) (by omega);have hmp:=hm _ (cx (show 0<ms.length by omega));have gd:=oJ (F.qn _ (cx (show 0<ms.length by omega)));have ho:=Eg gd.1;have hr:da 5 ms[0].view=true:=by have:=gd.2.2.2;unfold mP at this;simpa using this
 have hpl:(gW ms).length=ms.length:=by unfold gW;rw[cH]
 have hix:iU ms[0].aG.order (gW ms) ms[0].view=.ok (aL ms 0).b:=by unfold iA at k1;rw[cw (by omega:0<ms.length)] at k1;simp only[ea] at k1;rw[ay h2] at k1;exact k1
 obtain⟨bw,j1,j2,j3,j4⟩:=Fs F h2;have h27:=O1 W (by omega) hix hmp.vs (KT W ho (by omega) (by omega) hmp.vs hr);have hcons:(fU ms).flatMap iv=iv (aL ms 0)++((fU ms).drop 1).flatMap iv:=by
  have hi0:0<(fU ms).length:=by omega
  have:=cW hi0;rw[er] at this;rw[<-KR ms hi0,<-dG,<-this]
 have hlen:((fU ms).flatMap iv).length=ms.length*13:=by rw[cy xM,hil]
 have hb0:Nat.blt 0 ((fU ms).flatMap iv).length=true:=by rw[hlen];simp;omega
 have hb11:Nat.ble 11 ((fU ms).flatMap iv).length=true:=by rw[hlen];simp;omega
 have d10:∀r:H1 Qu,List.drop 10 (iv (aL ms 0)++r)=ah (aL ms 0).b::.int .i64 (jF (aL ms 0).aT (aL ms 0).b)::.int .i64 ((fj (fO (aL ms 0).p (aL ms 0).b) (aL ms 0).aT).length:Int)::r:=λ_=>rfl;have d11:∀r:H1 Qu,List.drop 11 (iv (aL ms 0)++r)=.int .i64 (jF (aL ms 0).aT (aL ms 0).b)::.int .i64 ((fj (fO (aL ms 0).p (aL ms 0).b) (aL ms 0).aT).length:Int)::r:=λ_=>rfl;have t10:List.drop 10 ((fU ms).flatMap iv)=ah (aL ms 0).b::.int .i64 (jF (aL ms 0).aT (aL ms 0).b)::.int .i64 ((fj (fO (aL ms 0).p (aL ms 0).b) (aL ms 0).aT).length:Int)::((fU ms).drop 1).flatMap iv:=by rw[hcons,d10]
 have t11:List.drop 11 ((fU ms).flatMap iv)=.int .i64 (jF (aL ms 0).aT (aL ms 0).b)::.int .i64 ((fj (fO (aL ms 0).p (aL ms 0).b) (aL ms 0).aT).length:Int)::((fU ms).drop 1).flatMap iv:=by rw[hcons,d11]
 have hat:jF (aL ms 0).aT (aL ms 0).b=(((aL ms 0).aT.length+10:Nat):Int):=by unfold jF;rw[aq (by omega)]
 have l0:=mm F (i:=0) (by omega);have hcl:kJ ms<=dE ms 0:=by unfold kJ dE;have:=JH (x:=fO (aL ms 0).p (aL ms 0).b) (aT:=(aL ms 0).aT);have e:(fO (aL ms 0).p (aL ms 0).b).cO=(aL ms 0).b:=rfl;rw[e] at this;omega
 have hcam:(aL ms 0).aT.length+14<=3000000:=by have:=hcl;unfold kJ at this;omega
 have hLL:∀n∈kK ms,1<=n/\n<=3000000:=by intro n hn;unfold kK at hn;obtain⟨i,hi,rfl⟩:=mK.1 hn;have:=mm F (List.mem_range.1 hi);omega
 have hll:=Lg ms;have hat1:lL (kK ms) 1=dE ms 0:=by rw[Jt ms 1 (by omega)];show((dF ms 0+dE ms 0:Nat):Int)=_;show((0+dE ms 0:Nat):Int)=_;omega
 have h67:=ajw (w:=w) (kK ms) hLL (by omega) (by omega) (kJ ms:Int) ⟨by omega,by omega⟩ (gW ms) (by omega) (by omega);have hplw:qz (kK ms) (kJ ms:Int) (gW ms)=gX ms:=by
  refine List.ext_getElem (by rw[Mt,nY,hpl]) λi q1 q2=>?_;have hi:i<ms.length:=by rw[nY] at q2;exact q2
  rw[VO _ _ _ (by omega) (by omega),K9,Jt ms i (by omega)];have e1:∀q,(gW ms)[i]'q=⟨ms[i].attr,0,0,ms[i].ee,ms[i].ef⟩:=λq=>by simp only[gW,List.getElem_map]
  rw[e1];have e2:(gX ms)[i]=ri ms i:=by simp[gX]
  rw[e2];unfold ri;rw[(F.at_ hi).1]
 rw[hplw] at h67;have hrow:ae ((bI (kK ms)).length/1) (bI (kK ms))=aA cF (kK ms):=by unfold aA;rw[AL,kG];unfold bI;rw[cH]
 have h84:=YT W ms[0].aG.order (l:=gX ms) (by rw[nY];omega) hmp.vs;rw[show Nat.beq 13 13=true from rfl,eY,hb0,aC,t10];simp only[bc];rw[h27];simp only[aB];rw[ajF hw ms h6];simp only[aB];rw[eY,hb0,aC,t11];simp only[bc,bK];rw[hat,cf,aQ (by omega) (by omega),hrow,show(((aL ms 0).aT.length+10:Nat):Int)+4=(kJ ms:Int) by unfold kJ;omega,h67];simp only[aB];rw[h84,g1] at*;rw[j1];simp only[aB];rw[aC,hb11,kA];rw[<-j3,ab0 h2];rfl
theorem XH(d:H1 UInt8):(dt ⟨226,d,[]⟩).length=d.length+4:=by rw[show dt ⟨226,d,[]⟩=[255,UInt8.ofNat (226:Int).toNat,UInt8.ofNat ((d.length+2)/256),UInt8.ofNat ((d.length+2)%256)]++d++[] from rfl];simp
theorem nS{ms:H1 aO}(F:dX ms){i:Nat}(hi:i<ms.length):xe (fO ms[i] (eV ms i)) (aL ms i).aT/\(eV ms i).length<=65533/\(dc ms i).length=dE ms i:=by
 obtain⟨g1,k1,k2,k3⟩:=F.at_ hi;have h6:=F.le;have I:=KQ hi k1 F.mem (by omega) k2 k3;have hlen:(eV ms i).length=(aL ms i).b.length->(dc ms i).length=dE ms i:=λh=>by
  unfold dc dE fj;have:∀(x y:oA)(aT:H1 UInt8),x.cg=y.cg->x.core=y.core->x.cO.length=y.cO.length->(dA (jK x aT)).length=(dA (jK y aT)).length:=by
   intro x y aT e1 e2 e3;unfold jK;rw[e1,e2,e3];by_cases h0:y.cO.length=0
   ·rw[ay h0,ay h0]
   ·rw[aq h0,aq h0];simp only[mH,List.singleton_append,aP];rw[XH,XH,e3]
  exact this (fO (aL ms i).p (eV ms i)) (fO (aL ms i).p (aL ms i).b) _ rfl rfl h
 by_cases h0:i=0/\1<ms.length
 ·obtain⟨rfl,h2⟩:=h0;obtain⟨bw,j1,j2,j3,j4⟩:=Fs F h2;obtain⟨e1,_⟩:=SL j1;have hb:=I.cO;have q:(aL ms 0).b.length<=65533:=by
   rcases hb with q|q
   ·have:(aL ms 0).b.length=0:=q;omega
   ·exact q.2
  rw[<-j3] at j2 j4;refine⟨⟨I.app,I.rows,I.cg,I.core,.inr ⟨?_,?_⟩⟩,by omega,hlen j2⟩
  ·show gG.isPrefixOf (eV ms 0)=true;rw[j3,e1];exact qL.2 (s9 _ _)
  ·show(eV ms 0).length<=65533;omega
 ·have e:eV ms i=(aL ms i).b:=by unfold eV;rw[aq h0]
  rw[e] at hlen⊢;have hb:=I.cO;refine⟨I,?_,hlen rfl⟩;rcases hb with q|q
  ·have:(aL ms i).b.length=0:=q;omega
  ·exact q.2
theorem XZ{w:Nat}(W:cZ w)(hw:1000000<w){ms:H1 aO}(F:dX ms):yF w (aA lN (iT ms))=some (aA cV (bV ms)):=by
 have h6:=F.le;have hil:=abY ms;have hpl:=lu ms;unfold yF;rw[bU];refine gV (ev:=λi (g:Qu->Int->Int->H1 Qu->Zh Qu)=>g (aA lN (iT ms)) (iT ms).length i (((bV ms).take i).flatMap cV)) ms.length ?_ ?_ (by omega)
 ·intro i g hi;have e1:((i:Int)<((iT ms).length:Int)):=by omega
  have hiI:i<(iT ms).length:=by omega
  have hiP:i<(bV ms).length:=by omega
  have hmp:=F.mem _ (cx hi);have hic:=hmp.ic;have hco:=hmp.co;obtain⟨I,q1,q2⟩:=nS F hi;obtain⟨g1,_⟩:=F.at_ hi;have og:∀(y:rS×H1 UInt8)(r:H1 Qu),lN y++r=.int .i64 y.1.p.aG.order::au y.1.p.aG.cu::au y.1.p.aG.bG::au y.1.p.aG.bN::au y.1.p.aG.bm::au y.1.p.aG.first::ah y.1.p.aG.bF::ah y.1.p.aG.cP::ah y.1.p.cg::ah y.1.p.core::ah y.2 ::.int .i64 (jF y.1.aT y.1.b)::.int .i64 ((fj (fO y.1.p y.1.b) y.1.aT).length:Int)::r:=λ_ _=>rfl;have h24:=Yx (m:=65533) W I hmp.vn (by omega) ⟨by show ms[i].core.length<=_;omega,by show ms[i].cg.length<=_;omega,q1⟩ (by omega) (jF (aL ms i).aT (aL ms i).b) ((fj (fO (aL ms i).p (aL ms i).b) (aL ms i).aT).length:Int);simp only[aU,e1,bd,aC,bH];rw[bu Su hiI,og,abX];simp only[bc,bK];have hpw:(bV ms)[i]=dc ms i:=by simp[bV]
  have h59:Gx w (aL ms i).p.aG.order (au (aL ms i).p.aG.cu) (au (aL ms i).p.aG.bG) (au (aL ms i).p.aG.bN) (au (aL ms i).p.aG.bm) (au (aL ms i).p.aG.first) (ah (aL ms i).p.aG.bF) (ah (aL ms i).p.aG.cP) (ah (aL ms i).p.cg) (ah (aL ms i).p.core) (ah (eV ms i)) (jF (aL ms i).aT (aL ms i).b) ((fj (fO (aL ms i).p (aL ms i).b) (aL ms i).aT).length:Int)=some (ah (dc ms i)):=by unfold Gx dc;rw[g1] at h24⊢;refine Eq.trans (bX (λz=>ob z _) h24) ?_;rfl
  rw[h59,aB,show aF (((bV ms).take i).flatMap cV).length=true by rw[cy (k:=1) (λ_=>rfl)];simp;omega,im hiP,fo,hpw,cf,aQ (by omega) (by omega)];rfl
 ·intro g;have e1:¬((ms.length:Int)<((iT ms).length:Int)):=by omega
  simp only[aU,e1,bM,aD];rw[eQ (by omega),cy (k:=1) (λ_=>rfl),gy,kG];rfl
theorem ajg{w:Nat}(W:cZ w)(hw:1000000<w){ms:H1 aO}(hm:∀p∈ms,eJ p)(hl:ms.length<=6\/1000<ms.length)(hl2:ms.length<=2000):Gn w (cI ms)=some (if ga ms=0 then(aA cV (bV ms),0) else(ae 0 [],ga ms)):=by
 unfold Gn;rw[ajt W hw hm hl hl2,aB];unfold Jw;by_cases hc:ga ms=0
 ·obtain⟨F,h1⟩:=AD hm hl hc;rw[ay hc,ay hc];have hrow:ae (((iT ms).flatMap lN).length/13) ((iT ms).flatMap lN)=aA lN (iT ms):=by
   unfold aA;rw[cy Su,ir _ (by decide)]
  split
  ·rw[iO];show(bif !aj 0 0 then _ else ob (yF w (ae (((iT ms).flatMap lN).length/13) ((iT ms).flatMap lN))) _)=_;rw[hrow,XZ W hw F];rfl
  ·rw[iO];show(bif !aj 0 0 then _ else ob (yF w (ae (((iT ms).flatMap lN).length/13) ((iT ms).flatMap lN))) _)=_;rw[hrow,XZ W hw F];rfl
 ·rw[aq hc,aq hc,IA,bY,eB hc];rfl
theorem WY:∀ls:H1 (H1 UInt8),yv (ls.flatMap cV)=some (ls.map λl=>l.map λb=>(b.toNat:Int))
 |[]=>rfl
 |l::ls=>by rw[dG,show cV l++ls.flatMap cV=ah l::ls.flatMap cV from rfl,yv,rX,WY ls];rfl
theorem QQ(l:H1 UInt8):ae l.length (l.map bh)=ah l:=by unfold ah aA;rw[iR]
theorem X3(w:Nat)(ls:H1 (H1 UInt8))(h0:0<ls.length)(hl:ls.length<=1000)(ht:ls.flatten.length<=1000000000):Cb w (aA cV ls)=some (ah ls.flatten):=by
 have hfl:(ls.flatMap cV).length=ls.length:=by rw[cy (k:=1) (λ_=>rfl),gy]
 show cond (Nat.blt 0 ls.length&&(Nat.beq ls.length (ls.flatMap cV).length&&Nat.ble ls.length 1000)) (ob (yv (ls.flatMap cV)) λls=>cond (Nat.ble ls.flatten.length 1000000000) (some (ae ls.flatten.length (bk ls.flatten))) none) none=_;have e1:(Nat.blt 0 ls.length&&(Nat.beq ls.length (ls.flatMap cV).length&&Nat.ble ls.length 1000))=true:=by rw[hfl];simp;omega
 rw[e1,aC,WY,aB];have e2:(ls.map λl=>l.map λb=>(b.toNat:Int)).flatten=ls.flatten.map λb=>(b.toNat:Int):=by rw[List.map_flatten]
 rw[e2,cH,show Nat.ble ls.flatten.length 1000000000=true by rw[iq];exact ht,aC,DE,QQ]
theorem Fo{ms:H1 aO}(F:dX ms):(bV ms).flatten.length<=18000000:=by
 have h6:=F.le;have:∀l:H1 Nat,(∀i∈l,i<ms.length)->((l.map (dc ms)).flatten).length<=3000000*l.length:=by
  intro l;induction l with
  |nil=>intro _;exact aM _
  |cons a l ih=>intro h;have:=ih λi hi=>h i (lU _ hi);have q:=(nS F (h a (by simp))).2.2;have q2:=(mm F (h a (by simp))).2;rw[ij,List.flatten_cons,aP,cc];omega
 have:=this (List.range ms.length) λi hi=>List.mem_range.1 hi;rw[List.length_range] at this;show((List.range ms.length).map (dc ms)).flatten.length<=_;omega
theorem Gq{w:Nat}(W:cZ w)(hw:1000000<w){ms:H1 aO}(hm:∀p∈ms,eJ p)(hl:ms.length<=6\/1000<ms.length)(hl2:ms.length<=2000):wk w (cI ms)=some (if ga ms=0 then(ah (bV ms).flatten,0) else(ae 0 [],ga ms)):=by
 unfold wk;rw[ajg W hw hm hl hl2,aB];by_cases hc:ga ms=0
 ·obtain⟨F,h1⟩:=AD hm hl hc;have h6:=F.le;have:=Fo F;rw[ay hc,ay hc];show(bif !aj 0 0 then _ else ob (Cb w (aA cV (bV ms))) _)=_;rw[X3 w _ (by rw[lu];omega) (by rw[lu];omega) (by omega)];rfl
 ·rw[aq hc,aq hc,bY,eB hc];rfl
theorem ajh{w:Nat}(l:H1 UInt8)(hl:l.length<2^40)(hw:l.length<w):oe w (ah l) (ah l)=some true:=by
 unfold oe;rw[cN,cN,show aj (Int.ofNat l.length) (Int.ofNat l.length)=true by rw[bY,cm],bW,aD];refine gV (ev:=λi (g:Qu->Qu->Int->Zh Bool)=>g (ah l) (ah l) i) l.length ?_ ?_ hw
 ·intro i g hi;have e1:((i:Int)<(l.length:Int)):=by omega
  rw[cN];simp only[aU,bO,e1,bd,aC,bH];rw[oO hi];simp only[bc,qf];rw[oO hi];simp only[bc,qf];rw[show aj (l[i].toNat:Int) (l[i].toNat:Int)=true by rw[bY,cm],bW,aD,cf,aQ (by omega) (by omega)];rfl
 ·intro g;have e1:¬((l.length:Int)<(l.length:Int)):=by omega
  rw[cN];simp only[aU,bO,e1,bM,aD]
def Dx(h:Int)(i:Nat)(p:cS):Int:=if i=0 then p.at_ else p.at_+h
def fX(P:H1 cS)(i:Nat):Int:=((P.take i).map (·.size)).sum
def ua(h z:Int)(P:H1 cS)(i:Nat)(p:cS):Bool:=decide (Dx h i p=fX P i/\1<=p.size/\p.size<=z -fX P i)
def Jl(h z:Int)(P:H1 cS):Bool:=(List.range P.length).all λi=>match P[i]? with|some p=>ua h z P i p|none=>true
def DA(P:H1 cS)(h z:Int):Zh (H1 Int):=if Jl h z P=true/\P.length≠0/\fX P P.length=z then some ((List.range (P.length+1)).map (fX P)) else none
theorem PQ{P:H1 cS}{i:Nat}(h:i<P.length):fX P (i+1)=fX P i+P[i].size:=by unfold fX;rw[im h,fY,List.sum_append];simp
theorem Jv(a b:Int)(h:-1099511627776<=a/\a<=1099511627776)(k:-1099511627776<=b/\b<=1099511627776):ag .i64 (a+b)=a+b/\ag .i64 (a -b)=a -b:=⟨aQ (by omega) (by omega),aQ (by omega) (by omega)⟩
theorem TH{α γ:Type}{z:α}{F:α->α}{w:Nat}(m:Nat)(ok:Nat->Bool)(r0 r1:γ)(ev:Nat->α->γ)(hs:∀i g,i<m->(∀j,j<i->ok j=true)->ev i (F g)=if ok i=true then ev (i+1) g else r0)(he:∀g,(∀j,j<m->ok j=true)->ev m (F g)=r1)(h:m<w):ev 0 (lp z F w)=if(List.range m).all ok=true then r1 else r0:=by
 have key:∀(d i v:Nat),i+d=m->d<v->(∀j,j<i->ok j=true)->ev i (lp z F v)=if(List.range m).all ok=true then r1 else r0:=by
  intro d;induction d with
  |zero=>
   intro i v hi hv ho;obtain rfl:i=m:=by omega
   rw[eU z F (by omega),he _ ho,ay (by rw[iE];exactλj hj=>ho j (List.mem_range.1 hj))]
  |succ d ih=>
   intro i v hi hv ho;rw[eU z F (by omega),hs i _ (by omega) ho];by_cases c:ok i=true
   ·rw[ay c,ih (i+1) (v -1) (by omega) (by omega) λj hj=>by
     rcases gY j i with q|q
     ·exact ho j q
     ·rw[show j=i by omega];exact c]
   ·rw[aq c,aq λk=>c (iE.1 k i (List.mem_range.2 (by omega)))]
 exact key m 0 w (by omega) (by omega) λj hj=>by omega
theorem Zi{P:H1 cS}{h z:Int}(hz:0<=z):∀i,i<=P.length->(∀j,j<i->(match P[j]? with|some p=>ua h z P j p|none=>true)=true)->(i:Int)<=fX P i/\fX P i<=z\/i=0/\fX P i=0
 |0,_,_=>.inr ⟨rfl,rfl⟩
 |i+1,hi,ho=>by have h1:=Zi hz i (by omega) λj hj=>ho j (by omega);have h2:=ho i (by omega);rw[cw (by omega)] at h2;obtain⟨_,a,b⟩:=ny h2;rw[PQ (by omega)];omega
theorem ajl{w:Nat}(P:H1 cS)(hP:∀p∈P,-4294967296<=p.at_/\p.at_<=4294967296/\-4294967296<=p.size/\p.size<=4294967296)(hl:P.length<=5000)(h z:Int)(hh:0<=h/\h<=4294967296)(hz:0<=z/\z<=4294967296)(hw:P.length<w):
 Gt w (dU P) h z=some (match DA P h z with|some l=>(aA cF l,true)|none=>(ae 0 [],false)):=by
 have hlr:∀{β:Type}(K:Nat->Zh β),ar (dU P) K=K P.length:=λK=>bU fC P K;unfold Gt;rw[hlr];refine(TH (ev:=λi (g:Qu->Int->Int->Int->Qu->Int->Int->H1 Qu->Zh (Qu×Bool))=>g (dU P) h z (fX P i) (dU P) P.length i (bI ((List.range i).map (fX P)))) P.length (λi=>match P[i]? with|some p=>ua h z P i p|none=>true) (some (ae 0 [],false)) (if P.length≠0/\fX P P.length=z then some (aA cF ((List.range (P.length+1)).map (fX P)),true) else some (ae 0 [],false)) ?_ ?_ hw).trans ?_
 ·intro i g hi ho;have e1:((i:Int)<(P.length:Int)):=by omega
  have hb:=Zi (h:=h) hz.1 i (by omega) ho;obtain⟨p1,p2,p3,p4⟩:=hP _ (cx hi);have w1:=(Jv P[i].at_ h (by omega) (by omega)).1;have w2:=(Jv z (fX P i) (by omega) (by omega)).2;have w3:=(Jv (fX P i) P[i].size (by omega) (by omega)).1;have w4:ag .i64 ((i:Int)+1)=((i+1:Nat):Int):=by rw[aQ (by omega) (by omega)];rfl
  simp only[aU,e1,bd,aC,bH,dU];rw[bu nX hi];simp only[fC,eD,fy,bc,bK,cf,jh,bY,w1,w2,w3,w4,cw hi];have hlen:(bI ((List.range i).map (fX P))).length=i:=by simp[bI]
  have room:aF (bI ((List.range i).map (fX P))).length=true:=by rw[hlen];unfold aF;rw[iq];omega
  have nx:∀v:Int,v=fX P i->bI ((List.range i).map (fX P))++[Value.int .i64 v]=bI ((List.range (i+1)).map (fX P)):=λv e=>by rw[e,List.range_succ,fY];simp[bI]
  have r2:∀v:Int,(aF ([Value.int .i64 v].length/1)&&[Value.int .i64 v].length.beq ([Value.int .i64 v].length/1*1))=true:=λv=>(show(Nat.ble (1/1) 1000000000&&Nat.beq 1 (1/1*1))=true by decide);simp only[r2,room,jB,aC];rw[PQ hi];by_cases h0:i=0
  ·have e2:¬((0:Int)<(i:Int)):=by omega
   simp only[e2,bM,aD,ua,Dx,ay h0];by_cases c1:P[i].at_=fX P i
   ·by_cases c2:1<=P[i].size
    ·by_cases c3:P[i].size<=z -fX P i
     ·rw[nx _ c1];simp[c1,c2,c3,Int.not_lt.2 c2,Int.not_lt.2 c3]
     ·simp[c1,c2,c3,Int.not_lt.2 c2,Int.not_le.1 c3]
    ·simp[c1,c2,Int.not_le.1 c2]
   ·simp[c1]
  ·have e2:(0:Int)<(i:Int):=by omega
   simp only[e2,bd,aC,ua,Dx,aq h0];by_cases c1:P[i].at_+h=fX P i
   ·by_cases c2:1<=P[i].size
    ·by_cases c3:P[i].size<=z -fX P i
     ·rw[nx _ c1];simp[c1,c2,c3,Int.not_lt.2 c2,Int.not_lt.2 c3]
     ·simp[c1,c2,c3,Int.not_lt.2 c2,Int.not_le.1 c3]
    ·simp[c1,c2,Int.not_le.1 c2]
   ·simp[c1]
 ·intro g ho;have e1:¬((P.length:Int)<(P.length:Int)):=by omega
  have hlen:(bI ((List.range P.length).map (fX P))).length=P.length:=by simp[bI]
  have room:aF (bI ((List.range P.length).map (fX P))).length=true:=by rw[hlen];unfold aF;rw[iq];omega
  have r2:∀v:Int,(aF ([Value.int .i64 v].length/1)&&[Value.int .i64 v].length.beq ([Value.int .i64 v].length/1*1))=true:=λv=>(show(Nat.ble (1/1) 1000000000&&Nat.beq 1 (1/1*1))=true by decide);have nx:bI ((List.range P.length).map (fX P))++[Value.int .i64 (fX P P.length)]=bI ((List.range (P.length+1)).map (fX P)):=by rw[List.range_succ,fY];simp[bI]
  simp only[aU,e1,bM,aD,hlr,bY,r2,room,jB,aC,nx];by_cases c1:P.length=0
  ·simp[c1]
  ·by_cases c2:fX P P.length=z
   ·simp[c1,c2,aA,AL,bI]
   ·simp[c1,c2]
 ·unfold DA Jl;by_cases c:(List.range P.length).all (λi=>match P[i]? with|some p=>ua h z P i p|none=>true)=true
  ·rw[ay c];by_cases d:P.length≠0/\fX P P.length=z
   ·rw[ay d,ay ⟨c,d⟩]
   ·rw[aq d,aq λq=>d q.2]
  ·rw[aq c,aq λq=>c q.1]
theorem ZN{o:Int}{view:H1 aN}{b:H1 UInt8}(h:rL o view=.ok b)(hm:view.length<=65000):
 ∃r,b=gG++r/\uH r kU=.ok (gx o view,fD (gx o view))/\(o=1\/o=2)/\view.length≠0/\da 5 view=true/\b.length<=65533:=by
 unfold rL at h;split at h
 ·cases h
 rename_i h1;split at h
 ·cases h
 rename_i h2;split at h
 ·cases h
 rename_i h3;injection h with h;have hr:da 5 view=true:=by simpa using h2
 have ho:o=1\/o=2:=by omega
 have h0:view.length≠0:=by omega
 have hh:=P2 (o:=o) hr h0 hm;have hlen:=wQ hh;refine⟨_,h.symm,P3 ho Jn (by decide) (by simp[gx]) hh (YY h3),ho,h0,hr,?_⟩;rw[<-h,aP,hlen];have:gG.length=4:=rfl;omega
theorem ajM{w:Nat}(W:cZ w)(hw:800000<w){o:Int}{view:H1 aN}{b:H1 UInt8}(h:rL o view=.ok b)(hv:VS view):GN w (ah b)=some (o,au view,0):=by
 have hvl:=hv.1;obtain⟨r,hb,hwk,ho,h0,hr,hbl⟩:=ZN h (by omega);have hp:gG.isPrefixOf b=true:=by rw[hb,qL];exact s9 _ _
 have hl4:b.length=r.length+4:=by rw[hb,aP];have:gG.length=4:=rfl;omega
 have hS:(fD (gx o view)).length<100000000:=by
  have T:=ZP W ho hv hr h0;have h:=CT (gx o view).dO 0 8 T.hd;have hc:gZ (gx o view).dO<=2:=by simp[gx,gZ,dL,iu]
  have h2:gZ (gx o view).dO*(10000+2)<=2*(10000+2):=wZ _ hc;have h3:(fD (gx o view)).length=(jA 0 8 (gx o view).dO).length+1:=rfl;omega
 have h117:=Oa (w:=w) (b:=r) (sh:=kU) (by omega) (by omega) Jn (λs hs=>by
  have:s=0:=by simp[kU] at hs;omega
  rw[this];decide) (by decide) (by decide) (Yu (by omega)) (o:=o) (ds:=(gx o view).dO) (S:=fD (gx o view)) hS hwk
 have h62:uA w (ah b) (ct kU)=some (o,db (gx o view).dO,aA cd (fD (gx o view)),0):=by
  have e1:¬((65533:Int)<(b.length:Int)):=by omega
  have e2:¬((b.length:Int)<(4:Int)):=by omega
  have e3:4<=b.length:=by omega
  have h116:yM w (ah b)=some true:=by unfold yM BP;have:ae 4 (List.drop 0 [Value.int IntKind.u8 77,Value.int IntKind.u8 80,Value.int IntKind.u8 70,Value.int IntKind.u8 0])=ah gG:=rfl;rw[this,B4,hp];rfl
  unfold uA;rw[cN];simp only[aU,bO,e1,bM,aD];rw[cN];simp only[e2,bM,aD];rw[h116];simp only[aB,bW,aD];rw[cN];simp only[gA,aM,e3,bd,jB,aC];rw[mS _ (aM _),eQ (by rw[eu];omega),show b.drop 4=r by rw[hb];rfl,h117];rfl
 have x1:∀(K:H1 Qu->Zh (Int×Qu×Int)),aJ 3 0 (db (gx o view).dO) K=K (dr (.mk view .nil [])++[]):=λK=>bu kX (l:=[.mk view .nil []]) (m:=0) (by show 0<1;omega) K;unfold GN;rw[show yP w=some (ct kU) from rfl];simp only[aB];rw[h62];simp only[aB];rw[show(!aj 0 0)=false from rfl,aD,x1,tG];simp only[eD,er,bc];rw[ru (by omega) 5 view (by omega) (λt ht=>by have:=hv.2 t ht;omega) (by omega),hr];simp only[aB,bW,aD];rw[x1,tG];simp only[eD,er,bc]
def jy(ms:H1 aO)(i:Nat):H1 Qu:=[.int .i64 (aL ms i).p.aG.order,au (aL ms i).p.aG.cu,au (aL ms i).p.aG.bG,au (aL ms i).p.aG.bN,au (aL ms i).p.aG.bm,au (aL ms i).p.aG.first,ah (aL ms i).p.aG.bF,ah (aL ms i).p.aG.cP,ah (aL ms i).p.cg,ah (aL ms i).p.core,ah (eV ms i),.int .i64 (jF (aL ms i).aT (eV ms i)),.int .i64 (dE ms i:Int)]
theorem FG(ms:H1 aO)(i:Nat):(jy ms i).length=13:=rfl
theorem YA{w:Nat}(W:cZ w)(hw:4000000<w){ms:H1 aO}(F:dX ms){i:Nat}(hi:i<ms.length)(y:H1 UInt8)(hy:y.length<2^26)(hyw:2*65533+800000+y.length<w):
 uu w (ah (dc ms i++y))=some ((aL ms i).p.aG.order,au (aL ms i).p.aG.cu,au (aL ms i).p.aG.bG,au (aL ms i).p.aG.bN,au (aL ms i).p.aG.bm,au (aL ms i).p.aG.first,ah (aL ms i).p.aG.bF,ah (aL ms i).p.aG.cP,ah (aL ms i).p.cg,ah (aL ms i).p.core,ah (eV ms i),jF (aL ms i).aT (eV ms i),(dE ms i:Int),0):=by
 obtain⟨g1,k1,k2,k3⟩:=F.at_ hi;obtain⟨I,q1,q2⟩:=nS F hi;have hmp:=F.mem _ (cx hi);have hic:=hmp.ic;have hco:=hmp.co;have:=YB (m:=65533) y hy W I hmp.vn (by omega) ⟨by show ms[i].core.length<=_;omega,by show ms[i].cg.length<=_;omega,q1⟩ hyw;unfold dc at q2⊢;rw[g1] at q2⊢;rw[this,q2];rfl
theorem abD{α:Type}(L:H1 (H1 α))(i:Nat):L.flatten.drop (L.take i).flatten.length=(L.drop i).flatten:=by
 conv=>lhs;rw[<-kF i L,List.flatten_append]
 rw[kF,List.drop_left]
theorem PN{ms:H1 aO}(F:dX ms):∀i,i<=ms.length->((bV ms).take i).flatten.length=dF ms i
 |0,_=>rfl
 |i+1,h=>by
  have hi:i<(bV ms).length:=by rw[lu];omega
  have e:(bV ms)[i]=dc ms i:=by simp[bV]
  rw[im hi,List.flatten_append,aP,PN F i (by omega),e];simp only[List.flatten_cons,List.flatten_nil,dP];rw[(nS F (show i<ms.length by omega)).2.2];rfl
theorem Ze{ms:H1 aO}(F:dX ms):(bV ms).flatten.length=dF ms ms.length:=by rw[<-PN F _ (aM _),eQ (by rw[lu];exact aM _)]
theorem VF{ms:H1 aO}(F:dX ms){i:Nat}(hi:i<ms.length):(bV ms).flatten.drop (dF ms i)=dc ms i++((bV ms).drop (i+1)).flatten:=by
 have hp:i<(bV ms).length:=by rw[lu];exact hi
 have e:(bV ms)[i]=dc ms i:=by simp[bV]
 rw[<-PN F i (by omega),abD,cW hp,List.flatten_cons,e]
theorem ahg{ms:H1 aO}(F:dX ms){i:Nat}(hi:i<ms.length):((bV ms).flatten.drop (dF ms i)).take (dF ms (i+1) -dF ms i)=dc ms i:=by have q:=(nS F hi).2.2;rw[VF F hi,show dF ms (i+1) -dF ms i=(dc ms i).length by rw[q];show dF ms i+dE ms i -dF ms i=_;omega,List.take_left]
theorem X7{w:Nat}(W:cZ w)(hw:4000000<w){ms:H1 aO}(F:dX ms){i a b:Nat}(hi:i<ms.length){s y:H1 UInt8}(hab:a<=b)(hb:b<=s.length)(hc:(s.drop a).take (b -a)=dc ms i++y)(hy:y.length<2^26)(hyw:2*65533+800000+y.length<w)(x3:Int)(x4 x5 x6:Qu)(x7 x8:H1 Qu)(h8:x8.length<=1000):
 Cf w a b (ah s) x3 x4 x5 x6 x7 x8=some (0,ah s,x3,x4,x5,x6,x7,x8++jy ms i):=by
 have e1:(b.ble s.length&&(b.ble b&&a.ble b))=true:=by simp[hab,hb]
 have e2:aF x8.length=true:=by unfold aF;rw[iq];omega
 unfold Cf;simp only[cN,bH,e1,aC];rw[mS _ hb,hc,YA W hw F hi y hy hyw];simp only[aB,bY,bd,bW,aD];rw[e2];rfl
theorem X8{w:Nat}{ms:H1 aO}{i k:Nat}(hi:i<k)(hk:k<=1000){P:H1 cS}(hP:i<P.length)(v s:Qu)(x3:Int)(x4 x6:Qu)(x7:H1 Qu)(h7:x7.length<=100000):
 rA w i v s x3 x4 (dU P) x6 x7 ((List.range k).flatMap (jy ms))=some (s,x3,x4,dU P,x6,x7++[.int .i64 (aL ms i).p.aG.order,au (aL ms i).p.aG.cu,au (aL ms i).p.aG.bG,au (aL ms i).p.aG.bN,au (aL ms i).p.aG.bm,au (aL ms i).p.aG.first,ah (aL ms i).p.aG.bF,ah (aL ms i).p.aG.cP,ah (aL ms i).p.cg,ah (aL ms i).p.core,.int .i64 P[i].attr,.int .i64 P[i].ee,.int .i64 P[i].ef,v],(List.range k).flatMap (jy ms)):=by
 have hl:((List.range k).flatMap (jy ms)).length=k*13:=by rw[cy (FG ms),List.length_range]
 have e1:(Nat.beq 13 13&&(i*13).blt ((List.range k).flatMap (jy ms)).length)=true:=by rw[hl];simp;omega
 have e2:((List.range k).flatMap (jy ms)).drop (i*13)=jy ms i++((List.range k).drop (i+1)).flatMap (jy ms):=by rw[mT (FG ms),cW (by rw[List.length_range];exact hi),dG,List.getElem_range]
 have e3:aF x7.length=true:=by unfold aF;rw[iq];omega
 unfold rA Cg;simp only[bH];rw[e1,aC,fI,e2];simp only[jy,eD,fy,bc,bK];rw[show dU P=aA fC P from rfl,bu nX hP];simp only[fC,eD,fy,bc,bK];rw[e3];rfl
def fL(ms:H1 aO):H1 Int:=(List.range (ms.length+1)).map λi=>(dF ms i:Int)
def oQ(ms:H1 aO):H1 cS:=if ms.length=1 then[⟨0,0,0,0,0⟩] else gX ms
def gM(ms:H1 aO)(k:Nat):H1 Qu:=(List.range k).flatMap (jy ms)
theorem ahu{ms:H1 aO}(h:1<=ms.length):(oQ ms).length=ms.length:=by
 unfold oQ;split
 ·rename_i h1;rw[h1];rfl
 ·exact nY ms
theorem C0(ms:H1 aO):∀i,i<=ms.length->fX (gX ms) i=(dF ms i:Int)
 |0,_=>rfl
 |i+1,h=>by
  have hi:i<(gX ms).length:=by rw[nY];omega
  rw[PQ hi,C0 ms i (by omega),show(gX ms)[i]=ri ms i by simp[gX]];show(dF ms i:Int)+(dE ms i:Int)=((dF ms i+dE ms i:Nat):Int);omega
theorem aaa{ms:H1 aO}(F:dX ms)(h1:1<=ms.length)(z:Nat):DA (gX ms) (kJ ms) z=if z=dF ms ms.length then some (fL ms) else none:=by
 have hl:=nY ms;unfold DA;by_cases c:z=dF ms ms.length
 ·rw[ay c,ay]
  ·congr 1
   unfold fL;rw[hl];refine List.map_congr_left λi hi=>?_;have:=List.mem_range.1 hi;exact C0 ms i (by omega)
  ·refine⟨?_,by omega,by rw[hl,C0 ms _ (aM _),c]⟩;unfold Jl;rw[iE];intro i hi;have hi:=List.mem_range.1 hi;have hi2:i<ms.length:=by omega
   rw[cw hi];show ua _ _ _ _ _=true;rw[show(gX ms)[i]=ri ms i by simp[gX]];unfold ua;rw[cm,C0 ms i (by omega)];have l1:=mm F hi2;have s1:=CY ms (show i+1<=ms.length by omega);have s2:dF ms (i+1)=dF ms i+dE ms i:=rfl;refine⟨?_,by show(1:Int)<=(dE ms i:Int);omega,by show(dE ms i:Int)<=_;omega⟩;unfold Dx ri;by_cases h0:i=0
   ·subst h0;simp;rfl
   ·simp only[aq h0];omega
 ·rw[aq c,aq]
  rintro ⟨_,_,q⟩
  rw[hl,C0 ms _ (aM _)] at q;omega
theorem T7{ms:H1 aO}(h:ms.length=1):eV ms 0=[]:=by unfold eV;rw[aq (by omega)];show Fa (iA ms 0)=[];unfold iA;rw[cw (by omega:0<ms.length)];simp only[ea];rw[aq (by omega)];rfl
theorem ajH{w:Nat}{ms:H1 aO}(h1:ms.length=1)(s:H1 UInt8)(x1:Int)(x2 x3 x4:Qu)(x5:H1 Qu):
 sS w (ah s) x1 x2 x3 x4 x5 (gM ms 1)=some (if dE ms 0=s.length then 0 else 2,ah s,x1,aA cF [0,(s.length:Int)],dU [⟨0,0,0,0,0⟩],x4,x5,gM ms 1):=by
 have e1:(Nat.beq 13 13&&Nat.blt 0 (gM ms 1).length)=true:=rfl;have e2:(gM ms 1).drop 0=jy ms 0++[]:=rfl;unfold sS yL;rw[e1,aC,e2];simp only[jy,eD,fy,bc,bK,cN];rw[T7 h1];have e3:ak 0 (Int.ofNat ([]:H1 UInt8).length)=false:=rfl;rw[e3,aD,bY];by_cases c:dE ms 0=s.length
 ·rw[ay c,dZ (show(dE ms 0:Int)=Int.ofNat s.length from bX Int.ofNat c)];rfl
 ·rw[aq c,eB (by intro q;exact c (Int.ofNat.inj q))];rfl
theorem ahv{ms:H1 aO}(F:dX ms)(hcam:kJ ms<=3000014):∀p∈gX ms,-4294967296<=p.at_/\p.at_<=4294967296/\-4294967296<=p.size/\p.size<=4294967296:=λp hp=>by
 have h6:=F.le;unfold gX at hp;obtain⟨i,hi,rfl⟩:=mK.1 hp;have hi:=List.mem_range.1 hi;have l1:=mm F hi;have s1:=PM F i (by omega);unfold ri;by_cases h0:i=0
 ·simp only[ay h0];omega
 ·simp only[aq h0];omega
theorem X6{w:Nat}(W:cZ w)(hw:4000000<w){ms:H1 aO}(F:dX ms)(h2:1<ms.length)(s:H1 UInt8)(hs:s.length<4294967296)(x1:Int)(x2 x3 x4:Qu)(x5:H1 Qu):
 sS w (ah s) x1 x2 x3 x4 x5 (gM ms 1)=some (if s.length=dF ms ms.length then(0,ah s,x1,aA cF (fL ms),dU (gX ms),au (aL ms 0).p.view,x5,gM ms 1) else(4,ah s,x1,aA cF [0,(s.length:Int)],dU [⟨0,0,0,0,0⟩],x4,x5,gM ms 1)):=by
 have e1:(Nat.beq 13 13&&Nat.blt 0 (gM ms 1).length)=true:=rfl;have e2:(gM ms 1).drop 0=jy ms 0++[]:=rfl;have h6:=F.le;obtain⟨g1,k1,k2,k3⟩:=F.at_ (i:=0) (by omega);obtain⟨b,b1,b2,b3,b4⟩:=Fs F h2;have hmp:=F.mem _ (cx (show 0<ms.length by omega));have hgood:=oJ (F.qn _ (cx (show 0<ms.length by omega)));have ho:=Eg hgood.1;have hr:da 5 ms[0].view=true:=by have:=hgood.2.2.2;unfold mP at this;simpa using this
 have h27:=O1 W (by omega) b1 (by rw[g1];exact hmp.vs) (KT W (by rw[g1];exact ho) (by rw[nY];omega) (by rw[nY];omega) (by rw[g1];exact hmp.vs) (by rw[g1];exact hr));have hcam:kJ ms<=3000014:=by have:=(mm F (i:=0) (by omega)).2;have:=JH (x:=fO (aL ms 0).p (aL ms 0).b) (aT:=(aL ms 0).aT);unfold kJ;unfold dE at*;omega
 have hat:jF (aL ms 0).aT (eV ms 0)=(((aL ms 0).aT.length+10:Nat):Int):=by unfold jF;rw[b3,aq (by omega)]
 have h26:=ajl (w:=w) (gX ms) (ahv F hcam) (by rw[nY];omega) (kJ ms) (s.length:Int) (by omega) (by omega) (by rw[nY];omega);rw[aaa F (by omega)] at h26;unfold sS yL;rw[e1,aC,e2];simp only[jy,eD,fy,bc,bK,cN];rw[b3,show ak 0 (Int.ofNat b.length)=true by rw[aU,cm];show(0:Int)<(b.length:Int);omega,aC,h27];simp only[aB];rw[<-b3,hat,cf,show(((aL ms 0).aT.length+10:Nat):Int)+4=(kJ ms:Int) by unfold kJ;omega,aQ (by omega) (by omega),show(!aj 0 0)=false from rfl,aD];rw[show Int.ofNat s.length=(s.length:Int) from rfl,h26];by_cases c:s.length=dF ms ms.length
 ·rw[ay c,ay c];have hsl:1<(fL ms).length:=by unfold fL;rw[cH,List.length_range];omega
  simp only[aB,bW,aD];rw[bu mg hsl];have hs1:(fL ms)[1]=(dE ms 0:Int):=by simp[fL,dF]
  simp only[cF,eD,fy,bc,bK,hs1,bY,bd,bW,aD]
 ·rw[aq c,aq c];simp only[aB,fH,aC];rfl
theorem WO(ms:H1 aO)(k:Nat):(gM ms k).length=k*13:=by unfold gM;rw[cy (FG ms),List.length_range]
theorem aim(ms:H1 aO){i k:Nat}(hi:i<k):(gM ms k).drop (i*13)=jy ms i++((List.range k).drop (i+1)).flatMap (jy ms):=by unfold gM;rw[mT (FG ms),cW (by rw[List.length_range];exact hi),dG,List.getElem_range]
theorem ajI{w:Nat}(W:cZ w)(hw:70000000<w){ms:H1 aO}(F:dX ms)(h1:1<=ms.length){P:H1 cS}(hP:P.length=ms.length)(hp:∀i (h:i<ms.length),P[i].attr=ms[i].attr/\P[i].ee=ms[i].ee/\P[i].ef=ms[i].ef)(x4:Qu):
 GI w (ah (bV ms).flatten) 0 (aA cF (fL ms)) (dU P) (au ms[0].view) [] (gM ms 1)=some ((0:Int),ah (bV ms).flatten,((ms.length -1:Nat):Int),aA cF (fL ms),dU P,au ms[0].view,ms.flatMap cR,gM ms ms.length):=by
 have h6:=F.le;have hall:=Ze F;have htot:=Fo F;have hsl:(fL ms).length=ms.length+1:=by unfold fL;rw[cH,List.length_range]
 have hsa:∀i (h:i<(fL ms).length),(fL ms)[i]=(dF ms i:Int):=λi h=>by simp[fL]
 have hmem:∀i (h:i<ms.length),[Value.int .i64 (aL ms i).p.aG.order,au (aL ms i).p.aG.cu,au (aL ms i).p.aG.bG,au (aL ms i).p.aG.bN,au (aL ms i).p.aG.bm,au (aL ms i).p.aG.first,ah (aL ms i).p.aG.bF,ah (aL ms i).p.aG.cP,ah (aL ms i).p.cg,ah (aL ms i).p.core,.int .i64 (P[i]'(by omega)).attr,.int .i64 (P[i]'(by omega)).ee,.int .i64 (P[i]'(by omega)).ef,au ms[i].view]=cR ms[i]:=λi h=>by obtain⟨a,b,c⟩:=hp i h;rw[a,b,c,(F.at_ h).1];rfl
 unfold GI;have h0:=X8 (w:=w) (ms:=ms) (i:=0) (k:=1) (by omega) (by omega) (P:=P) (by omega) (au ms[0].view) (ah (bV ms).flatten) 0 (aA cF (fL ms)) (au ms[0].view) [] (by simp);rw[hmem 0 (by omega)] at h0;rw[show gM ms 1=(List.range 1).flatMap (jy ms) from rfl,show rA w 0 (au ms[0].view)=rA w ((0:Nat):Int) (au ms[0].view) from rfl,h0];simp only[aB];have ht0:([]:H1 Qu)++cR ms[0]=(ms.take (0+1)).flatMap cR:=by rw[im (show 0<ms.length by omega)];simp
 rw[ht0];refine gV (w:=w) (ev:=λj (g:Int->Qu->Int->Qu->Qu->Qu->H1 Qu->H1 Qu->Zh (Int×Qu×Int×Qu×Qu×Qu×H1 Qu×H1 Qu))=>g ((j+1:Nat):Int) (ah (bV ms).flatten) (j:Int) (aA cF (fL ms)) (dU P) (au ms[0].view) ((ms.take (j+1)).flatMap cR) (gM ms (j+1))) (ms.length -1) ?_ ?_ (by omega)
 ·intro j g hj;have hi:j+1<ms.length:=by omega
  have e1:(((j+1:Nat):Int)<(P.length:Int)):=by omega
  have w1:ag .i64 (((j+1:Nat):Int)+1)=((j+1+1:Nat):Int):=by rw[aQ (by omega) (by omega)];rfl
  have s1:=CY ms (show j+1+1<=ms.length by omega);have s2:dF ms (j+1+1)=dF ms (j+1)+dE ms (j+1):=rfl;have hcut:=ahg F hi;have hjm:j+1<=6:=by omega
  have h207:=X7 (w:=w) W (by omega) F (i:=j+1) (a:=dF ms (j+1)) (b:=dF ms (j+1+1)) hi (s:=(bV ms).flatten) (y:=[]) (by omega) (by omega) (by rw[dP];exact hcut) (by decide) (by rw[List.length_nil];omega) ((j+1:Nat):Int) (aA cF (fL ms)) (dU P) (au ms[0].view) ((ms.take (j+1)).flatMap cR) (gM ms (j+1)) (by rw[WO];omega);have him:gM ms (j+1)++jy ms (j+1)=gM ms (j+1+1):=by
   unfold gM
   conv=>rhs;rw[List.range_succ,fo,dG,lH,dP]
  rw[him] at h207;have e2:(Nat.beq 13 13&&((j+1)*13).blt (gM ms (j+1+1)).length)=true:=by rw[WO];simp
  have e3:((dF ms (j+1+1):Int) -(dF ms (j+1):Int))=(dE ms (j+1):Int):=by omega
  have l1:=mm F hi;have w2:ag .i64 (dE ms (j+1):Int)=(dE ms (j+1):Int):=aQ (by omega) (by omega);have ht:(ms.take (j+1+1)).flatMap cR=(ms.take (j+1)).flatMap cR++cR ms[j+1]:=by rw[im hi,fo,dG,lH,dP]
  have h208:=λv=>X8 (w:=w) (ms:=ms) (i:=j+1) (k:=j+1+1) (by omega) (by omega) (P:=P) (by omega) v (ah (bV ms).flatten) ((j+1:Nat):Int) (aA cF (fL ms)) (au ms[0].view) ((ms.take (j+1)).flatMap cR) (by rw[cy kj,dk];omega);obtain⟨g1,k1,k2,k3⟩:=F.at_ hi;have hmp:=F.mem _ (cx hi);simp only[show dU P=aA fC P from rfl,bU,aU,bO,e1,bd,aC,bH,cf,w1];rw[bu mg (show j+1<(fL ms).length by omega),hsa];simp only[cF,eD,fy,bc,bK];rw[bu mg (show j+1+1<(fL ms).length by omega),hsa];simp only[cF,eD,fy,bc,bK];rw[show aA fC P=dU P from rfl,h207];simp only[aB];rw[show(!aj (0:Int) 0)=false from rfl,aD,e2,aC,fI,aim ms (by omega)];simp only[jy,eD,fy,bc,bK,cN];rw[bu mg (show j+1+1<(fL ms).length by omega),hsa];simp only[cF,eD,fy,bc,bK];rw[bu mg (show j+1<(fL ms).length by omega),hsa];simp only[cF,eD,fy,bc,bK,jh,e3,w2,bY,bd,bW,aD];have hb:eV ms (j+1)=(aL ms (j+1)).b:=by unfold eV;rw[aq (by omega)]
  have k4:(if ms[j+1].view.length=0 then(.ok []:Except Int (H1 UInt8)) else rL ms[j+1].aG.order ms[j+1].view)=.ok (aL ms (j+1)).b:=by have:=k1;unfold iA at this;rw[cw hi] at this;simp only[aq (show¬(j+1=0) by omega)] at this;exact this
  rw[hb];by_cases h0:ms[j+1].view.length=0
  ·rw[ay h0] at k4;injection k4 with k4;rw[<-k4,show decide ((0:Int)<(([]:H1 UInt8).length:Nat))=false from rfl,aD,show ae 0 []=au ms[j+1].view by rw[qM.1 h0];rfl];rw[show gM ms (j+1+1)=(List.range (j+1+1)).flatMap (jy ms) from rfl,h208,hmem _ hi,<-ht];rfl
  ·rw[aq h0] at k4;obtain⟨r,hbr,_⟩:=ZN k4 (by have:=hmp.vs.1;omega);have hbl:0<(aL ms (j+1)).b.length:=by rw[hbr,aP];have:gG.length=4:=rfl;omega
   rw[dZ (show(0:Int)<((aL ms (j+1)).b.length:Int) by omega),aC,ajM W (by omega) k4 hmp.vs];simp only[aB];simp only[bd,bW,aD];rw[show gM ms (j+1+1)=(List.range (j+1+1)).flatMap (jy ms) from rfl,h208,hmem _ hi,<-ht];rfl
 ·intro g;have e1:¬(((ms.length -1+1:Nat):Int)<(P.length:Int)):=by omega
  simp only[show dU P=aA fC P from rfl,bU,aU,bO,e1,bM,aD];rw[show ms.length -1+1=ms.length by omega,eQ (aM _)]
theorem Vp{ms:H1 aO}(hm:∀p∈ms,eJ p)(h6:ms.length<=6)(h1:ms.length=1)(hc:(fS ms).1 =0):ms[0].attr=0/\ms[0].ee=0/\ms[0].ef=0/\ms[0].view=[]:=by
 have:=((Ks hm (by omega) h6).1 hc).2
 match ms,h1 with
 |[p],_=>simp[xr] at this;exact this
theorem al4{ms:H1 aO}(h1:ms.length=1):fL ms=[0,(dE ms 0:Int)]:=by
 unfold fL;rw[h1];show[((dF ms 0:Nat):Int),((dF ms 1:Nat):Int)]=_;have:dF ms 1=dE ms 0:=by show 0+dE ms 0=_;omega
 rw[this];rfl
theorem X5{w:Nat}(W:cZ w)(hw:70000000<w){ms:H1 aO}(F:dX ms)(h1:1<=ms.length){s y:H1 UInt8}(hc:s=dc ms 0++y)(hy:y.length<2^25)(x1:Int)(x2 x3 x4:Qu)(x5:H1 Qu):
 GH w (ah s) x1 x2 x3 x4 x5 []=some (0,ah s,x1,x2,x3,x4,x5,gM ms 1):=by
 have q:=(nS F (i:=0) (by omega)).2.2;have l:=mm F (i:=0) (by omega);have hs:s.length=dE ms 0+y.length:=by rw[hc,aP,q]
 have e1:¬((4294967295:Int)<(s.length:Int)):=by omega
 unfold GH;simp only[cN,aU,bO,e1,bM,aD];have h:=X7 (w:=w) W (by omega) F (i:=0) (a:=0) (b:=s.length) (by omega) (s:=s) (y:=y) (by omega) (by omega) (by rw[er,Nat.sub_zero,mL];exact hc) (by omega) (by omega) x1 x2 x3 x4 x5 [] (by simp);rw[show((0:Nat):Int)=0 from rfl] at h;rw[h];rfl
theorem X1{w:Nat}(W:cZ w)(hw:70000000<w){ms:H1 aO}(F:dX ms)(h1:1<=ms.length)(hc:ga ms=0)(hf:(fS ms).1 =0):
 yH w (ah (bV ms).flatten)=some ((0:Int),ah (bV ms).flatten,(fS ms).2,aA cF (fL ms),dU (oQ ms),au ms[0].view,ms.flatMap cR,gM ms ms.length):=by
 have h6:=F.le;have hall:=Ze F;have htot:=Fo F;have hcut:(bV ms).flatten=dc ms 0++((bV ms).drop 1).flatten:=by have:=VF F (i:=0) (by omega);rwa[show dF ms 0=0 from rfl,er] at this
 have hyl:((bV ms).drop 1).flatten.length<=(bV ms).flatten.length:=by have:=bX List.length hcut;rw[aP] at this;omega
 have hql:=ahu h1;have hidx:sS w (ah (bV ms).flatten) 0 (ae 0 []) (ae 0 []) (ae 0 []) [] (gM ms 1)=some ((0:Int),ah (bV ms).flatten,(0:Int),aA cF (fL ms),dU (oQ ms),au ms[0].view,([]:H1 Qu),gM ms 1):=by
  by_cases h2:ms.length=1
  ·have e:dE ms 0=(bV ms).flatten.length:=by rw[hall,h2];show dE ms 0=0+dE ms 0;omega
   rw[ajH h2,ay e,al4 h2,e,(Vp F.mem h6 h2 hf).2.2.2];unfold oQ;rw[ay h2];rfl
  ·rw[X6 W (by omega) F (by omega) _ (by omega),ay hall,(F.at_ (i:=0) (by omega)).1];unfold oQ;rw[aq h2]
 have hoth:=ajI W hw F h1 (P:=oQ ms) hql (λi h=>by
  by_cases h2:ms.length=1
  ·have:=Vp F.mem h6 h2 hf;obtain rfl:i=0:=by omega
   have e:(oQ ms)[0]'(by omega)=⟨0,0,0,0,0⟩:=by unfold oQ;simp[h2]
   rw[e];exact⟨this.1.symm,this.2.1.symm,this.2.2.1.symm⟩
  ·have e:(oQ ms)[i]'(by omega)=ri ms i:=by simp[oQ,h2,gX]
   rw[e];unfold ri;rw[(F.at_ h).1];exact⟨rfl,rfl,rfl⟩) (ae 0 [])
 have hmv:ae ((ms.flatMap cR).length/14) (ms.flatMap cR)=cI ms:=by unfold cI aA;rw[cy kj,ir _ (by decide)]
 have hlim:GJ w (ah (bV ms).flatten) ((ms.length -1:Nat):Int) (aA cF (fL ms)) (dU (oQ ms)) (au ms[0].view) (ms.flatMap cR) (gM ms ms.length)=some ((0:Int),ah (bV ms).flatten,(fS ms).2,aA cF (fL ms),dU (oQ ms),au ms[0].view,ms.flatMap cR,gM ms ms.length):=by unfold GJ;rw[hmv,Pz W (by omega) F.mem (by omega) (by omega),Oj W (by omega) F.mem (by omega) (by omega),hc];rfl
 unfold yH;rw[X5 W hw F h1 hcut (by omega)];simp only[aB];rw[show(!aj (0:Int) 0)=false from rfl,aD,hidx];simp only[aB];rw[show(!aj (0:Int) 0)=false from rfl,aD,hoth];simp only[aB];rw[show(!aj (0:Int) 0)=false from rfl,aD,hlim];rfl
theorem XU{w:Nat}(W:cZ w)(hw:70000000<w){ms:H1 aO}(F:dX ms)(h1:1<=ms.length)(hc:ga ms=0)(hf:(fS ms).1 =0):rp w (ah (bV ms).flatten)=some (cI ms,0,0):=by unfold rp;rw[X1 W hw F h1 hc hf];simp only[aB];rw[show(!aj (0:Int) 0)=false from rfl,aD,cy kj,ir _ (by decide)];rfl
theorem ajm{w:Nat}(W:cZ w)(hw:70000000<w){ms:H1 aO}(F:dX ms)(h2:1<ms.length){s y:H1 UInt8}(hs:s=dc ms 0++y)(hy:y.length<2^25)(hn:s.length≠dF ms ms.length):rp w (ah s)=some (ae 0 [],0,4):=by
 have l:=mm F (i:=0) (by omega);have q:=(nS F (i:=0) (by omega)).2.2;have hl:s.length=dE ms 0+y.length:=by rw[hs,aP,q]
 unfold rp yH;rw[X5 W hw F (by omega) hs hy];simp only[aB];rw[show(!aj (0:Int) 0)=false from rfl,aD,X6 W (by omega) F h2 _ (by omega),aq hn];rfl
theorem X2{w:Nat}{s:H1 UInt8}{a:Nat}(ha:a<=s.length)(hs:s.length<2^28)(hw:s.length+10<w){l:H1 bJ}{e:Nat}(he:e<=s.length)(h:ofM (s.drop a)=.ok l e):sQ w (ah s) a=some (((a+e:Nat):Int),true):=by
 unfold sQ;have e1:¬((a:Int)<0):=by omega
 have e2:¬((s.length:Int)<(a:Int)):=by omega
 simp only[cN,aU,bO,e1,e2,bM,aD,bH];rw[show(s.length.ble s.length&&a.ble s.length)=true by simp[ha],aC,mS _ (aM _),eQ (by rw[eu];omega),Ie _ (by rw[eu];omega) (by rw[eu];omega),h];simp only[aB];rw[show(!aj 0 0)=false from rfl,aD,cf,aQ (by omega) (by omega)]
 congr 2
theorem SF{x:oA}{aT:H1 UInt8}(h:xe x aT)(y:H1 UInt8):ofM (fj x aT++y)=.ok (jK x aT) (fj x aT).length:=by obtain⟨-,hp1,hp2,hp3,hp4⟩:=Ab h.app h.rows;exact Uo (KO h.core hp2 h.cg (by rcases h.cO with q|q;omega;exact q.2)) y
noncomputable section
theorem adR(w:Nat):K 26 [.v,vI,vI] (.aH [.v,.b]) (Gt w):=fr Tryz.f26 pn w (lc 0 [(0,.v),(1,vI),(2,vI),(8,.gr 0 1),(9,vI),(13,.v),(14,vI),(15,vI)] [(0,.grow 1 3)] 1 ln)
theorem UI(w:Nat):KH 207 ⟨3,⟨[(0,.ptr 0 0),(1,vI),(2,vI)],[(0,.cells [.gr 1 14,.v,vI,.gr 2 13,.v,.v,.v] 132),(1,.grow 14 30),(2,.grow 13 56)],3⟩,1,⟨[(0,vI)],[(0,.cells [.gr 1 14,.v,vI,.gr 2 13,.v,.v,.v] 132),(1,.grow 14 30),(2,.grow 13 56)],3⟩⟩ (Cf w):=fh Tryz.f207 (pa pn (LV w)) w
theorem ael(w:Nat):KH 138 ⟨1,⟨[(0,.ptr 0 0)],[(0,.cells [.gr 1 14,.v,vI,.gr 2 13,.v,.v,.v] 132),(1,.grow 14 30),(2,.grow 13 56)],3⟩,1,⟨[(0,vI)],[(0,.cells [.gr 1 14,.v,vI,.gr 2 13,.v,.v,.v] 132),(1,.grow 14 30),(2,.grow 13 56)],3⟩⟩ (GH w):=fh Tryz.f138 (ph pn (UI w)) w
theorem aem(w:Nat):nB Tryz.prog 139 ⟨1,⟨[(0,.ptr 0 0)],[(0,.cells [.gr 1 14,.v,.i .i64,.gr 2 13,.v,.v,.v] 132),(1,.grow 14 30),(2,.grow 13 56)],3⟩,1,⟨[(0,.i .i64)],[(0,.cells [.gr 1 14,.v,.i .i64,.gr 2 13,.v,.v,.v] 132),(1,.grow 14 30),(2,.grow 13 56)],3⟩⟩ (show Fn (HT.ti ⟨1,⟨[(0,.ptr 0 0)],[(0,.cells [.gr 1 14,.v,.i .i64,.gr 2 13,.v,.v,.v] 132),(1,.grow 14 30),(2,.grow 13 56)],3⟩,1,⟨[(0,.i .i64)],[(0,.cells [.gr 1 14,.v,.i .i64,.gr 2 13,.v,.v,.v] 132),(1,.grow 14 30),(2,.grow 13 56)],3⟩⟩).ks (Zh (bL (HT.to ⟨1,⟨[(0,.ptr 0 0)],[(0,.cells [.gr 1 14,.v,.i .i64,.gr 2 13,.v,.v,.v] 132),(1,.grow 14 30),(2,.grow 13 56)],3⟩,1,⟨[(0,.i .i64)],[(0,.cells [.gr 1 14,.v,.i .i64,.gr 2 13,.v,.v,.v] 132),(1,.grow 14 30),(2,.grow 13 56)],3⟩⟩).ks)) from(sS w)):=by
 have k:KH 139 ⟨1,⟨[(0,.ptr 0 0)],[(0,.cells [.gr 1 14,.v,vI,.gr 2 13,.v,.v,.v] 132),(1,.grow 14 30),(2,.grow 13 56)],3⟩,1,⟨[(0,vI)],[(0,.cells [.gr 1 14,.v,vI,.gr 2 13,.v,.v,.v] 132),(1,.grow 14 30),(2,.grow 13 56)],3⟩⟩ (yL lf w):=fh Tryz.f139 (pa (pa pn (Bc w)) (adR w)) w ln (λn=>cond (Nat.beq n 200002) true (Nat.beq n 300003));have e:yL lf w=sS w:=by unfold sS yL;simp only[xE]
 rw[<-e];exact k
theorem aeu(w:Nat):nB Tryz.prog 208 ⟨3,⟨[(0,.ptr 0 0),(1,.i .i64),(2,.v)],[(0,.cells [.gr 1 14,.v,.i .i64,.gr 2 13,.v,.v,.v] 132),(1,.grow 14 30),(2,.grow 13 56)],3⟩,1,⟨[(0,.aH [])],[(0,.cells [.gr 1 14,.v,.i .i64,.gr 2 13,.v,.v,.v] 132),(1,.grow 14 30),(2,.grow 13 56)],3⟩⟩ (show Fn (HT.ti ⟨3,⟨[(0,.ptr 0 0),(1,.i .i64),(2,.v)],[(0,.cells [.gr 1 14,.v,.i .i64,.gr 2 13,.v,.v,.v] 132),(1,.grow 14 30),(2,.grow 13 56)],3⟩,1,⟨[(0,.aH [])],[(0,.cells [.gr 1 14,.v,.i .i64,.gr 2 13,.v,.v,.v] 132),(1,.grow 14 30),(2,.grow 13 56)],3⟩⟩).ks (Zh (bL (HT.to ⟨3,⟨[(0,.ptr 0 0),(1,.i .i64),(2,.v)],[(0,.cells [.gr 1 14,.v,.i .i64,.gr 2 13,.v,.v,.v] 132),(1,.grow 14 30),(2,.grow 13 56)],3⟩,1,⟨[(0,.aH [])],[(0,.cells [.gr 1 14,.v,.i .i64,.gr 2 13,.v,.v,.v] 132),(1,.grow 14 30),(2,.grow 13 56)],3⟩⟩).ks)) from(rA w)):=by
 have k:KH 208 ⟨3,⟨[(0,.ptr 0 0),(1,vI),(2,.v)],[(0,.cells [.gr 1 14,.v,vI,.gr 2 13,.v,.v,.v] 132),(1,.grow 14 30),(2,.grow 13 56)],3⟩,1,⟨[(0,.aH [])],[(0,.cells [.gr 1 14,.v,vI,.gr 2 13,.v,.v,.v] 132),(1,.grow 14 30),(2,.grow 13 56)],3⟩⟩ (Cg lf w):=fh Tryz.f208 pn w;have e:Cg lf w=rA w:=by unfold rA Cg;simp only[xE]
 rw[<-e];exact k
theorem aev(w:Nat):K 209 [.v] (.aH [vI,.v,vI]) (GN w):=fr Tryz.f209 (pa (pa (pa pn (UO w)) (Mc w)) (xX w)) w
theorem aeo(w:Nat):KH 140 ⟨1,⟨[(0,.ptr 0 0)],[(0,.cells [.gr 1 14,.v,vI,.gr 2 13,.v,.v,.v] 132),(1,.grow 14 30),(2,.grow 13 56)],3⟩,1,⟨[(0,vI)],[(0,.cells [.gr 1 14,.v,vI,.gr 2 13,.v,.v,.v] 132),(1,.grow 14 30),(2,.grow 13 56)],3⟩⟩ (GI w):=fh Tryz.f140 (pa (ph (ph pn (aeu w)) (UI w)) (aev w)) w (lc 0 [(0,.ptr 0 0),(3,vI)] [(0,.cells [.gr 4 14,.v,vI,.gr 5 13,.v,.v,.v] 132),(4,.grow 14 30),(5,.grow 13 56)] 6 ln)
theorem aep(w:Nat):KH 141 ⟨1,⟨[(0,.ptr 0 0)],[(0,.cells [.gr 1 14,.v,vI,.gr 2 13,.v,.v,.v] 132),(1,.grow 14 30),(2,.grow 13 56)],3⟩,3,⟨[(0,vI)],[(0,.cells [.gr 1 14,.v,vI,.gr 2 13,.v,.v,.v] 132),(1,.grow 14 30),(2,.grow 13 56)],3⟩⟩ (GJ w):=fh Tryz.f141 (pa (pa pn (Mg w)) (LG w)) w
theorem UA(w:Nat):KH 74 ⟨1,⟨[(0,.v)],[],0⟩,0,⟨[(0,.aH [.ptr 0 0,vI])],[(0,.cells [.gr 1 14,.v,vI,.gr 2 13,.v,.v,.v] 132),(1,.grow 14 30),(2,.grow 13 56)],3⟩⟩ (yH w):=fh Tryz.f74 (ph (ph (ph (ph pn (ael w)) (aem w)) (aeo w)) (aep w)) w ln (λn=>Nat.blt n 100000)
theorem ES(w:Nat):K 29 [.v] (.aH [.agg [.v],vI,vI]) (rp w):=fr Tryz.f29 (ph pn (UA w)) w
end
noncomputable section
def ahS(w:Nat):RK 406 [vI,vI] (.b):=rr Tryz.f406 pn w
def ahY(w:Nat):RK 460 [vI] (.aH [.v,vI]):=rr Tryz.f460 pn w
def ahZ(w:Nat):RK 461 [vI] (.aH [.v,vI]):=rr Tryz.f461 pn w
def ah0(w:Nat):RK 462 [vI,vI] (.aH [.v,vI]):=rr Tryz.f462 pn w
def ahT(w:Nat):RK 407 [vI,vI] (.aH [.v,vI]):=rr Tryz.f407 (pa (pa (pa pn (ahY w).2) (ahZ w).2) (ah0 w).2) w
def ahH(w:Nat):RK 345 [vI,.agg [vI,vI,vI,.v]] (.b):=rr Tryz.f345 (pa (pa (pa pn (vN w)) (ahS w).2) (ahT w).2) w (lc 0 [(3,.ptr 0 0),(5,.v),(6,vI),(7,vI)] [(0,.cells [vI,vI,vI,.v] 136)] 1 ln)
def ahI(w:Nat):RK 346 [.v] (.b):=rr Tryz.f346 pn w (lc 0 [(0,.v),(3,vI)] [] 0 ln)
def Bx(w:Nat):RK 273 [vI,.v] (.b):=rr Tryz.f273 (pa (pa pn (ahH w).2) (ahI w).2) w (lc 0 [(0,vI),(1,.v),(5,vI)] [] 0 ln)
def ajR(w:Nat):Int->Qu->Zh (Bool):=(Bx w).1
def ah4(w:Nat):RK 472 [.agg [vI,.v,.v,.v,.v,.v,.v,.v]] (vI):=rr Tryz.f472 (pa pn (Bx w).2) w
def ML(w:Nat):RK 31 [.v] (.v):=rr Tryz.f31 pn w
def ajo(w:Nat):Qu->Zh (Qu):=(ML w).1
def alT(w:Nat)(rec:Qu->Qu->Qu->Zh (Qu)):Qu->Qu->Qu->Zh (Qu):=λa b c=>lp (α:=Nat->Nat->Int->Qu->Qu->Qu->H1 Qu->Zh Qu) (λ_ _ _ _ _ _ _=>none) (λk l m n o p q r=>ar p λs=>bif ak n (Int.ofNat s) then aE n λt=>aJ 4 t p λu=>af (List.drop 1 u) λv y=>af y λz a0=>af a0 λa1 a2=>ob (rec v z a1) λa3=>dN 3 a3 λa4 a5=>bif a5.length.beq (a4*3)&&((0+l*3).ble r.length&&Nat.beq 261 261) then bif(l+a4).ble m then bif(0+l*3+a5.length).ble r.length then k (l+a4) m (ag .i64 (n.add 1)) o p q (aX (0+l*3) a5 r) else none else bif aF a4&&(aF l&&(Builtin.nextslicecap (l+a4) m).ble 5000000000) then none else none else none else some (ae l (List.drop 0 r))) w 1 1 0 a b c [a,b,c]
def Yh(w:Nat):Qu->Qu->Qu->Zh (Qu):=mh (iZ (VT.fu [.agg [.v,.v,.v]])) (alT w) w
theorem LN(w:Nat):K 468 [.agg [.v,.v,.v]] (.v) (Yh w):=AG (λrec h=>fr Tryz.f468 (pa pn h) w (lc 0 [(1,.ptr 0 0),(3,.sl 1 0),(4,vI)] [(0,.cells [.v,.v,.v] 261),(1,.arr 261)] 2 ln)) w
def ah2(w:Nat):RK 465 [.agg [vI,.v]] (.v):=rr Tryz.f465 (pa pn (LN w)) w (lc 0 [(1,.ptr 0 0),(3,.gr 1 3),(4,vI)] [(0,.cells [vI,.v] 217),(1,.grow 3 261)] 2 ln)
def By(w:Nat):RK 415 [.agg [.v,.v,.v]] (vI):=rr Tryz.f415 pn w
def Yg(w:Nat):Qu->Qu->Qu->Zh (Int):=(By w).1
def Fy(w:Nat):RK 469 [.v] (vI):=rr Tryz.f469 pn w
def Ws(w:Nat):RK 487 [vI] (vI):=rr Tryz.f487 pn w
def Wv(w:Nat):RK 496 [vI,vI] (vI):=rr Tryz.f496 (pa pn (E9 w)) w
def Wt(w:Nat):RK 488 [vI,vI] (vI):=rr Tryz.f488 (pa pn (Wv w).2) w
def aj5(w:Nat):Int->Int->Zh (Int):=(Wt w).1
def ahV(w:Nat):RK 417 [] (.v):=rr Tryz.f417 pn w
def MS(w:Nat):RK 485 [vI] (.b):=rr Tryz.f485 pn w
def aj3(w:Nat):Int->Zh (Bool):=(MS w).1
def ah7(w:Nat):RK 484 [.v,vI] (.b):=rr Tryz.f484 (pa pn (MS w).2) w (lc 0 [(0,.v),(1,vI),(5,.ptr 0 0),(6,vI)] [(0,.cells [.v,vI,vI,vI] 293)] 1 ln)
def ah1(w:Nat):RK 463 [.v] (.b):=rr Tryz.f463 (pa pn (ah7 w).2) w (lc 0 [(0,.v),(3,vI)] [] 0 ln)
def FA(w:Nat):RK 470 [.agg [.v,vI,vI,vI],vI] (vI):=rr Tryz.f470 pn w (lc 0 [(1,vI),(2,.ptr 0 0),(5,vI)] [(0,.cells [.v,vI,vI,vI] 293)] 1 ln)
def Yi(w:Nat):Qu->Int->Int->Int->Int->Zh (Int):=(FA w).1
def Wr(w:Nat):RK 486 [.agg [.v,vI,vI,vI],vI] (.b):=rr Tryz.f486 (pa pn (FA w).2) w
def aj4(w:Nat):Qu->Int->Int->Int->Int->Zh (Bool):=(Wr w).1
def XB(a:Int)(b:Qu)(c:Int)(d:Qu)(rec:Qu->Qu->Qu->Qu->Int->Zh (Bool))(e:Qu)(f:Qu->Int->Qu->Qu->Qu->Qu->Int->Int->Int->Zh Bool)(g:Qu)(h:Qu)(i:Int)(j:Int)(k:Int):Zh (Bool):=aE a λl=>aJ 4 l b λm=>af (List.drop 1 m) λn o=>af o λp q=>af q λr s=>aE c λt=>aJ 2 t d λu=>af (List.drop 1 u) λv y=>aw .i64 v λz=>ob (rec n p r e z) λa0=>bif !a0 then some false else f e (ag .i64 (a.add 1)) g b h d i j k
def XA(w:Nat)(rec:Qu->Qu->Qu->Qu->Int->Zh (Bool))(a:Qu)(b:Qu)(c:Qu)(d:Qu)(e:Qu)(f:Int)(g:Int)(h:Int):Zh (Bool):=lp (α:=Qu->Int->Qu->Qu->Qu->Qu->Int->Int->Int->Zh Bool) (λ_ _ _ _ _ _ _ _ _=>none) (λr s t u v y z a0 a1 a2=>ar u λa3=>bif ak t (Int.ofNat a3) then aE t λa4=>aJ 4 a4 u λa5=>af a5 λa6 a7=>aw .i64 a6 λa8=>af a7 λa9 b0=>aw .i64 a9 λb1=>af b0 λb2 b3=>aw .i64 b2 λb4=>af b3 λb5 b6=>ob (aj3 w a8) λb7=>bif !b7 then some false else ob (aj4 w z a0 a1 a2 a8) λb8=>bif b8 then some false else ob (G0 w b1 b4 b5) λb9=>bif !b9 then some false else bif ak 0 t then aE (ag .i64 (t.sub 1)) λc0=>aJ 4 c0 u λc1=>af (List.drop 0 c1) λc2 c3=>aw .i64 c2 λc4=>bif !ak c4 a8 then some false else r s (ag .i64 (t.add 1)) u v y z a0 a1 a2 else r s (ag .i64 (t.add 1)) u v y z a0 a1 a2 else lp (α:=Qu->Int->Qu->Qu->Qu->Qu->Int->Int->Int->Zh Bool) (λ_ _ _ _ _ _ _ _ _=>none) (λd4 d5 d6 d7 d8 d9 e0 e1 e2 e3=>ar d8 λe4=>bif ak d6 (Int.ofNat e4) then aE d6 λe5=>aJ 4 e5 d8 λe6=>af (List.drop 0 e6) λe7 e8=>aw .i64 e7 λe9=>ob (Yi w e0 e1 e2 e3 e9) λf0=>bif ak f0 0 then some false else bif ak 0 d6 then aE d6 λf1=>aJ 4 f1 d8 λf2=>af (List.drop 0 f2) λf3 f4=>aw .i64 f3 λf5=>aE (ag .i64 (d6.sub 1)) λf6=>aJ 4 f6 d8 λf7=>af (List.drop 0 f7) λf8 f9=>aw .i64 f8 λg0=>bif !ak g0 f5 then some false else XB d6 d8 f0 e0 rec d5 d4 d7 d9 e1 e2 e3 else XB d6 d8 f0 e0 rec d5 d4 d7 d9 e1 e2 e3 else some true) w s 0 u v y z a0 a1 a2) w a 0 b c d e f g h
def alR(w:Nat)(rec:Qu->Qu->Qu->Qu->Int->Zh (Bool)):Qu->Qu->Qu->Qu->Int->Zh (Bool):=λa b c d e=>aE e λf=>aJ 4 f d λg=>af g λh i=>af i λj k=>aw .i64 j λl=>af k λm n=>aw .i64 m λo=>af n λp q=>aw .i64 p λr=>ob (Yg w a b c) λs=>bif ak s 1 then some false else bif ak 65535 s then some false else ar c λt=>bif ak 0 (Int.ofNat t) then bif aj l 0 then some false else XA w rec d a b c h l o r else XA w rec d a b c h l o r
def aj0(w:Nat):Qu->Qu->Qu->Qu->Int->Zh (Bool):=mh (iZ (VT.fu [.agg [.v,.v,.v],.v,.i .i64])) (alR w) w
theorem aeL(w:Nat):K 464 [.agg [.v,.v,.v],.v,vI] (.b) (aj0 w):=AG (λrec h=>fr Tryz.f464 (pa (pa (pa (pa (pa (pa pn (By w).2) (MS w).2) (vN w)) (Wr w).2) (FA w).2) h) w (lc 0 [(1,.v),(3,.ptr 0 0),(7,.ptr 1 0),(9,vI)] [(0,.cells [.v,.v,.v] 261),(1,.cells [.v,vI,vI,vI] 293)] 2 (lc 2 [(1,.v),(3,.ptr 0 0),(7,.ptr 1 0),(11,vI)] [(0,.cells [.v,.v,.v] 261),(1,.cells [.v,vI,vI,vI] 293)] 2 ln))) w
def MR(w:Nat):RK 411 [.v,vI,.v] (.v):=rr Tryz.f411 pn w
def Wl(w:Nat):RK 412 [.v,vI,vI,vI,vI] (.v):=rr Tryz.f412 (pa (pa pn (EV w)) (MR w).2) w
def Ww(w:Nat):RK 497 [vI,vI] (.b):=rr Tryz.f497 (pa pn (Wv w).2) w
def aj9(w:Nat):Int->Int->Zh (Bool):=(Ww w).1
def XD(a:Int)(b:Int):=(ag .i64 ((ag .i64 ((ag .i64 ((ag .i64 (a.sub (a.tmod b))).add b)).sub 1)).sub (a.tmod b)))
def Xz(a:Int):=(aF ([Value.int .u8 a].length/1)&&[Value.int .u8 a].length.beq ([Value.int .u8 a].length/1*1))
def NV(a:Nat)(b:Qu)(c:H1 Qu)(d:Qu->Int->Int->Int->H1 Qu->Zh Qu)(e:Int)(f:Int)(g:Int):Zh (Qu):=aJ 1 a b λh=>af h λi j=>aw .u8 i λk=>bif aF c.length&&(Xz k) then d b e f (ag .i64 (g.add 1)) (c++[Value.int .u8 k]) else none
def XE(w:Nat)(a:Int)(b:Qu)(c:Int):Zh (Qu):=bif ak a 1 then some (ae 0 []) else bif ak 2 a then some (ae 0 []) else lp (α:=Qu->Int->Int->Int->H1 Qu->Zh Qu) (λ_ _ _ _ _=>none) (λi j k l m n=>ar j λo=>bif ak m (Int.ofNat o) then bif aj l 1 then ar j λp=>ar j λq=>bif aj k 0 then none else bif ak m (ag .i64 ((Int.ofNat p).sub ((Int.ofNat q).tmod k))) then bif aj k 0 then none else bif aj k 0 then none else aE (XD m k) λr=>NV r j n i k l m else aE m λs=>NV s j n i k l m else aE m λt=>NV t j n i k l m else some (ae (n.length/1) n)) w b c a 0 []
def aka(w:Nat):Qu->Int->Int->Zh (Qu):=λa b c=>ob (wA w b) λd=>bif aj d 0 then bif !aj b 8 then some (ae 0 []) else XE w c a b else XE w c a b
theorem aeR(w:Nat):K 499 [.v,vI,vI] (.v) (aka w):=fr Tryz.f499 (pa pn (Bb w)) w (lc 0 [(0,.v),(1,vI),(2,vI),(7,.gr 0 1),(8,vI)] [(0,.grow 1 5)] 1 ln)
def ah8(w:Nat):RK 490 [.agg [vI,vI,.v],vI] (.v):=rr Tryz.f490 (pa (pa (pa pn (vN w)) (LI w)) (aeR w)) w
def XC(a:Nat)(b:Qu)(c:Qu->Int->Int->Int->Int->Int->Int->Zh (Int×Bool))(d:Int)(e:Int)(f:Int)(g:Int)(h:Int)(i:Int):Zh (Int×Bool):=aJ 1 a b λj=>af j λk l=>aw .u8 k λm=>c b d e f (ag .i64 (g.add (ag .i64 (h.mul (ag .i64 m))))) (ag .i64 (Int.mul 256 h)) (ag .i64 (i.add 1))
def Yj(w:Nat):Qu->Int->Int->Int->Zh (Int×Bool):=λa b c d=>ob (wA w c) λe=>bif aj e 0 then some (0,false) else bif ak d 1 then some (0,false) else bif ak 2 d then some (0,false) else bif ak b 0 then some (0,false) else ar a λf=>bif ak (Int.ofNat f) b then some (0,false) else ar a λg=>bif ak (ag .i64 ((Int.ofNat g).sub b)) c then some (0,false) else lp (α:=Qu->Int->Int->Int->Int->Int->Int->Zh (Int×Bool)) (λ_ _ _ _ _ _ _=>none) (λo p q r s t u v=>bif ak v r then bif aj s 2 then aE (ag .i64 ((ag .i64 ((ag .i64 (q.add r)).sub 1)).sub v)) λy=>XC y p o q r s t u v else aE (ag .i64 (q.add v)) λz=>XC z p o q r s t u v else some (t,true)) w a b c d 0 1 0
theorem aeQ(w:Nat):K 498 [.v,vI,vI,vI] (.aH [vI,.b]) (Yj w):=fr Tryz.f498 (pa pn (Bb w)) w (lc 0 [(0,.v),(1,vI),(2,vI),(3,vI),(10,vI),(11,vI),(12,vI)] [] 0 ln)
def Wm(w:Nat):RK 414 [.v,vI,vI,vI] (vI):=rr Tryz.f414 pn w (lc 0 [(0,.v),(1,vI),(2,vI),(3,vI),(9,vI)] [] 0 ln)
def ah9(w:Nat):RK 491 [.agg [vI,vI,vI,vI],vI] (.aH [.v,.b]):=rr Tryz.f491 (pa pn (EV w)) w
def Wj(w:Nat):RK 350 [vI] (vI):=rr Tryz.f350 pn w
def Wo(w:Nat):RK 419 [vI] (.b):=rr Tryz.f419 pn w
def ahO(w:Nat):RK 354 [vI] (.b):=rr Tryz.f354 (pa pn (Wo w).2) w
def ahP(w:Nat):RK 355 [.v] (vI):=rr Tryz.f355 (pa pn (Wo w).2) w (lc 0 [(0,.v),(3,vI)] [] 0 ln)
def ahW(w:Nat):RK 418 [vI] (.b):=rr Tryz.f418 pn w
def ahN(w:Nat):RK 353 [.v,.b] (.v):=rr Tryz.f353 (pa pn (ahW w).2) w (lc 0 [(0,.v),(1,.b),(5,.gr 0 3),(6,vI)] [(0,.grow 3 185)] 1 ln)
def ahX(w:Nat):RK 459 [.agg [vI,.v,.v,.v,.v,.v,.v,.v,.v,.v,vI,vI,vI,.v]] (.b):=rr Tryz.f459 pn w
def Wc(w:Nat):RK 272 [.agg [vI,vI,vI,vI,vI],vI] (.aH [.v,.b]):=rr Tryz.f272 (pa pn (EV w)) w (lc 0 [(1,vI),(6,.gr 2 1),(7,.sl 1 0),(8,vI)] [(1,.arr 3),(2,.grow 1 5)] 3 ln)
def ajQ(w:Nat):Int->Int->Int->Int->Int->Int->Zh (Qu×Bool):=(Wc w).1
def Wd(w:Nat):RK 274 [vI,.v] (.agg [vI,vI,vI,.v]):=rr Tryz.f274 pn w
def X9(w:Nat):Int->Qu->Zh (Int×Int×Int×Qu):=(Wd w).1
def ah3(w:Nat):RH 466 ⟨5,⟨[(0,.gr 0 5),(1,vI),(2,vI),(3,vI),(4,vI)],[(0,.grow 5 307)],1⟩,0,⟨[(0,.gr 0 5)],[(0,.grow 5 307)],1⟩⟩:=rh Tryz.f466 (pa (pa pn (Fy w).2) (Ws w).2) w
def Wp(w:Nat):RH 466 ⟨5,⟨[(0,.gr 0 5),(1,vI),(2,vI),(3,vI),(4,vI)],[(0,.grow 5 307)],1⟩,1,⟨[(0,.gr 1 5)],[(1,.grow 5 307)],2⟩⟩:=rh Tryz.f466 (pa (pa pn (Fy w).2) (Ws w).2) w
def On(w:Nat):Int->Int->Int->Int->H1 Qu->Zh (H1 Qu):=(Wp w).1
def alS(w:Nat)(rec:Qu->Qu->Qu->Int->H1 Qu->Zh (H1 Qu)):Qu->Qu->Qu->Int->H1 Qu->Zh (H1 Qu):=λa b c d e=>ob (Yg w a b c) λf=>ob (On w 2 d 0 (ag .i64 (Int.add 6 (ag .i64 (Int.mul 12 f)))) e) λg=>lp (α:=Int->Int->H1 Qu->Qu->Qu->Qu->Zh (H1 Qu)) (λ_ _ _ _ _ _=>none) (λn o p q r s t=>ar r λu=>bif ak p (Int.ofNat u) then aE p λv=>aJ 4 v r λy=>af (List.drop 0 (List.drop 1 y)) λz a0=>aw .i64 z λa1=>aE p λa2=>aJ 4 a2 r λa3=>af (List.drop 1 (List.drop 1 a3)) λa4 a5=>aw .i64 a4 λa6=>ob (aj5 w a1 a6) λa7=>bif ak 0 a7 then aE p λa8=>aJ 4 a8 r λa9=>af (List.drop 0 a9) λb0 b1=>aw .i64 b0 λb2=>ob (On w 3 o b2 a7 q) λb3=>n o (ag .i64 (p.add 1)) b3 r s t else n o (ag .i64 (p.add 1)) q r s t else lp (α:=Int->Int->Int->H1 Qu->Qu->Qu->Qu->Zh (H1 Qu)) (λ_ _ _ _ _ _ _=>none) (λc1 c2 c3 c4 c5 c6 c7 c8=>ar c7 λc9=>bif ak c4 (Int.ofNat c9) then aE c4 λd0=>aJ 4 d0 c7 λd1=>af (List.drop 1 d1) λd2 d3=>af d3 λd4 d5=>af d5 λd6 d7=>ob (rec d2 d4 d6 c3 c5) λd8=>aE c4 λd9=>aJ 4 d9 c7 λe0=>af (List.drop 1 e0) λe1 e2=>af e2 λe3 e4=>af e4 λe5 e6=>ob (Yh w e1 e3 e5) λe7=>ar e7 λe8=>c1 c2 (ag .i64 (c3.add (Int.ofNat e8))) (ag .i64 (c4.add 1)) d8 c6 c7 c8 else ar c8 λe9=>bif ak 0 (Int.ofNat e9) then ar c8 λf0=>ob (On w 4 c2 0 (Int.ofNat f0) c5) λf1=>some f1 else some c5) w o (ag .i64 (o.add 1)) 0 q r s t) w d 0 g a b c
def aj1(w:Nat):Qu->Qu->Qu->Int->H1 Qu->Zh (H1 Qu):=mh (iZ (HT.ti ⟨3,⟨[(0,.gr 0 5),(1,.agg [.v,.v,.v]),(2,.i .i64)],[(0,.grow 5 307)],1⟩,1,⟨[(0,.gr 1 5)],[(1,.grow 5 307)],2⟩⟩).ks) (alS w) w
theorem aeM(w:Nat):KH 467 ⟨3,⟨[(0,.gr 0 5),(1,.agg [.v,.v,.v]),(2,vI)],[(0,.grow 5 307)],1⟩,1,⟨[(0,.gr 1 5)],[(1,.grow 5 307)],2⟩⟩ (aj1 w):=Kv (λrec h=>fh Tryz.f467 (ph (ph (pa (pa (pa pn (By w).2) (Wt w).2) (LN w)) (Wp w).2) h) w (lc 0 [(0,.gr 3 5),(2,vI),(4,.ptr 1 0),(7,vI)] [(3,.grow 5 307),(1,.cells [.v,.v,.v] 261)] 4 (lc 2 [(0,.gr 3 5),(2,vI),(4,.ptr 1 0),(9,vI),(10,vI)] [(3,.grow 5 307),(1,.cells [.v,.v,.v] 261)] 4 ln))) w
def Wk(w:Nat):RK 409 [.agg [vI,.v]] (.aH [.v,.b]):=rr Tryz.f409 (ph (ph (pa (pa (pa (pa (pa pn (ah2 w).2) (By w).2) (vN w)) (LN w)) (Fy w).2) (ah3 w).2) (aeM w)) w (lc 0 [(1,.ptr 0 0),(4,.v),(5,vI)] [(0,.cells [vI,.v] 217)] 1 (lc 2 [(1,.ptr 0 0),(4,.v),(5,vI),(6,vI)] [(0,.cells [vI,.v] 217)] 1 (lc 4 [(1,.ptr 0 0),(7,.gr 1 5),(8,vI),(9,vI)] [(0,.cells [vI,.v] 217),(1,.grow 5 307)] 2 ln)))
def MQ(w:Nat):RK 410 [.agg [vI,.v]] (vI):=rr Tryz.f410 (pa (pa pn (Fy w).2) (Wk w).2) w
def ahU(w:Nat):RK 408 [.agg [vI,.v],.v] (vI):=rr Tryz.f408 (pa (pa (pa pn (ah1 w).2) (aeL w)) (MQ w).2) w (lc 0 [(1,.v),(2,.ptr 0 0),(5,vI),(6,vI),(7,vI)] [(0,.cells [vI,.v] 217)] 1 ln)
def NW(a:Nat)(b:Qu)(c:H1 Qu)(d:Qu->Int->Int->Int->H1 Qu->Zh (H1 Qu))(e:Int)(f:Int)(g:Int):Zh (H1 Qu):=aJ 1 a b λh=>af h λi j=>aw .u8 i λk=>bif aF c.length&&(Xz k) then d b e f (ag .i64 (g.add 1)) (c++[Value.int .u8 k]) else none
def XF(w:Nat)(a:Int)(b:Qu)(c:Int):Zh (H1 Qu):=bif ak a 1 then some [] else bif ak 2 a then some [] else lp (α:=Qu->Int->Int->Int->H1 Qu->Zh (H1 Qu)) (λ_ _ _ _ _=>none) (λi j k l m n=>ar j λo=>bif ak m (Int.ofNat o) then bif aj l 1 then ar j λp=>ar j λq=>bif aj k 0 then none else bif ak m (ag .i64 ((Int.ofNat p).sub ((Int.ofNat q).tmod k))) then bif aj k 0 then none else bif aj k 0 then none else aE (XD m k) λr=>NW r j n i k l m else aE m λs=>NW s j n i k l m else aE m λt=>NW t j n i k l m else some n) w b c a 0 []
def akb(w:Nat):Qu->Int->Int->Zh (H1 Qu):=λa b c=>ob (wA w b) λd=>bif aj d 0 then bif !aj b 8 then some [] else XF w c a b else XF w c a b
theorem aeS(w:Nat):KH 499 ⟨3,⟨[(0,.v),(1,vI),(2,vI)],[],0⟩,0,⟨[(0,.gr 0 1)],[(0,.grow 1 5)],1⟩⟩ (akb w):=fh Tryz.f499 (pa pn (Bb w)) w (lc 0 [(0,.v),(1,vI),(2,vI),(7,.gr 0 1),(8,vI)] [(0,.grow 1 5)] 1 ln)
def Wu(w:Nat):RH 490 ⟨2,⟨[(0,.agg [vI,vI,.v]),(1,vI)],[],0⟩,0,⟨[(0,.gr 0 1)],[(0,.grow 1 5)],1⟩⟩:=rh Tryz.f490 (ph (pa (pa pn (vN w)) (LI w)) (aeS w)) w
def aj7(w:Nat):Int->Int->Qu->Int->Zh (H1 Qu):=(Wu w).1
def aj6(w:Nat):Int->Int->Int->Qu->Int->Zh (Int×Int×Int×Int×Bool):=λa b c d e=>bif ak a 0 then some (0,0,0,0,false) else bif ak 65535 a then some (0,0,0,0,false) else bif ak e 1 then some (0,0,0,0,false) else bif ak 2 e then some (0,0,0,0,false) else ob (G0 w b c d) λf=>bif !f then some (0,0,0,0,false) else ob (aj9 w b c) λg=>bif !g then some (0,0,0,0,false) else ob (aj7 w b c d e) λh=>lp (α:=Int->Int->Int->Int->Qu->Int->Int->Int->Int->H1 Qu->Zh (Int×Int×Int×Int×Bool)) (λ_ _ _ _ _ _ _ _ _ _=>none) (λs t u v y z a0 a1 a2 a3 a4=>bif ak (Int.ofNat (a4.length/1)) 4 then bif aF a4.length&&(aF 1&&Nat.beq 1 1) then s t u v y z a0 a1 a2 a3 (a4++[Value.int .u8 0]) else none else ob (Yj w (ae (a4.length/1) a4) 0 4 u) λa5=>some (t,v,y,a5.1,true)) w a e b c d 0 0 0 0 h
theorem aeN(w:Nat):K 489 [vI,.agg [vI,vI,.v],vI] (.aH [.agg [vI,vI,vI,vI],.b]) (aj6 w):=fr Tryz.f489 (ph (pa (pa (pa pn (vN w)) (Ww w).2) (aeQ w)) (Wu w).2) w (lc 0 [(0,vI),(2,vI),(4,.ptr 0 0),(6,.ptr 1 0),(8,.gr 2 1)] [(0,.cells [vI,vI,.v] 134),(1,.cells [vI,vI,vI,vI] 385),(2,.grow 1 5)] 3 ln)
def Wq(w:Nat):RK 471 [.v,.v,.agg [.v,.v,.v],vI,.agg [.v,vI,vI,vI],.v,vI] (.v):=rr Tryz.f471 (pa (pa (pa (pa (pa (pa pn (Wm w).2) (ah8 w).2) (MR w).2) (Wl w).2) (ah9 w).2) (aeN w)) w (lc 0 [(0,.v),(1,.v),(3,vI),(5,.v),(6,vI),(9,.ptr 0 0),(11,.ptr 1 0),(15,.gr 2 4),(16,vI)] [(0,.cells [.v,.v,.v] 261),(1,.cells [.v,vI,vI,vI] 293),(2,.grow 4 385)] 3 (lc 2 [(0,.v),(1,.v),(3,vI),(5,.v),(6,vI),(9,.ptr 0 0),(11,.ptr 1 0),(15,.gr 2 4),(20,vI)] [(0,.cells [.v,.v,.v] 261),(1,.cells [.v,vI,vI,vI] 293),(2,.grow 4 385)] 3 (lc 4 [(0,.v),(6,vI),(15,.gr 4 4),(22,vI),(23,vI)] [(4,.grow 4 385)] 5 (lc 6 [(0,.v),(6,vI),(15,.gr 4 4),(22,vI),(23,vI),(24,vI),(25,vI)] [(4,.grow 4 385)] 5 ln))))
def aj2(w:Nat):Qu->Qu->Qu->Qu->Qu->Int->Qu->Int->Int->Int->Qu->Int->Zh (Qu):=(Wq w).1
def alQ(w:Nat)(rec:Qu->Qu->Qu->Qu->Qu->Int->Qu->Int->Int->Zh (Qu×Int)):Qu->Qu->Qu->Qu->Qu->Int->Qu->Int->Int->Zh (Qu×Int):=λa b c d e f g h i=>lp (α:=Qu->Qu->Int->Qu->Int->Int->Int->Int->Qu->Qu->Qu->H1 Qu->Zh (Qu×Int)) (λ_ _ _ _ _ _ _ _ _ _ _ _=>none) (λv y z a0 a1 a2 a3 a4 a5 a6 a7 a8 a9=>ar a7 λb0=>bif ak a5 (Int.ofNat b0) then bif aF a9.length&&(aF ([Value.int .i64 a4].length/1)&&[Value.int .i64 a4].length.beq ([Value.int .i64 a4].length/1*1)) then aE a5 λb1=>aJ 4 b1 a7 λb2=>af (List.drop 1 b2) λb3 b4=>af b4 λb5 b6=>af b6 λb7 b8=>aE a2 λb9=>aJ 4 b9 a1 λc0=>af (List.drop 0 c0) λc1 c2=>aE a2 λc3=>aJ 4 c3 a1 λc4=>af c4 λc5 c6=>af c6 λc7 c8=>aw .i64 c7 λc9=>af c8 λd0 d1=>aw .i64 d0 λd2=>af d1 λd3 d4=>aw .i64 d3 λd5=>aE a5 λd6=>aJ 4 d6 a7 λd7=>af (List.drop 0 d7) λd8 d9=>aw .i64 d8 λe0=>ob (Yi w c5 c9 d2 d5 e0) λe1=>aE e1 λe2=>aJ 2 e2 c1 λe3=>af (List.drop 1 e3) λe4 e5=>aw .i64 e4 λe6=>ob (rec y z b3 b5 b7 a4 a1 e6 a3) λe7=>v e7.1 z a0 a1 a2 a3 e7.2 (ag .i64 (a5.add 1)) a6 a7 a8 (a9++[Value.int .i64 a4]) else none else aE a2 λe8=>aJ 4 e8 a1 λe9=>af e9 λf0 f1=>af f1 λf2 f3=>aw .i64 f2 λf4=>af f3 λf5 f6=>aw .i64 f5 λf7=>af f6 λf8 f9=>aw .i64 f8 λg0=>ob (aj2 w y z a6 a7 a8 a0 f0 f4 f7 g0 (ae (a9.length/1) a9) a3) λg1=>some (g1,a4)) w a b f g h i (ag .i64 (f.add 1)) 0 c d e []
def ajZ(w:Nat):Qu->Qu->Qu->Qu->Qu->Int->Qu->Int->Int->Zh (Qu×Int):=mh (iZ (VT.fu [.v,.v,.agg [.v,.v,.v],.i .i64,.v,.i .i64,.i .i64])) (alQ w) w
theorem aeK(w:Nat):K 413 [.v,.v,.agg [.v,.v,.v],vI,.v,vI,vI] (.aH [.v,vI]) (ajZ w):=AG (λrec h=>fr Tryz.f413 (pa (pa (pa pn (FA w).2) (Wq w).2) h) w (lc 0 [(0,.v),(1,.v),(3,vI),(4,.v),(5,vI),(6,vI),(9,.ptr 0 0),(16,vI),(17,.gr 1 1),(18,vI)] [(0,.cells [.v,.v,.v] 261),(1,.grow 1 3)] 2 ln)) w
def Wi(w:Nat):RK 347 [.agg [vI,.v],.v] (.aH [.v,vI]):=rr Tryz.f347 (pa (pa (pa (pa (pa (pa (pa (pa pn (ahU w).2) (Wk w).2) (MQ w).2) (MR w).2) (Wl w).2) (Wm w).2) (By w).2) (aeK w)) w (lc 0 [(1,.v),(2,.ptr 0 0),(7,.v),(9,.v),(11,vI),(12,vI),(13,vI)] [(0,.cells [vI,.v] 217)] 4 ln)
def MP(w:Nat):RK 275 [.agg [vI,.v],.v] (.aH [.v,vI]):=rr Tryz.f275 (pa pn (Wi w).2) w
def ajS(w:Nat):Int->Qu->Qu->Zh (Qu×Int):=(MP w).1
def ahL(w:Nat):RK 351 [] (.v):=rr Tryz.f351 pn w
def ahE(w:Nat):RK 277 [.v] (.aH [.v,vI]):=rr Tryz.f277 (pa (pa pn (Wj w).2) (ahL w).2) w (lc 0 [(0,.v),(4,vI),(5,.gr 0 1),(6,vI)] [(0,.grow 1 26)] 1 ln)
def ahF(w:Nat):RK 279 [.v] (.b):=rr Tryz.f279 pn w
def Wg(w:Nat):RK 280 [.v] (.aH [.v,vI,vI,vI]):=rr Tryz.f280 (pa (pa pn (ahO w).2) (ahP w).2) w (lc 0 [(0,.v),(6,.gr 0 3),(7,vI)] [(0,.grow 3 185)] 1 ln) (λn=>cond (Nat.ble 400000 n) (Nat.blt n 500000) false)
def ahM(w:Nat):RK 352 [.v] (.aH [.v,vI]):=rr Tryz.f352 (pa pn (Wg w).2) w (lc 0 [(0,.v),(4,.v),(5,vI),(8,vI),(9,vI)] [] 0 ln)
def We(w:Nat):RK 278 [.v] (.b):=rr Tryz.f278 (pa (pa pn (ahN w).2) (ahM w).2) w
def ahR(w:Nat):RK 405 [vI,.v] (.aH [.v,vI]):=rr Tryz.f405 (pa (pa pn (Bx w).2) (MP w).2) w
def GV(E:Qu->Qu->Zh (Qu)->Zh (Qu))(w:Nat):Qu->Zh (Qu):=λa=>lp (α:=Qu->Int->H1 Qu->Zh Qu) (λ_ _ _=>none) (λe f g h=>ar f λi=>bif ak g (Int.ofNat i) then aE g λj=>aJ 3 j f λk=>af k λl m=>aw .i64 l λn=>af m λo p=>af p λq r=>bif aF h.length&&(aF 2&&(List.take 2 (List.drop 0 [Value.int .u8 255,Value.int .u8 (ag .u8 n)])).length.beq 2) then bif aj g 0 then e f (ag .i64 (g.add 1)) (h++List.take 2 (List.drop 0 [Value.int .u8 255,Value.int .u8 (ag .u8 n)])) else ar f λs=>bif aj g (ag .i64 ((Int.ofNat s).sub 1)) then e f (ag .i64 (g.add 1)) (h++List.take 2 (List.drop 0 [Value.int .u8 255,Value.int .u8 (ag .u8 n)])) else ar o λt=>bif aF (h++List.take 2 (List.drop 0 [Value.int .u8 255,Value.int .u8 (ag .u8 n)])).length&&(aF 2&&(List.take 2 (List.drop 0 [Value.int .u8 (ag .u8 (ag .i64 ((ag .i64 ((Int.ofNat t).add 2)).tdiv 256))),Value.int .u8 (ag .u8 ((ag .i64 ((Int.ofNat t).add 2)).tmod 256))])).length.beq 2) then dN 1 o λu v=>bif aF (h++List.take 2 (List.drop 0 [Value.int .u8 255,Value.int .u8 (ag .u8 n)])++List.take 2 (List.drop 0 [Value.int .u8 (ag .u8 (ag .i64 ((ag .i64 ((Int.ofNat t).add 2)).tdiv 256))),Value.int .u8 (ag .u8 ((ag .i64 ((Int.ofNat t).add 2)).tmod 256))])).length&&(aF u&&v.length.beq (u*1)) then E q q (dN 1 q λy z=>bif aF (h++List.take 2 (List.drop 0 [Value.int .u8 255,Value.int .u8 (ag .u8 n)])++List.take 2 (List.drop 0 [Value.int .u8 (ag .u8 (ag .i64 ((ag .i64 ((Int.ofNat t).add 2)).tdiv 256))),Value.int .u8 (ag .u8 ((ag .i64 ((Int.ofNat t).add 2)).tmod 256))])++v).length&&(aF y&&z.length.beq (y*1)) then e f (ag .i64 (g.add 1)) (h++List.take 2 (List.drop 0 [Value.int .u8 255,Value.int .u8 (ag .u8 n)])++List.take 2 (List.drop 0 [Value.int .u8 (ag .u8 (ag .i64 ((ag .i64 ((Int.ofNat t).add 2)).tdiv 256))),Value.int .u8 (ag .u8 ((ag .i64 ((Int.ofNat t).add 2)).tmod 256))])++v++z) else none) else none else none else none else some (ae (h.length/1) h)) w a 0 []
def Oi(w:Nat):Qu->Zh (Qu):=GV (λ_ _ r=>r) w
theorem aeD(w:Nat):cQ Tryz.prog 281 [.v] (.v) (Oi w):=by
 have k:K 281 [.v] (.v) (GV lf w):=fr Tryz.f281 pn w (lc 0 [(0,.v),(3,.gr 0 1),(4,vI)] [(0,.grow 1 5)] 1 ln) (λn=>Nat.beq n 200010);have e:GV lf w=Oi w:=by unfold Oi GV;simp only[xE]
 rw[<-e];exact k
def GM(E:Qu->Qu->Zh (Qu×Int)->Zh (Qu×Int))(w:Nat):Int->Qu->Qu->Zh (Qu×Int):=λa b c=>bif ak a 1 then some (ae 0 [],1) else bif ak 2 a then some (ae 0 [],1) else ar b λd=>bif ak (Int.ofNat d) 2 then some (ae 0 [],1) else lp (α:=Int->Int->Qu->Qu->H1 Qu->Zh (Qu×Int)) (λ_ _ _ _ _=>none) (λj k l m n o=>ar m λp=>bif ak k (Int.ofNat p) then aE k λq=>aJ 5 q m λr=>af r λs t=>aw .i64 s λu=>af t λv y=>aw .i64 v λz=>af y λa0 a1=>aw .i64 a0 λa2=>af a1 λa3 a4=>aw .i64 a3 λa5=>af a4 λa6 a7=>aw .i64 a6 λa8=>ob (ajQ w u z a2 a5 a8 l) λa9=>bif !a9.2 then some (ae 0 [],1) else dN 1 a9.1 λb0 b1=>bif aF o.length&&(aF b0&&b1.length.beq (b0*1)) then j (ag .i64 (k.add 1)) l m n (o++b1) else none else ob (ajR w 5 n) λb2=>bif !b2 then some (ae 0 [],6) else ar m λb3=>bif ak 4096 (Int.ofNat b3) then some (ae 0 [],7) else ar m λb4=>ob (O6 w 4 (ae ([Value.int .i64 (Int.ofNat b4)].length/1) [Value.int .i64 (Int.ofNat b4)])) λb5=>ob (X9 w 45056 (ae 4 (List.drop 0 [Value.int .u8 48,Value.int .u8 49,Value.int .u8 48,Value.int .u8 48]))) λb6=>bif aj b5.1 b5.1 then bif aj b5.2.1 b5.2.1 then E b5.2.2.1 b5.2.2.1 (bif aj l l then ob (X9 w 45058 (ae (o.length/1) o)) λb7=>bif aj b5.1 b5.1 then bif aj b5.2.1 b5.2.1 then E b5.2.2.1 b5.2.2.1 (bif aj l l then ar n λb8=>bif ak 0 (Int.ofNat b8) then none else ob (ajS w l (ae 1 [ae 3 (List.drop 0 [Value.int .i64 b6.1,Value.int .i64 b6.2.1,Value.int .i64 b6.2.2.1,b6.2.2.2,Value.int .i64 45057,Value.int .i64 b5.1,Value.int .i64 b5.2.1,b5.2.2.1,Value.int .i64 b7.1,Value.int .i64 b7.2.1,Value.int .i64 b7.2.2.1,b7.2.2.2]),ae 0 [],ae 0 []]) (ae 2 (List.drop 0 [ae 0 [],Value.int .i64 0,Value.int .i64 0,Value.int .i64 1,ae 0 [],Value.int .i64 0,Value.int .i64 0,Value.int .i64 (-1)]))) λb9=>some (b9.1,b9.2) else none) else none else none else none) else none else none) w 0 a b c []
def Ob(w:Nat):Int->Qu->Qu->Zh (Qu×Int):=GM (λ_ _ r=>r) w
theorem UH(w:Nat):cQ Tryz.prog 203 [.agg [.i .i64,.v,.v]] (.aH [.v,.i .i64]) (Ob w):=by
 have k:K 203 [.agg [vI,.v,.v]] (.aH [.v,vI]) (GM lf w):=fr Tryz.f203 (pa (pa (pa (pa (pa pn (Wc w).2) (Bx w).2) (Va w)) (Wd w).2) (MP w).2) w (lc 0 [(1,.ptr 0 0),(4,.gr 1 1),(5,vI)] [(0,.cells [vI,.v,.v] 103),(1,.grow 1 5)] 2 ln) (λn=>cond (Nat.beq n 200016) true (Nat.beq n 600016));have e:GM lf w=Ob w:=by unfold Ob GM;simp only[xE]
 rw[<-e];exact k
def Wh(w:Nat):RK 344 [.agg [.v],vI] (.aH [.v,vI]):=rr Tryz.f344 (pa (pa pn (ahR w).2) (UH w)) w (lc 0 [(2,.ptr 0 0),(7,.ptr 2 0),(8,vI)] [(0,.cells [.v] 24),(2,.cells [vI,.gr 3 5,.v] 103),(3,.grow 5 97)] 4 ln)
def ahD(w:Nat):RK 210 [.agg [vI,vI,.v]] (.agg [vI,vI,.v]):=rr Tryz.f210 (pa pn (ML w).2) w
def MM(w:Nat):RK 148 [.v] (.v):=rr Tryz.f148 (pa pn (ahD w).2) w (lc 0 [(0,.v),(3,.gr 0 4),(4,vI)] [(0,.grow 4 136)] 1 ln)
def ajJ(w:Nat):Qu->Zh (Qu):=(MM w).1
def ah5(w:Nat):RK 473 [.v,.agg [vI,vI,vI,.v]] (.v):=rr Tryz.f473 (pa pn (MM w).2) w (lc 0 [(0,.v),(3,.ptr 0 0),(5,.gr 1 4),(6,vI)] [(0,.cells [vI,vI,vI,.v] 136),(1,.grow 4 136)] 2 (lc 2 [(0,.v),(3,.ptr 0 0),(5,.gr 3 4),(7,vI)] [(0,.cells [vI,vI,vI,.v] 136),(3,.grow 4 136)] 4 ln))
def alU(w:Nat)(rec:Qu->Qu->Qu->Zh (Qu×Qu×Qu)):Qu->Qu->Qu->Zh (Qu×Qu×Qu):=λa b c=>ob (ajJ w a) λd=>ob (ajo w c) λe=>lp (α:=Int->Qu->Qu->Qu->Qu->Qu->H1 Qu->H1 Qu->H1 Qu->H1 Qu->Zh (Qu×Qu×Qu)) (λ_ _ _ _ _ _ _ _ _ _=>none) (λp q r s t u v y z a0 a1=>ar s λa2=>bif ak q (Int.ofNat a2) then aE q λa3=>aJ 4 a3 s λa4=>af (List.drop 0 a4) λa5 a6=>aw .i64 a5 λa7=>aE q λa8=>aJ 4 a8 s λa9=>af (List.drop 1 a9) λb0 b1=>af b1 λb2 b3=>af b3 λb4 b5=>ob (rec b0 b2 b4) λb6=>bif aF a1.length&&(aF 1&&(List.take 4 (List.drop 0 [Value.int .i64 a7,b6.1,b6.2.1,b6.2.2])).length.beq 4) then p (ag .i64 (q.add 1)) r s t u v y z a0 (a1++List.take 4 (List.drop 0 [Value.int .i64 a7,b6.1,b6.2.1,b6.2.2])) else none else some (u,ae (a1.length/4) a1,v)) w 0 a b c d e [] [] [] []
def aj8(w:Nat):Qu->Qu->Qu->Zh (Qu×Qu×Qu):=mh (iZ (VT.fu [.agg [.v,.v,.v]])) (alU w) w
theorem aeP(w:Nat):K 492 [.agg [.v,.v,.v]] (.agg [.v,.v,.v]) (aj8 w):=AG (λrec h=>fr Tryz.f492 (pa (pa (pa pn (MM w).2) (ML w).2) h) w (lc 0 [(1,.ptr 0 0),(2,.ptr 1 0),(3,.ptr 2 0),(4,vI)] [(0,.cells [.v,.v,.v] 261),(1,.cells [.gr 3 4,.gr 4 4,.gr 5 1] 261),(2,.cells [.v,.gr 6 4,.v] 261),(3,.grow 4 136),(4,.grow 4 346),(5,.grow 1 5),(6,.grow 4 346)] 7 ln)) w
def ah6(w:Nat):RK 474 [.agg [vI,.v]] (.agg [vI,.v]):=rr Tryz.f474 (pa pn (aeP w)) w (lc 0 [(1,.ptr 0 0),(2,.ptr 1 0),(3,.ptr 2 0),(4,vI)] [(0,.cells [vI,.v] 217),(1,.cells [vI,.gr 3 3] 217),(2,.cells [vI,.gr 4 3] 217),(3,.grow 3 261),(4,.grow 3 261)] 5 ln)
def Wn(w:Nat):RK 416 [.agg [vI,.v,.v,.v,.v,.v,.v,.v]] (.aH [.agg [vI,.v],vI]):=rr Tryz.f416 (pa (pa (pa pn (ah4 w).2) (ah5 w).2) (ah6 w).2) w
def ahJ(w:Nat):RK 348 [.agg [vI,.v,.v,.v,.v,.v,.v,.v]] (.aH [vI,vI]):=rr Tryz.f348 (pa (pa pn (MQ w).2) (Wn w).2) w
def ahK(w:Nat):RK 349 [.agg [vI,.v,.v,.v,.v,.v,.v,.v]] (.aH [.v,vI]):=rr Tryz.f349 (pa (pa (pa pn (Wn w).2) (ahV w).2) (Wi w).2) w
def Fx(w:Nat):RK 276 [.agg [vI,.v,.v,.v,.v,.v,.v,.v]] (.aH [.v,vI]):=rr Tryz.f276 (pa (pa pn (ahJ w).2) (ahK w).2) w
def ahQ(w:Nat):RK 404 [.agg [vI,.v,.v,.v,.v,.v,.v,.v,.v,.v,vI,vI,vI,.v],vI] (.b):=rr Tryz.f404 (pa (pa (pa (pa (pa pn (Wj w).2) (We w).2) (ahX w).2) (Bx w).2) (Fx w).2) w
def Wb(w:Nat):RK 204 [.agg [vI,.v,.v,.v,.v,.v,.v,.v,.v,.v,.v,vI,vI]] (.aH [.v,vI]):=rr Tryz.f204 (pa (pa (pa (pa (pa (pa pn (Fx w).2) (ahE w).2) (We w).2) (ahF w).2) (Wg w).2) (aeD w)) w (lc 0 [(6,.v),(7,.v),(11,.gr 4 3),(12,vI)] [(4,.grow 3 185)] 5 ln) (λn=>Nat.beq n 500014)
def MO(w:Nat):RK 271 [.agg [.v],vI] (.agg [vI,.v,.v,.v,.v,.v,.v,.v,.v,.v,.v,vI,vI]):=rr Tryz.f271 (pa (pa (pa pn (Wh w).2) (Fx w).2) (Wb w).2) w
def ahG(w:Nat):RK 343 [.agg [.v]] (.aH [vI,vI]):=rr Tryz.f343 (pa (pa (pa pn (Wh w).2) (ahQ w).2) (MO w).2) w (lc 0 [(1,.ptr 0 0),(4,vI),(5,vI)] [(0,.cells [.v] 24)] 1 (lc 2 [(1,.ptr 0 0),(4,vI),(5,vI),(6,vI)] [(0,.cells [.v] 24)] 1 (lc 4 [(1,.ptr 0 0),(4,vI),(8,vI),(9,vI)] [(0,.cells [.v] 24)] 2 ln)))
def MN(w:Nat):RK 270 [.agg [.v]] (vI):=rr Tryz.f270 (pa (pa pn (ahG w).2) (Fx w).2) w
def ahB(w:Nat):RK 202 [.agg [.v]] (.v):=rr Tryz.f202 (pa (pa pn (MN w).2) (MO w).2) w (lc 0 [(1,.ptr 0 0),(3,.gr 1 13),(4,vI)] [(0,.cells [.v] 24),(1,.grow 13 56)] 2 ln)
def ahA(w:Nat):RK 201 [.agg [.v]] (.aH [.v,vI]):=rr Tryz.f201 (pa (pa pn (MN w).2) (ahB w).2) w (lc 0 [(1,.ptr 0 0),(5,.v),(6,.gr 1 5),(7,vI),(8,vI)] [(0,.cells [.v] 24),(1,.grow 5 97)] 2 ln)
def ahC(w:Nat):RH 202 ⟨1,⟨[(0,.agg [.v])],[],0⟩,0,⟨[(0,.gr 0 13)],[(0,.grow 13 56)],1⟩⟩:=rh Tryz.f202 (pa (pa pn (MN w).2) (MO w).2) w (lc 0 [(1,.ptr 0 0),(3,.gr 1 13),(4,vI)] [(0,.cells [.v] 24),(1,.grow 13 56)] 2 ln)
def ahz(w:Nat):RK 136 [.agg [.v]] (.aH [.v,vI]):=rr Tryz.f136 (pa (ph (pa (pa pn (UH w)) (ahA w).2) (ahC w).2) (Wb w).2) w (lc 0 [(1,.ptr 0 0),(4,.v),(6,.gr 1 13),(7,.gr 2 1),(8,vI)] [(0,.cells [.v] 24),(1,.grow 13 56),(2,.grow 1 26)] 3 ln)
def V9(w:Nat):RK 70 [.agg [.v]] (.aH [.v,vI]):=rr Tryz.f70 (pa pn (ahz w).2) w (lc 0 [(4,.v),(5,vI),(6,.gr 1 1),(7,vI)] [(1,.grow 1 5)] 2 ln)
def yG(w:Nat):Qu->Zh (Qu×Int):=(V9 w).1
end
noncomputable section
theorem aek(w:Nat):K 135 [.v] (.aH [vI,.b]) (X4 w):=fr Tryz.f135 (pa (pa (pa pn (Bc w)) (Md w)) (Mc w)) w (lc 0 [(25,.v),(26,vI),(27,vI)] [] 2 ln)
theorem ad2(w:Nat):K 68 [.v,vI,.agg [vI,vI,vI,vI,vI]] (.aH [.v,.b]) (X0 w):=fr Tryz.f68 (pa (pa (pa pn (Bc w)) (UM w)) (aek w)) w
theorem UC(w:Nat):K 97 [.v,vI] (.aH [vI,.b]) (sQ w):=fr Tryz.f97 (pa pn (E8 w)) w
theorem adP(w:Nat):cQ Tryz.prog 23 [.v] (.aH [.v,.i .i64]) (Gr w):=abw w (UC w)
theorem adQ(w:Nat):K 25 [.v] (.aH [.v,vI]) (Gs w):=fr Tryz.f25 (pa (pa (pa (pa (pa pn (adP w)) (LV w)) (Bc w)) (Uz w)) (ad2 w)) w (lc 0 [(0,.v),(4,.v),(6,.ptr 0 0),(7,.ptr 1 0),(8,.gr 2 1),(43,vI),(44,vI)] [(0,.cells [vI,.v,.v,.v,.v,.v,.v,.v,.v,.v,.v,vI,vI] 56),(1,.cells [vI,.v,.v] 103),(2,.grow 1 3)] 3 (lc 2 [(0,.v),(6,.ptr 0 0),(11,.b),(12,.v),(73,.v),(74,vI),(75,vI)] [(0,.cells [vI,.v,.v,.v,.v,.v,.v,.v,.v,.v,.v,vI,vI] 56)] 3 ln))
end
noncomputable section
def sP(w:Nat):Qu->Zh (Bool):=λa=>lp (α:=Qu->Int->Zh Bool) (λ_ _=>none) (λd e f=>ar e λg=>bif ak f (Int.ofNat g) then aE f λh=>aJ 4 h e λi=>af (List.drop 2 (List.drop 1 i)) λj k=>ar j λl=>bif ak 600 (Int.ofNat l) then some true else d e (ag .i64 (f.add 1)) else ar e λm=>some (ak 60 (Int.ofNat m))) w a 0
theorem ad8(w:Nat):K 90 [.v] (.b) (sP w):=fr Tryz.f90 pn w (lc 0 [(0,.v),(3,vI)] [] 0 ln)
def B5(w:Nat):Qu->Zh (Bool):=λa=>lp (α:=Int->Qu->Zh Bool) (λ_ _=>none) (λd e f=>ar f λg=>bif ak e (Int.ofNat g) then bif ak e 7 then aE e λh=>aJ 14 h f λi=>af i λj k=>aw .i64 j λl=>af k λm n=>af n λo p=>af p λq r=>af r λs t=>af t λu v=>af v λy z=>af z λa0 a1=>af a1 λa2 a3=>af a3 λa4 a5=>af a5 λa6 a7=>aw .i64 a6 λa8=>af a7 λa9 b0=>aw .i64 a9 λb1=>af b0 λb2 b3=>aw .i64 b2 λb4=>af b3 λb5 b6=>ob (sP w m) λb7=>bif b7 then some true else ob (sP w o) λb8=>bif b8 then some true else ob (sP w q) λb9=>bif b9 then some true else ob (sP w s) λc0=>bif c0 then some true else ob (sP w u) λc1=>bif c1 then some true else ob (sP w b5) λc2=>bif c2 then some true else ar y λc3=>bif ak 2000 (Int.ofNat c3) then some true else ar a0 λc4=>bif ak 2000 (Int.ofNat c4) then some true else ar a2 λc5=>bif ak 2000 (Int.ofNat c5) then some true else ar a4 λc6=>bif ak 2000 (Int.ofNat c6) then some true else d (ag .i64 (e.add 1)) f else ar f λc7=>some (ak 6 (Int.ofNat c7)) else ar f λc8=>some (ak 6 (Int.ofNat c8))) w 0 a
theorem adT(w:Nat):K 40 [.agg [.v]] (.b) (B5 w):=fr Tryz.f40 (pa pn (ad8 w)) w (lc 0 [(1,.ptr 0 0),(3,vI)] [(0,.cells [.v] 24)] 1 ln)
def B8(w:Nat):Zh (Int×Qu×Qu×Qu×Qu×Qu×Qu×Qu×Qu×Qu×Int×Int×Int×Qu):=ob (O6 w 3 (ae 1 [Value.int .i64 1])) λa=>some (2,ae 1 (List.drop 0 [Value.int .i64 274,Value.int .i64 a.1,Value.int .i64 a.2.1,a.2.2.1]),ae 0 [],ae 0 [],ae 0 [],ae 0 [],ae 0 [],ae 0 [],ae 0 [],ae 15 (List.drop 0 [Value.int .u8 255,Value.int .u8 216,Value.int .u8 255,Value.int .u8 218,Value.int .u8 0,Value.int .u8 8,Value.int .u8 1,Value.int .u8 1,Value.int .u8 0,Value.int .u8 0,Value.int .u8 63,Value.int .u8 0,Value.int .u8 7,Value.int .u8 255,Value.int .u8 217]),0,0,0,ae 0 [])
theorem ad9(w:Nat):K 91 [] (.agg [vI,.v,.v,.v,.v,.v,.v,.v,.v,.v,vI,vI,vI,.v]) (B8 w):=fr Tryz.f91 (pa pn (Va w)) w
def N4(w:Nat):Qu->Zh (Qu):=λa=>ar a λb=>bif Nat.blt 0 b then dN 1 a λc d=>bif d.length.beq (c*1)&&(Nat.ble 0 0&&Nat.beq 3 3) then bif(0+c).ble 0 then bif(0+d.length).ble 0 then some (ae (0+c) (List.drop 0 (aX 0 d []))) else none else bif aF c&&(aF 0&&(Builtin.nextslicecap (0+c) 0).ble 5000000000) then some (ae ((List.take 0 (List.drop 0 [])++d).length/1) (List.take 0 (List.drop 0 [])++d)) else none else none else none
theorem ad4(w:Nat):K 87 [.v] (.v) (N4 w):=fr Tryz.f87 pn w
def ajA(w:Nat):Zh (Qu):=some (ae 0 [])
theorem ad6(w:Nat):K 87 [.em true] (.v) (ajA w):=fr Tryz.f87 pn w ln (λn=>Nat.blt n 100000)
def ajz(w:Nat):Zh (Qu):=some (ae 0 (List.drop 0 (aX 0 [] [])))
theorem ad5(w:Nat):K 87 [.em false] (.v) (ajz w):=fr Tryz.f87 pn w ln (λn=>Nat.blt n 100000)
def Gz(w:Nat):Qu->Zh (Qu):=λx=>ar x λn=>bif Nat.beq n 0 then some (ae 0 []) else N4 w x
theorem ad7(w:Nat):cQ Tryz.prog 87 [.v] .v (Gz w):=Ec (ad4 w) (show cQ Tryz.prog 87 [.em false] .v (some (ae 0 [])) from ad5 w) (show cQ Tryz.prog 87 [.em true] .v (some (ae 0 [])) from ad6 w)
def Gu(w:Nat):Qu->Zh (Qu×Qu×Int):=λa=>ob (yH w a) λb=>bif !aj b.1 0 then some (ae 0 [],ae 0 [],b.1) else ob (Gz w b.2.2.2.1) λc=>some (ae (List.length b.2.2.2.2.2.2.2 /13) b.2.2.2.2.2.2.2,c,0)
theorem adS(w:Nat):K 37 [.v] (.aH [.v,.v,vI]) (Gu w):=fr Tryz.f37 (pa (ph pn (UA w)) (ad7 w)) w
def sO(w:Nat):Qu->Zh (Qu×Int):=An (Gu w)
theorem Uw(w:Nat):cQ Tryz.prog 43 [.v] (.aH [.v,.i .i64]) (sO w):=aaU (adS w)
def GB(w:Nat):Qu->Zh (Bool):=λa=>ob (sQ w a 0) λb=>bif !b.2 then some true else ar a λc=>some !aj b.1 (Int.ofNat c)
theorem aeb(w:Nat):K 96 [.v] (.b) (GB w):=fr Tryz.f96 (pa pn (UC w)) w
def GL(w:Nat):Qu->Zh (Int):=λa=>ar a λb=>lp (α:=Qu->Int->Int->Zh Int) (λ_ _ _=>none) (λf g h i=>bif ak i h then aE i λj=>aJ 1 j g λk=>af k λl m=>ob (GB w l) λn=>bif n then some i else f g h (ag .i64 (i.add 1)) else some (-1)) w a (Int.ofNat b) 0
theorem aer(w:Nat):K 150 [.v,.fn 96 []] (vI) (GL w):=fr Tryz.f150 (pa pn (aeb w)) w (lc 0 [(0,.v),(1,.fn 96 []),(7,vI),(8,vI)] [] 0 ln)
def GA(w:Nat):Qu->Zh (Bool):=λa=>ob (GL w a) λb=>some !ak b 0
theorem aea(w:Nat):K 95 [.v,.fn 96 []] (.b) (GA w):=fr Tryz.f95 (pa pn (aer w)) w
def GC(w:Nat):Qu->Zh (Qu×Int):=λa=>ob (rp w a) λb=>some (a,b.2.2)
theorem aec(w:Nat):K 98 [.v] (.aH [.v,vI]) (GC w):=fr Tryz.f98 (pa pn (ES w)) w
def oh(w:Nat):Qu->Zh (Qu×Int):=λa=>ar a λb=>bif aj (Int.ofNat b) 0 then some (ae 0 [],1) else ob (GA w a) λc=>bif c then some (ae 0 [],2) else ob (Cb w a) λd=>ar a λe=>bif !ak 1 (Int.ofNat e) then ob (GC w d) λf=>bif !aj f.2 0 then some (ae 0 [],f.2) else some (f.1,0) else ob (Gs w d) λg=>bif !aj g.2 0 then some (ae 0 [],g.2) else ob (GC w g.1) λh=>bif !aj h.2 0 then some (ae 0 [],h.2) else some (h.1,0)
theorem Ux(w:Nat):K 44 [.v] (.aH [.v,vI]) (oh w):=fr Tryz.f44 (pa (pa (pa (pa pn (UD w)) (aea w)) (aec w)) (adQ w)) w ln (λn=>Nat.blt n 100000)
def B9(w:Nat):Int->Qu->Qu->Qu->Qu->Qu->Qu->Qu->Qu->Qu->Int->Int->Int->Qu->Zh (Qu×Int×Int×Int×Qu):=λa b c d e f g h i j k l m n=>ob (wk w (ae 1 (List.drop 0 [Value.int .i64 a,b,c,d,e,f,g,h,i,j,Value.int .i64 0,Value.int .i64 0,Value.int .i64 0,ae 0 []]))) λo=>some (o.1,k,l,m,n)
theorem UB(w:Nat):K 92 [.agg [vI,.v,.v,.v,.v,.v,.v,.v,.v,.v,vI,vI,vI,.v]] (.agg [.v,vI,vI,vI,.v]) (B9 w):=fr Tryz.f92 (pa pn (LD w)) w
def Gv(w:Nat):Qu->Zh (Qu×Int):=λa=>ob (rp w a) λb=>bif !aj b.2.2 0 then some (ae 0 [],b.2.2) else ar b.1 λc=>lp (α:=Qu->Int->Int->H1 Qu->Zh (Qu×Int)) (λ_ _ _ _=>none) (λh i j k l=>bif ak k j then aE k λm=>aJ 14 m i λn=>af n λo p=>aw .i64 o λq=>af p λr s=>af s λt u=>af u λv y=>af y λz a0=>af a0 λa1 a2=>af a2 λa3 a4=>af a4 λa5 a6=>af a6 λa7 a8=>af a8 λa9 b0=>af b0 λb1 b2=>aw .i64 b1 λb3=>af b2 λb4 b5=>aw .i64 b4 λb6=>af b5 λb7 b8=>aw .i64 b7 λb9=>af b8 λc0 c1=>ob (B9 w q r t v z a1 a3 a5 a7 a9 b3 b6 b9 c0) λc2=>bif aF l.length&&(aF 1&&(List.take 5 (List.drop 0 [c2.1,Value.int .i64 c2.2.1,Value.int .i64 c2.2.2.1,Value.int .i64 c2.2.2.2.1,c2.2.2.2.2])).length.beq 5) then h i j (ag .i64 (k.add 1)) (l++List.take 5 (List.drop 0 [c2.1,Value.int .i64 c2.2.1,Value.int .i64 c2.2.2.1,Value.int .i64 c2.2.2.2.1,c2.2.2.2.2])) else none else some (ae (l.length/5) l,0)) w b.1 (Int.ofNat c) 0 []
theorem adV(w:Nat):K 42 [.v] (.aH [.v,vI]) (Gv w):=fr Tryz.f42 (pa (pa pn (ES w)) (UB w)) w (lc 0 [(7,.gr 1 5),(20,.v),(21,vI),(22,vI)] [(1,.grow 5 83)] 2 ln)
def B7(w:Nat):Qu->Zh (Int×H1 Qu):=λa=>ob (rp w a) λb=>bif !aj b.2.2 0 then some (b.2.2,[]) else ar b.1 λc=>lp (α:=Qu->Int->Int->H1 Qu->Zh (Int×H1 Qu)) (λ_ _ _ _=>none) (λh i j k l=>bif ak k j then aE k λm=>aJ 14 m i λn=>af n λo p=>aw .i64 o λq=>af p λr s=>af s λt u=>af u λv y=>af y λz a0=>af a0 λa1 a2=>af a2 λa3 a4=>af a4 λa5 a6=>af a6 λa7 a8=>af a8 λa9 b0=>af b0 λb1 b2=>aw .i64 b1 λb3=>af b2 λb4 b5=>aw .i64 b4 λb6=>af b5 λb7 b8=>aw .i64 b7 λb9=>af b8 λc0 c1=>ob (B9 w q r t v z a1 a3 a5 a7 a9 b3 b6 b9 c0) λc2=>bif aF l.length&&(aF 1&&(List.take 5 (List.drop 0 [c2.1,Value.int .i64 c2.2.1,Value.int .i64 c2.2.2.1,Value.int .i64 c2.2.2.2.1,c2.2.2.2.2])).length.beq 5) then h i j (ag .i64 (k.add 1)) (l++List.take 5 (List.drop 0 [c2.1,Value.int .i64 c2.2.1,Value.int .i64 c2.2.2.1,Value.int .i64 c2.2.2.2.1,c2.2.2.2.2])) else none else some (0,l)) w b.1 (Int.ofNat c) 0 []
theorem adW(w:Nat):KH 42 ⟨1,⟨[(0,.v)],[],0⟩,0,⟨[(0,.aH [.gr 0 5,vI])],[(0,.grow 5 83)],1⟩⟩ (B7 w):=fh Tryz.f42 (pa (pa pn (ES w)) (UB w)) w (lc 0 [(7,.gr 1 5),(20,.v),(21,vI),(22,vI)] [(1,.grow 5 83)] 2 ln)
def Ca(E:Qu->Qu->Zh (Int×H1 Qu)->Zh (Int×H1 Qu))(w:Nat):Qu->Int->Int->Int->Qu->H1 Qu->Zh (Int×H1 Qu):=λa b c d e f=>ob (rp w a) λg=>bif !aj g.2.2 0 then some (g.2.2,f) else ar g.1 λh=>bif !aj (Int.ofNat h) 1 then some (2,f) else aJ 14 0 g.1 λi=>af i λj k=>aw .i64 j λl=>af k λm n=>af n λo p=>af p λq r=>af r λs t=>af t λu v=>af v λy z=>af z λa0 a1=>af a1 λa2 a3=>af a3 λa4 a5=>af a5 λa6 a7=>aw .i64 a6 λa8=>af a7 λa9 b0=>aw .i64 a9 λb1=>af b0 λb2 b3=>aw .i64 b2 λb4=>af b3 λb5 b6=>E e e (bif aj d d then bif aj c c then E e e (bif aj d d then E e e (bif aF f.length&&(aF 1&&(List.take 14 (List.drop 0 [Value.int .i64 l,m,o,q,s,u,y,a0,a2,a4,Value.int .i64 b,Value.int .i64 c,Value.int .i64 d,e])).length.beq 14) then some (0,f++List.take 14 (List.drop 0 [Value.int .i64 l,m,o,q,s,u,y,a0,a2,a4,Value.int .i64 b,Value.int .i64 c,Value.int .i64 d,e])) else none) else none) else none else none)
def yK(w:Nat):Qu->Int->Int->Int->Qu->H1 Qu->Zh (Int×H1 Qu):=Ca (λ_ _ r=>r) w
theorem aed(w:Nat):nB Tryz.prog 99 ⟨2,⟨[(0,.ptr 0 0),(1,.agg [.v,.i .i64,.i .i64,.i .i64,.v])],[(0,.cells [.gr 1 14] 168),(1,.grow 14 30)],2⟩,1,⟨[(0,.i .i64)],[(0,.cells [.gr 1 14] 168),(1,.grow 14 30)],2⟩⟩ (yK w):=by
 have k:KH 99 ⟨2,⟨[(0,.ptr 0 0),(1,.agg [.v,vI,vI,vI,.v])],[(0,.cells [.gr 1 14] 168),(1,.grow 14 30)],2⟩,1,⟨[(0,vI)],[(0,.cells [.gr 1 14] 168),(1,.grow 14 30)],2⟩⟩ (Ca lf w):=fh Tryz.f99 (pa pn (ES w)) w;have e:Ca lf w=yK w:=by unfold yK Ca;simp only[xE]
 rw[<-e];exact k
def rq(w:Nat):Qu->Zh (Qu×Int×Int):=λa=>ar a λb=>lp (α:=Int->Qu->Int->Int->H1 Qu->Zh (Qu×Int×Int)) (λ_ _ _ _ _=>none) (λh i j k l m=>bif ak l k then aE l λn=>aJ 5 n j λo=>af o λp q=>af q λr s=>aw .i64 r λt=>af s λu v=>aw .i64 u λy=>af v λz a0=>aw .i64 z λa1=>af a0 λa2 a3=>ob (yK w p t y a1 a2 m) λa4=>bif !aj a4.1 0 then some (ae 0 [],l,a4.1) else h i j k (ag .i64 (l.add 1)) a4.2 else ob (wk w (ae (m.length/14) m)) λa5=>bif !aj a5.2 0 then ob (zj w (ae (m.length/14) m)) λa6=>some (a5.1,a6.2,a5.2) else some (a5.1,i,a5.2)) w 0 a (Int.ofNat b) 0 []
theorem Uy(w:Nat):K 45 [.v] (.aH [.v,vI,vI]) (rq w):=fr Tryz.f45 (ph (pa (pa pn (LD w)) (Mg w)) (aed w)) w (lc 0 [(3,vI),(5,.ptr 0 0),(9,.v),(10,vI),(11,vI)] [(0,.cells [.gr 1 14] 168),(1,.grow 14 30)] 2 ln) (λn=>cond (Nat.beq n 400009) true (Nat.beq n 700009))
def mD(w:Nat):Zh (Bool):=ob (B8 w) λa=>ob (yG w (ae 1 (List.drop 0 [Value.int .i64 a.1,a.2.1,a.2.2.1,a.2.2.2.1,a.2.2.2.2.1,a.2.2.2.2.2.1,a.2.2.2.2.2.2.1,a.2.2.2.2.2.2.2.1,a.2.2.2.2.2.2.2.2.1,a.2.2.2.2.2.2.2.2.2.1,Value.int .i64 a.2.2.2.2.2.2.2.2.2.2.1,Value.int .i64 a.2.2.2.2.2.2.2.2.2.2.2.1,Value.int .i64 a.2.2.2.2.2.2.2.2.2.2.2.2.1,a.2.2.2.2.2.2.2.2.2.2.2.2.2]))) λb=>ob (B8 w) λc=>ob (B8 w) λd=>ob (yG w (ae 2 (List.drop 0 [Value.int .i64 c.1,c.2.1,c.2.2.1,c.2.2.2.1,c.2.2.2.2.1,c.2.2.2.2.2.1,c.2.2.2.2.2.2.1,c.2.2.2.2.2.2.2.1,c.2.2.2.2.2.2.2.2.1,c.2.2.2.2.2.2.2.2.2.1,Value.int .i64 c.2.2.2.2.2.2.2.2.2.2.1,Value.int .i64 c.2.2.2.2.2.2.2.2.2.2.2.1,Value.int .i64 c.2.2.2.2.2.2.2.2.2.2.2.2.1,c.2.2.2.2.2.2.2.2.2.2.2.2.2,Value.int .i64 d.1,d.2.1,d.2.2.1,d.2.2.2.1,d.2.2.2.2.1,d.2.2.2.2.2.1,d.2.2.2.2.2.2.1,d.2.2.2.2.2.2.2.1,d.2.2.2.2.2.2.2.2.1,d.2.2.2.2.2.2.2.2.2.1,Value.int .i64 d.2.2.2.2.2.2.2.2.2.2.1,Value.int .i64 d.2.2.2.2.2.2.2.2.2.2.2.1,Value.int .i64 d.2.2.2.2.2.2.2.2.2.2.2.2.1,d.2.2.2.2.2.2.2.2.2.2.2.2.2]))) λe=>ob (sO w e.1) λf=>bif !aj f.2 0 then some false else ar f.1 λg=>bif !aj (Int.ofNat g) 2 then some false else aJ 1 0 f.1 λh=>af h λi j=>ar i λk=>bif !aj (Int.ofNat k) 141 then some false else aJ 1 1 f.1 λl=>af l λm n=>ob (oe w m b.1) λo=>bif !o then some false else ob (oh w f.1) λp=>aJ 1 1 f.1 λq=>af q λr s=>ob (oh w (ae 1 (List.drop 0 [r]))) λt=>ob (oh w (ae 0 [])) λu=>ob (Gv w e.1) λv=>bif !aj p.2 0 then some false else bif !aj t.2 0 then some false else bif !aj u.2 1 then some false else bif !aj v.2 0 then some false else ar v.1 λy=>bif !aj (Int.ofNat y) 2 then some false else ob (oe w p.1 e.1) λz=>bif !z then some false else ob (oe w t.1 b.1) λa0=>bif !a0 then some false else ob (rq w v.1) λa1=>ob (rq w (ae 1 (List.drop 0 [e.1,Value.int .i64 0,Value.int .i64 0,Value.int .i64 0,ae 0 []]))) λa2=>aJ 5 0 v.1 λa3=>af (List.drop 0 a3) λa4 a5=>ob (oe w a4 b.1) λa6=>bif a6 then aJ 5 1 v.1 λa7=>af (List.drop 0 a7) λa8 a9=>ob (oe w a8 b.1) λb0=>bif b0 then ob (oe w a1.1 e.1) λb1=>bif b1 then bif aj a1.2.1 0 then bif aj a1.2.2 0 then bif aj a2.2.1 0 then some (aj a2.2.2 2) else some false else some false else some false else some false else some false else some false
theorem adU(w:Nat):K 41 [] (.b) (mD w):=fr Tryz.f41 (pa (pa (pa (pa (pa (pa (pa pn (ad9 w)) (V9 w).2) (Uw w)) (Uu w)) (Ux w)) (adV w)) (Uy w)) w
def Ff(w:Nat)(s t:H1 Qu)(u:Qu)(c d:Int):Zh Bool:=aE d λc1=>bif Nat.beq 5 5&&(c1*5).blt (List.length t) then af (List.drop (0+c1*5) t) λc2 c3=>af c3 λc4 c5=>aw .i64 c4 λc6=>af c5 λc7 c8=>aw .i64 c7 λc9=>af c8 λd0 d1=>aw .i64 d0 λd2=>af d1 λd3 d4=>aE c λd5=>bif Nat.beq 5 5&&(d5*5).blt (List.length s) then bif(SV.agg [SV.v c2,SV.i IntKind.i64 c6,SV.i IntKind.i64 c9,SV.i IntKind.i64 d2,SV.v d3]).cells.length.beq 5&&(0+d5*5+5).ble (List.length s) then ob (rq w (ae ((aX (0+d5*5) [c2,Value.int .i64 c6,Value.int .i64 c9,Value.int .i64 d2,d3] s).length/5) (aX (0+d5*5) [c2,Value.int .i64 c6,Value.int .i64 c9,Value.int .i64 d2,d3] s))) λd6=>bif !aj d6.2.2 0 then ar d6.1 λd7=>bif aj (Int.ofNat d7) 0 then ob (mD w) λd8=>some d8 else some false else ob (sO w d6.1) λd9=>bif !aj d9.2 0 then some false else ar d9.1 λe0=>ar u λe1=>bif !aj (Int.ofNat e0) (Int.ofNat e1) then some false else lp (α:=Int->Qu->Qu->Int->Zh Bool) (λ_ _ _ _=>none) (λe6 e7 e8 e9 f0=>ar e8 λf1=>bif ak f0 (Int.ofNat f1) then bif !aj f0 e7 then aE f0 λf2=>aJ 1 f2 e9 λf3=>af f3 λf4 f5=>aE f0 λf6=>aJ 1 f6 e8 λf7=>af f7 λf8 f9=>ob (oe w f4 f8) λg0=>bif !g0 then some false else e6 e7 e8 e9 (ag .i64 (f0.add 1)) else e6 e7 e8 e9 (ag .i64 (f0.add 1)) else ob (mD w) λg1=>some g1) w c u d9.1 1 else none else none else none
def N2(w:Nat):Qu->Qu->Int->Int->Zh (Bool):=λa b c d=>ob (B5 w a) λe=>bif e then ob (mD w) λf=>some f else ob (B5 w b) λg=>bif g then ob (mD w) λh=>some h else bif ak c 0 then ob (mD w) λi=>some i else bif ak d 0 then ob (mD w) λj=>some j else ar a λk=>bif !ak c (Int.ofNat k) then ob (mD w) λl=>some l else ar b λm=>bif !ak d (Int.ofNat m) then ob (mD w) λn=>some n else ob (wk w a) λo=>ob (wk w b) λp=>bif !aj o.2 0 then ob (mD w) λq=>some q else bif !aj p.2 0 then ob (mD w) λr=>some r else ob (B7 w o.1) λs=>ob (B7 w p.1) λt=>ob (sO w o.1) λu=>bif !aj s.1 0 then some false else bif !aj t.1 0 then some false else bif !aj u.2 0 then some false else ar a λv=>bif !aj (Int.ofNat (List.length s.2 /5)) (Int.ofNat v) then some false else ar b λy=>bif !aj (Int.ofNat (List.length t.2 /5)) (Int.ofNat y) then some false else ar u.1 λz=>bif !aj (Int.ofNat z) (Int.ofNat (List.length s.2 /5)) then some false else ar u.1 λa0=>ar u.1 λa1=>ar u.1 λa2=>bif a1.ble a2&&(a0.ble a1&&Nat.ble 0 a0) then bif a0.beq a1 then DM 1 0 a0 u.1 λa3=>aE c λa4=>aJ 1 a4 u.1 λa5=>af a5 λa6 a7=>zX 1 1 (List.take 1 (List.drop 0 [a6])) a3 λa8=>ob (oh w a8) λa9=>bif aj a9.2 0 then some false else bif ak 0 c then ar u.1 λb0=>aE c λb1=>aE c λb2=>bif b1.ble b0&&(b2.ble b1&&Nat.ble 0 b2) then bif b2.beq b1 then DM 1 0 b2 u.1 λb3=>ar u.1 λb4=>aE (ag .i64 (c.add 1)) λb5=>bif b4.ble b4&&b5.ble b4 then gC 1 b5 b4 u.1 λb6=>dN 1 b6 λb7 b8=>zX 1 b7 b8 b3 λb9=>ob (oh w b9) λc0=>bif aj c0.2 0 then some false else Ff w s.2 t.2 u.1 c d else none else none else none else Ff w s.2 t.2 u.1 c d else none else none
theorem adL(w:Nat):K 10 [.agg [.v],.agg [.v],vI,vI] (.b) (N2 w):=fr Tryz.f10 (ph (pa (pa (pa (pa (pa (pa (pa pn (adT w)) (LD w)) (Uw w)) (Ux w)) (Uy w)) (Uu w)) (adU w)) (adW w)) w (lc 0 [(2,vI),(15,.v),(24,.v),(26,vI)] [] 5 ln)
end
section
open Go.ChangeShapes Go.WideShapes Go.ChangeAt Go.RowKit Go.Joins Go.Deep
open YtcfjfbeadhnknaaGreatDoor
theorem own:ownKnob Tryz.prog.godebug=none:=by kernel_rfl
theorem laidOut:laidOutB Tryz.prog=true:=by kernel_rfl
theorem wok:cZ (maxLen+1):=⟨abV (by decide),by decide⟩
theorem QJ(ms:H1 aO)(hn:ms.length<=maxLen)(hr:∀p∈ms,zR p):C7 (maxLen+1) ms:=
 ⟨Nat.lt_succ_of_le hn,λp hp l hl=>⟨Nat.lt_succ_of_le (hr p hp l hl),Nat.lt_succ_of_le (hr p hp l hl)⟩⟩
end
theorem yJ{w:Nat}(l:H1 aN)(hl:l.length<2^63)(hw:l.length<w):sP w (au l)=some (mG l):=(show sP w (au l)=YE w (au l) from rfl).trans (akV l hl hw)
def yb(ms:H1 aO)(j:Nat):Bool:=match ms[j]? with|some p=>!C5 p|none=>true
def zC(ms:H1 aO):Bool:=!(List.range (min 7 ms.length)).all (yb ms)||decide (6<ms.length)
theorem ZL{ms:H1 aO}(h:zC ms=false):ms.length<=6/\∀p∈ms,eJ p:=by unfold zC at h;rw[Bool.or_eq_false_iff,gQ,Bool.not_eq_false',iE] at h;obtain⟨h1,h2⟩:=h;refine⟨by omega,λp hp=>?_⟩;obtain⟨i,hi,rfl⟩:=List.mem_iff_getElem.1 hp;have:=h1 i (List.mem_range.2 (by omega));unfold yb at this;rw[cw hi] at this;exact amt (by simpa using this)
theorem XV{w:Nat}(hw:10<=w){ms:H1 aO}(B:C7 w ms):B5 w (cI ms)=some (zC ms):=by
 have hb:=B.n;have hlr:∀K:Nat->Zh Bool,ar (cI ms) K=K ms.length:=λK=>bU cR ms K;unfold B5;refine(TH (ev:=λi (g:Int->Qu->Zh Bool)=>g i (cI ms)) (min 7 ms.length) (yb ms) (some true) (some (decide (6<ms.length))) ?_ ?_ (by omega)).trans ?_
 ·intro i g hi _;have hiL:i<ms.length:=by omega
  have e1:((i:Int)<(ms.length:Int)):=by omega
  have e2:((i:Int)<7):=by omega
  have hB:=B.rows _ (cx hiL);have b0:=hB ms[i].aG.cu (by simp);have b2:=hB ms[i].aG.bG (by simp);have b3:=hB ms[i].aG.bN (by simp);have b4:=hB ms[i].aG.bm (by simp);have b1:=hB ms[i].aG.first (by simp);have bv:=hB ms[i].view (by simp);have hok:yb ms i=!C5 ms[i]:=by unfold yb;rw[cw hiL]
  rw[hok];simp only[hlr,aU,bO,e1,e2,bd,aC,bH];rw[show cI ms=aA cR ms from rfl,bu kj hiL,nR];simp only[bc,bK];rw[yJ _ b0.1 b0.2,yJ _ b2.1 b2.2,yJ _ b3.1 b3.2,yJ _ b4.1 b4.2,yJ _ b1.1 b1.2,yJ _ bv.1 bv.2];simp only[aB];rw[cf,aQ (by omega) (by omega)];unfold C5;cases mG ms[i].aG.cu
  case true=>rfl
  cases mG ms[i].aG.bG
  case true=>rfl
  cases mG ms[i].aG.bN
  case true=>rfl
  cases mG ms[i].aG.bm
  case true=>rfl
  cases mG ms[i].aG.first
  case true=>rfl
  cases mG ms[i].view
  case true=>rfl
  simp only[aD,zJ];rw[cN,cN,cN,cN];have dd:∀n:Nat,decide ((2000:Int)<(n:Int))=decide (2000<n):=by intro n;rw[iD,cm,cm];omega
  rw[dd,dd,dd,dd];cases decide (2000<ms[i].aG.bF.length)
  case true=>rfl
  cases decide (2000<ms[i].aG.cP.length)
  case true=>rfl
  cases decide (2000<ms[i].cg.length)
  case true=>rfl
  cases decide (2000<ms[i].core.length)
  case true=>rfl
  rfl
 ·intro g _;have dd:ak 6 (Int.ofNat ms.length)=decide (6<ms.length):=by
   rw[aU,iD,cm,cm,bO];omega
  simp only[hlr];rw[dd];by_cases h:ms.length<=7
  ·have e1:¬(((min 7 ms.length:Nat):Int)<(ms.length:Int)):=by omega
   simp only[aU,bO,e1,bM,aD]
  ·have e1:(((min 7 ms.length:Nat):Int)<(ms.length:Int)):=by omega
   have e2:¬(((min 7 ms.length:Nat):Int)<7):=by omega
   simp only[aU,bO,e1,e2,bM,bd,aD,aC]
 ·unfold zC;cases h:(List.range (min 7 ms.length)).all (yb ms) with
  |true=>rw[ay rfl];rfl
  |false=>rw[aq (by simp)];rfl
def jT(p:aO):aO:=⟨p.aG,p.cg,p.core,0,0,0,[]⟩
def sc(p:aO):H1 UInt8:=(bV [jT p]).flatten
def iW(p:aO):H1 Qu:=[ah (sc p),.int .i64 p.attr,.int .i64 p.ee,.int .i64 p.ef,au p.view]
theorem qy(p:aO):(iW p).length=5:=rfl
def yj(ms:H1 aO):Qu:=aA iW ms
theorem Z0{p:aO}(h:eJ p):eJ (jT p):=⟨h.t0,h.t2,h.t3,h.t4,h.t1,⟨gU _,λt ht=>by cases ht⟩,h.T5,h.th,h.ic,h.co⟩
theorem ZZ{p:aO}(h:oI p=true):oI (jT p)=true:=by obtain⟨h1,h2,_,_⟩:=oJ h;show(!jG p&&(!nH p&&(!oE (jT p)&&!mP (jT p))))=true;rw[h1,h2];rfl
theorem Qy{p:aO}(h:eJ p)(g:oI p=true):dX [jT p]/\ga [jT p]=0/\(fS [jT p]).1 =0:=by
 have hm:∀q∈[jT p],eJ q:=λq hq=>by rw[nt.1 hq];exact Z0 h
 have hg:∀q∈[jT p],oI q=true:=λq hq=>by rw[nt.1 hq];exact ZZ g
 have hf:(fS [jT p]).1 =0:=(Ks hm (aM 1) (by show 1<=6;decide)).2 ⟨hg,rfl⟩;exact⟨⟨hm,by show 1<=6;decide,hg⟩,(Aj [jT p] (aM 1)).2 hf,hf⟩
theorem ajC{w:Nat}(W:cZ w)(hw:1000000<w){p:aO}(h:eJ p)(g:oI p=true):B9 w p.aG.order (au p.aG.cu) (au p.aG.bG) (au p.aG.bN) (au p.aG.bm) (au p.aG.first) (ah p.aG.bF) (ah p.aG.cP) (ah p.cg) (ah p.core) p.attr p.ee p.ef (au p.view)=some (ah (sc p),p.attr,p.ee,p.ef,au p.view):=by obtain⟨F,hc,_⟩:=Qy h g;have q:=Gq W hw F.mem (.inl F.le) (by show 1<=2000;decide);rw[ay hc] at q;unfold B9;refine(bX (λz=>ob z _) q).trans ?_;rfl
theorem abr{w:Nat}(W:cZ w)(hw:70000000<w){p:aO}(h:eJ p)(g:oI p=true):rp w (ah (sc p))=some (cI [jT p],0,0):=by obtain⟨F,hc,hf⟩:=Qy h g;exact XU W hw F (aM 1) hc hf
theorem adv(l:H1 aO):ae ((l.flatMap cR).length/14) (l.flatMap cR)=cI l:=by unfold cI aA;rw[cy kj,ir _ (by decide)]
theorem ahs(l:H1 aO):ae ((l.flatMap iW).length/5) (l.flatMap iW)=yj l:=by unfold yj aA;rw[cy qy,ir _ (by decide)]
theorem Zl{α:Type}{l:H1 α}{i:Nat}(h:i<l.length)(f:α->H1 Qu):(l.take i).flatMap f++f l[i]=(l.take (i+1)).flatMap f:=by rw[im h,fo,dG,lH,dP]
theorem WV{α:Type}{f:α->H1 Qu}{k:Nat}(hf:∀x,(f x).length=k)(l:H1 α)(h:l.length*k<=1000000):aF (l.flatMap f).length=true:=by unfold aF;rw[cy hf,iq];omega
theorem ajE{w:Nat}(W:cZ w)(hw:70000000<w){p:aO}(h:eJ p)(g:oI p=true)(acc:H1 Qu)(ha:aF acc.length=true):yK w (ah (sc p)) p.attr p.ee p.ef (au p.view) acc=some (0,acc++cR p):=by unfold yK Ca;rw[abr W hw h g,aB];rw[show(!aj ((cI [jT p],(0:Int),(0:Int)).snd.snd) 0)=false from rfl,aD];rw[show∀K:Nat->Zh (Int×H1 Qu),ar (cI [jT p],(0:Int),(0:Int)).fst K=K 1 fromλK=>rfl,show(!aj (Int.ofNat 1) 1)=false from rfl,aD];rw[show(cI [jT p],(0:Int),(0:Int)).fst=aA cR [jT p] from rfl,bu kj (l:=[jT p]) (m:=0) (by show 0<1;decide)];rw[show∀r,cR ([jT p][0])++r=cR (jT p)++r fromλ_=>rfl,nR];simp only[bc,bK,bY,bd,aC];rw[ha];rfl
theorem ajs{w:Nat}(W:cZ w)(hw:70000000<w){ms:H1 aO}(F:dX ms):rq w (yj ms)=some (if ga ms=0 then(ah (bV ms).flatten,0,0) else(ae 0 [],(fS ms).2,ga ms)):=by
 have h6:=F.le;have q:=Gq W (by omega) F.mem (.inl h6) (by omega);unfold rq;rw[show∀K:Nat->Zh (Qu×Int×Int),ar (yj ms) K=K ms.length fromλK=>bU iW ms K];refine gV (ev:=λi (g:Int->Qu->Int->Int->H1 Qu->Zh (Qu×Int×Int))=>g 0 (yj ms) (Int.ofNat ms.length) i ((ms.take i).flatMap cR)) ms.length ?_ ?_ (by omega)
 ·intro i g hi;have e1:((i:Int)<(ms.length:Int)):=by omega
  have r:=WV kj (ms.take i) (by rw[dk];omega);simp only[aU,bO,e1,bd,aC,bH];rw[show yj ms=aA iW ms from rfl,bu qy hi];rw[show∀r,iW ms[i]++r=ah (sc ms[i])::.int .i64 ms[i].attr::.int .i64 ms[i].ee::.int .i64 ms[i].ef::au ms[i].view::r fromλ_=>rfl];rw[bc,bc,bK,bc,bK,bc,bK,bc,ajE W hw (F.mem _ (cx hi)) (F.qn _ (cx hi)) _ r,aB];refine Eq.trans (b:=g 0 (aA iW ms) (ms.length:Int) (ag .i64 ((i:Int)+1)) ((ms.take i).flatMap cR++cR ms[i])) rfl ?_;rw[Zl hi,aQ (by omega) (by omega)];rfl
 ·intro g;have e1:¬((ms.length:Int)<(ms.length:Int)):=by omega
  simp only[aU,bO,e1,bM,aD];rw[mL,adv,q,aB];by_cases hc:ga ms=0
  ·rw[ay hc,ay hc];rfl
  ·rw[aq hc,aq hc,show(!aj (ae 0 [],ga ms).snd 0)=true by rw[bY,eB hc];rfl,aC,Pz W (by omega) F.mem (.inl (by omega)) (by omega)];rfl
end Lt
end Go.Proofs.YtcfjfbeadhnknaaGreatDoor

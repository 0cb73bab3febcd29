import Derived.Deep.Slices
import Derived.Deep.Fields
import Derived.OpenShut
import Derived.ProofKit
import Derived.ChangeSame
import Derived.Test.YtcfjfbeadhnknaaGreatDoorUG
namespace Go.Proofs.YtcfjfbeadhnknaaGreatDoor
set_option linter.unusedVariables false
set_option linter.unusedSimpArgs false
set_option linter.unusedSectionVars false
set_option linter.constructorNameAsVariable false
set_option maxRecDepth 100000
namespace Lt
structure aQ where
 aG:dr
 cj:List UInt8
 core:List UInt8
 attr:Int
 dY:Int
 dZ:Int
 view:List aK
def cD(p:aQ):List Value:=[.int .i64 p.aG.order,aw p.aG.cn,aw p.aG.bD,aw p.aG.bM,aw p.aG.bm,aw p.aG.first,ah p.aG.bC,ah p.aG.cH,ah p.cj,ah p.core,.int .i64 p.attr,.int .i64 p.dY,.int .i64 p.dZ,aw p.view]
theorem iQ(p:aQ):(cD p).length=14:=rfl
def cx(l:List aQ):Value:=aC cD l
theorem lL(p:aQ)(r:List Value):cD p++r=.int .i64 p.aG.order::aw p.aG.cn::aw p.aG.bD::aw p.aG.bM::aw p.aG.bm::aw p.aG.first::ah p.aG.bC::ah p.aG.cH::ah p.cj::ah p.core::.int .i64 p.attr::.int .i64 p.dY::.int .i64 p.dZ::aw p.view::r:=rfl
def TS(l:List aK):Prop:=l.length<=60/\∀t∈l,t.data.length<=600
structure ee(p:aQ):Prop where
 t0:TS p.aG.cn
 t2:TS p.aG.bD
 t3:TS p.aG.bM
 t4:TS p.aG.bm
 t1:TS p.aG.first
 tv:TS p.view
 Tx:p.aG.bC.length<=2000
 th:p.aG.cH.length<=2000
 ic:p.cj.length<=2000
 co:p.core.length<=2000
theorem ee.tu{p:aQ}(h:ee p):jC p.aG 9000:=by obtain⟨⟨a0,b0⟩,⟨a2,b2⟩,⟨a3,b3⟩,⟨a4,b4⟩,⟨a1,b1⟩,-,m1,m2,-,-⟩:=h;exact⟨⟨by omega,by omega,by omega,by omega,by omega⟩,λt ht=>by have:=b0 t ht;omega,λt ht=>by have:=b2 t ht;omega,λt ht=>by have:=b3 t ht;omega,λt ht=>by have:=b4 t ht;omega,λt ht=>by have:=b1 t ht;omega,by omega,by omega⟩
theorem ee.vs{p:aQ}(h:ee p):VS p.view:=⟨by have:=h.tv.1;omega,λt ht=>by have:=h.tv.2 t ht;omega⟩
def jF(p:aQ):Bool:=match iK p.aG with| .ok _=>false| .error _=>true
def zL(_:aQ):Bool:=false
def nq(p:aQ):Bool:=!nu p.core
def oi(p:aQ):Bool:=!decide ((0<=p.attr/\p.attr<4294967296)/\(0<=p.dY/\p.dY<65536)/\(0<=p.dZ/\p.dZ<65536))
def nr(p:aQ):Bool:=!cT 5 p.view
theorem Qi{x:dr}{e:Int}(h:iK x=.error e):e≠0:=by
 unfold iK at h
 grind
theorem ajg{w:Nat}(W:dC w){p:aQ}(h:ee p)(a b c:Int)(v x y:Value):Gv w p.aG.order (aw p.aG.cn) (aw p.aG.bD) (aw p.aG.bM) (aw p.aG.bm) (aw p.aG.first) (ah p.aG.bC) (ah p.aG.cH) x y a b c v=some (jF p):=by
 unfold Gv jF;rw[OQ W h.tu];cases he:iK p.aG with
 |ok b=>rfl
 |error e=>have:=Qi he;simp_all
theorem ajh{w:Nat}(W:dC w){p:aQ}(h:ee p)(o a b c:Int)(v x1 x2 x3 x4 x5 x6 x7 y:Value):Gw w o x1 x2 x3 x4 x5 x6 x7 (ah p.cj) y a b c v=some (zL p):=by
 have hi:=h.ic;unfold Gw zL;rw[cN,bU,Ys w _ (by omega)];simp only[aB,aV];have:w7 p.cj.length<=1:=by unfold w7;omega
 rw[gk (by omega)]
theorem ajk{w:Nat}(W:dC w){p:aQ}(h:ee p)(o a b c:Int)(v x1 x2 x3 x4 x5 x6 x7 x8:Value):Gx w o x1 x2 x3 x4 x5 x6 x7 x8 (ah p.core) a b c v=some (nq p):=by have hb:=W.ku;have hi:=h.co;unfold Gx nq;rw[O0 _ (by omega) (by omega)];rfl
theorem ajl{w:Nat}(W:dC w)(p:aQ)(o:Int)(v x1 x2 x3 x4 x5 x6 x7 x8 x9:Value):Gy w o x1 x2 x3 x4 x5 x6 x7 x8 x9 p.attr p.dY p.dZ v=some (oi p):=by
 have hb:=W.ku;unfold Gy oi;rw[A9 (by omega) _ (.inr rfl),vz (by omega) _ (.inr rfl),vz (by omega) _ (.inr rfl)];by_cases h1:0<=p.attr/\p.attr<4294967296
 ·by_cases h2:0<=p.dY/\p.dY<65536
  ·by_cases h3:0<=p.dZ/\p.dZ<65536
   ·simp_all
   ·simp[h3]
  ·simp[h2]
 ·simp[h1]
theorem ajm{w:Nat}(W:dC w){p:aQ}(h:ee p)(o a b c:Int)(x1 x2 x3 x4 x5 x6 x7 x8 x9:Value):GA w o x1 x2 x3 x4 x5 x6 x7 x8 x9 a b c (aw p.view)=some (nr p):=by have hb:=W.ku;obtain⟨a1,b1⟩:=h.tv;unfold GA nr;rw[q8 (by omega) 5 p.view (by omega) (λt ht=>by have:=b1 t ht;omega) (by omega)];rfl
theorem ajQ{w:Nat}(W:dC w){l:List aQ}(h:∀p∈l,ee p)(hl:l.length<=2000):Oc w (cx l)=some (dc jF l):=by
 have hb:=W.ku;refine mJ l jF (ev:=λi (g:Value->Int->Int->Option Int)=>g (aC cD l) l.length i) ?_ ?_ (by omega)
 ·intro i g hi;simp_all;rw[bt iQ hi,lL];simp;rw[ajg W (h _ (cy hi)),aN (by omega) (by omega)];simp
 simp
theorem ajR{w:Nat}(W:dC w){l:List aQ}(h:∀p∈l,ee p)(hl:l.length<=2000):Od w (cx l)=some (dc zL l):=by
 have hb:=W.ku;refine mJ l zL (ev:=λi (g:Value->Int->Int->Option Int)=>g (aC cD l) l.length i) ?_ ?_ (by omega)
 ·intro i g hi;simp_all;rw[bt iQ hi,lL];simp;rw[ajh W (h _ (cy hi)),aN (by omega) (by omega)];simp
 simp
theorem ajS{w:Nat}(W:dC w){l:List aQ}(h:∀p∈l,ee p)(hl:l.length<=2000):Oe w (cx l)=some (dc nq l):=by
 have hb:=W.ku;refine mJ l nq (ev:=λi (g:Value->Int->Int->Option Int)=>g (aC cD l) l.length i) ?_ ?_ (by omega)
 ·intro i g hi;simp_all;rw[bt iQ hi,lL];simp;rw[ajk W (h _ (cy hi)),aN (by omega) (by omega)];simp
 simp
theorem ajT{w:Nat}(W:dC w){l:List aQ}(h:∀p∈l,ee p)(hl:l.length<=2000):Of w (cx l)=some (dc oi l):=by
 have hb:=W.ku;refine mJ l oi (ev:=λi (g:Value->Int->Int->Option Int)=>g (aC cD l) l.length i) ?_ ?_ (by omega)
 ·intro i g hi;simp_all;rw[bt iQ hi,lL];simp;rw[ajl W,aN (by omega) (by omega)];simp
 simp
theorem ajU{w:Nat}(W:dC w){l:List aQ}(h:∀p∈l,ee p)(hl:l.length<=2000):Og w (cx l)=some (dc nr l):=by
 have hb:=W.ku;refine mJ l nr (ev:=λi (g:Value->Int->Int->Option Int)=>g (aC cD l) l.length i) ?_ ?_ (by omega)
 ·intro i g hi;simp_all;rw[bt iQ hi,lL];simp;rw[ajm W (h _ (cy hi)),aN (by omega) (by omega)];simp
 simp
theorem yN{w:Nat}(l:List aK)(hl:l.length<2^40)(hw:l.length<w):sF w (aw l) (aw l)=some true:=by
 have hlr:∀(K:Nat->Option Bool),au (aw l) K=K l.length:=λK=>cw ct l K;have tg:∀(y:aK)(r:List Value),ct y++r=Value.int .i64 y.tag::.int .i64 y.ty::.int .i64 y.az::ah y.data::r:=λ_ _=>rfl;unfold sF;rw[hlr,hlr,show aj (Int.ofNat l.length) (Int.ofNat l.length)=true by rw[cg,bZ],bJ,aF,hlr];refine gS (ev:=λi (g:Value->Value->Int->Int->Option Bool)=>g (aw l) (aw l) l.length i) l.length ?_ ?_ hw
 ·intro i g hi;have e1:((i:Int)<(l.length:Int)):=by omega
  simp only[aV,e1,aW,aD,bR];rw[show aw l=aC ct l from rfl,bt gO hi,tg];simp only[aZ,bE];rw[bt gO hi,tg];simp only[aZ,bE];unfold Pd Hz;rw[yM];simp only[cg,aW,aD,aB,bJ,aF,cc];rw[aN (by omega) (by omega)];rfl
 ·intro g;have e1:¬((l.length:Int)<(l.length:Int)):=by omega
  simp only[aV,e1,bF,aF]
theorem akM{w:Nat}{x:dr}(h:jC x 9000)(hw:10000<w):HD w x.order (aw x.cn) (aw x.bD) (aw x.bM) (aw x.bm) (aw x.first) (ah x.bC) (ah x.cH) x.order (aw x.cn) (aw x.bD) (aw x.bM) (aw x.bm) (aw x.first) (ah x.bC) (ah x.cH)=some true:=by obtain⟨⟨r0,r2,r3,r4,r1⟩,-⟩:=h;unfold HD yW;simp only[aB];rw[yN _ (by omega) (by omega)];simp only[aB,bJ,aF];rw[yN _ (by omega) (by omega)];simp only[aB,bJ,aF];rw[yN _ (by omega) (by omega)];simp only[aB,bJ,aF];rw[yN _ (by omega) (by omega)];simp only[aB,bJ,aF];rw[yN _ (by omega) (by omega)];simp only[aB,bJ,aF];rw[yM,yM];simp only[cg,aW,aD,aB]
noncomputable def SI(w:Nat)(x0:Int)(x1 x3 x5 x7:Value):Option (Int×Value×Value×Bool):=
 ob (kG w 45058 7 x3 x5 x7) λ(x78:Value×Value×Value×Value)=>ob (kG w 45057 4 x78.snd.fst x78.snd.snd.fst x78.snd.snd.snd) λ(x79:Value×Value×Value×Value)=>ob (jM w x79.fst 0 4 2) λ(x80:Int×Bool)=>bif !x80.snd then some (0,ae 0 [],ae 0 [],false) else bif ak x80.fst 2 then some (0,ae 0 [],ae 0 [],false) else au x78.fst λ(x81:Nat)=>bif !aj (Int.ofNat x81) (ag IntKind.i64 (Int.mul 16 x80.fst)) then some (0,ae 0 [],ae 0 [],false) else ob (kG w 45057 4 x79.snd.fst x79.snd.snd.fst x79.snd.snd.snd) λ(x82:Value×Value×Value×Value)=>au x82.fst λ(x83:Nat)=>bif !aj (Int.ofNat x83) 4 then some (0,ae 0 [],ae 0 [],false) else ob (kG w 45056 7 x82.snd.fst x82.snd.snd.fst x82.snd.snd.snd) λ(x84:Value×Value×Value×Value)=>ed 1 x84.fst λ(x85:Nat)(x86:List Value)=>ob (pH x86) λ(x87:List Int)=>bif !mD (mkStr x87).data.toList (ByteArray.mk #[48,49,48,48]).data.toList then some (0,ae 0 [],ae 0 [],false) else lp KB (As w) w x78.fst 0 x0 x1 0 (ae 0 []) x0 (ae 0 []) [] []
theorem K1{w:Nat}(hw:5<=w)(b:List UInt8)(hb:b.length<2^50){o:Int}(ho:o=1\/o=2)(p s:Nat)(hs:s=2\/s=4)(hp:p+s<=b.length):jM w (ah b) (p:Int) (s:Int) o=some ((cm b p s o:Int),true):=by have:=xm (l:=b) (p:=p) (s:=s) (order:=o) (by omega) ho (by omega);unfold cm;rw[BP hw b (by omega) _ _ _ (by omega),this];simp
theorem ajf{w:Nat}(hw:5<=w)(b:List UInt8)(hb:b.length<2^50){o:Int}(ho:o=1\/o=2)(p:Nat)(hp:p+16<=b.length):BQ w (ah b) (p:Int) o=some ((nK b p o).attr,(nK b p o).size,(nK b p o).at_,(nK b p o).dY,(nK b p o).dZ):=by have n4:∀q:Nat,q+4<=b.length->jM w (ah b) (q:Int) 4 o=some ((cm b q 4 o:Int),true):=λq hq=>K1 hw b hb ho q 4 (.inr rfl) hq;have n2:∀q:Nat,q+2<=b.length->jM w (ah b) (q:Int) 2 o=some ((cm b q 2 o:Int),true):=λq hq=>K1 hw b hb ho q 2 (.inl rfl) hq;unfold BQ B8 kY;simp only[aB,cc];rw[aN (n:=(p:Int)+4) (by omega) (by omega),aN (n:=(p:Int)+4+4) (by omega) (by omega),aN (n:=(p:Int)+4+4+4) (by omega) (by omega),aN (n:=(p:Int)+4+4+4+2) (by omega) (by omega)];rw[show(p:Int)+4+4+4+2=((p+14:Nat):Int) by omega,show(p:Int)+4+4+4=((p+12:Nat):Int) by omega,show(p:Int)+4+4=((p+8:Nat):Int) by omega,show(p:Int)+4=((p+4:Nat):Int) by omega];rw[n4 p (by omega),n4 (p+4) (by omega),n4 (p+8) (by omega),n2 (p+12) (by omega),n2 (p+14) (by omega)];simp only[aB];rfl
theorem LS(b:List UInt8)(o:Int):∀(n p:Nat),(placesOf b o p n).length=n
 |0,_=>rfl
 |n+1,p=>by show(placesOf b o (p+16) n).length+1=n+1;rw[LS]
theorem Vo(b:List UInt8)(o:Int):∀(n p i:Nat)(h:i<(placesOf b o p n).length),(placesOf b o p n)[i]=nK b (p+16*i) o
 |0,_,i,h=>absurd h (Nat.not_lt_zero _)
 |n+1,p,0,h=>rfl
 |n+1,p,i+1,h=>by
  show(placesOf b o (p+16) n)[i]'(by simpa[placesOf] using h)=_
  rw[Vo b o n (p+16) i]
  congr 1
  omega
def wx:List aU->List aK->List aK
 |[],v=>v
 | .mk tags _ _::r,_=>wx r tags
theorem abW{w:Nat}(ds:List aU)(hw:ds.length<w)(hl:ds.length<1000)(o x0:Int)(a:Value)(P:List cP)(c:List Value)(v:List aK):
 lp SK Ec w (aC cU ds) ds.length 0 x0 a o (aw v) c (P.flatMap fq)=some (o,dQ P,aw (wx ds v),true):=by
 refine nG (σ:=List aK) (ev:=λi s (k:CY)=>k (aC cU ds) ds.length i x0 a o (aw s) c (P.flatMap fq)) (Inv:=λi s=>wx (ds.drop i) s=wx ds v) ds.length v ?_ ?_ ?_ hw
 ·rw[eu]
 ·intro i g s hi hI;rw[dw hi] at hI;have e1:((i:Int)<(ds.length:Int)):=by omega
  obtain⟨⟨tags,subs,blob⟩,hd⟩:∃d,ds[i]=d:=⟨_,rfl⟩;rw[hd] at hI;refine⟨tags,hI,?_⟩;unfold Ec ye;simp only[aV,e1,aW,aD,bR];rw[bt kQ hi,hd,zT];simp only[aZ,cc];rw[aN (by omega) (by omega)];rfl
 ·intro g s hI;rw[rB,wx] at hI;subst hI;have e1:¬((ds.length:Int)<(ds.length:Int)):=by omega
  unfold Ec ye;simp only[aV,e1,bF,aF];rw[cS nL,iW _ (by decide)];rfl
theorem abX{w:Nat}{d:List UInt8}{n:Nat}(hd:d.length=16*n)(hn:n<10000){o:Int}(ho:o=1\/o=2)(D0:aU)(ds:List aU)(hl:ds.length<900)(hw:200000<w)(x0:Int)(a b:Value)(c:List Value)(v:List aK)(y:Int):
 ∃q:Unit,lp KB (As w) w (ah d) 0 o (cR (D0::ds)) x0 a o (aw v) c []=some (o,dQ (placesOf d o 0 n),aw (wx ds v),true):=by
 refine⟨(),?_⟩;refine gS (ev:=λi (k:CX)=>k (ah d) ((16*i:Nat):Int) o (cR (D0::ds)) x0 a o (aw v) c (((placesOf d o 0 n).take i).flatMap fq)) n ?_ ?_ (by omega)
 ·intro i g hi;have e1:(((16*i:Nat):Int)<(d.length:Int)):=by omega
  have hiP:i<(placesOf d o 0 n).length:=by rw[LS];exact hi
  unfold As tR;rw[cN];simp only[aV,bU,e1,aW,aD];rw[ajf (by omega) d (by omega) ho (16*i) (by omega)];simp only[aB];have hr1:aE (((placesOf d o 0 n).take i).flatMap fq).length=true:=by rw[cS nL,dk];simp;omega
  have hpc:fq (placesOf d o 0 n)[i]=[.int .i64 (nK d (16*i) o).attr,.int .i64 (nK d (16*i) o).size,.int .i64 (nK d (16*i) o).at_,.int .i64 (nK d (16*i) o).dY,.int .i64 (nK d (16*i) o).dZ]:=by rw[Vo,gj];rfl
  rw[hr1,cc,aN (by omega) (by omega),show((16*i:Nat):Int)+16=((16*(i+1):Nat):Int) by omega,iI hiP,ft,show[(placesOf d o 0 n)[i]].flatMap fq=fq (placesOf d o 0 n)[i] from by simp,hpc];rfl
 ·intro g;have e1:¬(((16*n:Nat):Int)<(d.length:Int)):=by omega
  unfold As tR;rw[cN];simp only[aV,bU,e1,bF,aF];rw[show cR (D0::ds)=aC cU (D0::ds) from rfl,cw];have e2:1<=(D0::ds).length:=by rw[bX];omega
  simp only[gq,aM,e2,aW,jA,aD];rw[uR kQ _ (aM _),List.drop_succ_cons,eu,fg (by rw[bX];omega),cw,fg (by rw[LS];omega)];exact abW ds (by omega) (by omega) o x0 a _ c v
def hM(o:Int)(l:List cP):List aK:=[⟨45056,7,4,[48,49,48,48]⟩,⟨45057,4,1,eP l.length 4⟩,⟨45058,7,((16*l.length:Nat):Int),l.flatMap (eI o)⟩]
theorem SJ{w:Nat}(hw:200000<w){o:Int}(ho:o=1\/o=2){l:List cP}(h2:2<=l.length)(hl:16*l.length<=65536)(hp:∀p∈l,kC p=true)(D0:aU)(ds:List aU)(hds:ds.length<900)(y z:Value):
 SI w o (cR (D0::ds)) (aw (hM o l)) y z=some (o,dQ l,aw (wx ds []),true):=by
 have hlen:(l.flatMap (eI o)).length=16*l.length:=qV o l;have hd:∀t∈hM o l,t.data.length<=1000000000:=by
  intro t ht;simp only[hM,cQ,mV,mZ] at ht;rcases ht with rfl|rfl|rfl
  ·simp
  ·simp only[oX];omega
  ·simp only[hlen];omega
 have hr:fH (hM o l)=true:=by simp[hM,fH]
 have hL:(hM o l).length=3:=rfl;have f1:=Gt (w:=w) (hM o l) 45058 hr (by rw[hL];omega) (by rw[hL];omega) hd;have f2:=Gt (w:=w) (hM o l) 45057 hr (by rw[hL];omega) (by rw[hL];omega) hd;have f3:=Gt (w:=w) (hM o l) 45056 hr (by rw[hL];omega) (by rw[hL];omega) hd;rw[show iB (hM o l) 45058=some ⟨45058,7,((16*l.length:Nat):Int),l.flatMap (eI o)⟩ from rfl] at f1;rw[show iB (hM o l) 45057=some ⟨45057,4,1,eP l.length 4⟩ from rfl] at f2;rw[show iB (hM o l) 45056=some ⟨45056,7,4,[48,49,48,48]⟩ from rfl] at f3;have g1:∀a b:Value,kG w 45058 7 (aw (hM o l)) a b=some (ah (l.flatMap (eI o)),aw (hM o l),a,b):=by intro a b;unfold kG;rw[f1];rfl
 have g2:∀a b:Value,kG w 45057 4 (aw (hM o l)) a b=some (ah (eP l.length 4),aw (hM o l),a,b):=by intro a b;unfold kG;rw[f2];rfl
 have g3:∀a b:Value,kG w 45056 7 (aw (hM o l)) a b=some (ah [48,49,48,48],aw (hM o l),a,b):=by intro a b;unfold kG;rw[f3];rfl
 have hn:jM w (ah (eP l.length 4)) 0 4 2=some ((l.length:Int),true):=by have:=K1 (w:=w) (by omega) (eP l.length 4) (by rw[oX];omega) (.inr rfl) 0 4 (.inr rfl) (by rw[oX];omega);rw[nH (b:=eP l.length 4) (pre:=[]) (post:=[]) (n:=l.length) (p:=0) (s:=4) (order:=2) (by simp[aY]) rfl (.inr (.inr rfl)) (.inr rfl) (by omega)] at this;exact this
 obtain⟨-,h6⟩:=abX (w:=w) (d:=l.flatMap (eI o)) (n:=l.length) hlen (by omega) ho D0 ds hds hw 0 (ae 0 []) (ae 0 []) [] [] 0;have hpl:placesOf (l.flatMap (eI o)) o 0 l.length=l:=LR ho l [] [] 0 (by simp) rfl hp;rw[hpl] at h6;unfold SI;rw[g1];simp only[aB];rw[g2];simp only[aB];rw[hn];simp only[aB,bJ,aF];rw[show ak (l.length:Int) 2=false by rw[aV,gM];omega,aF,cN,o8,aN (by omega) (by omega),show aj (Int.ofNat (l.flatMap (eI o)).length) (16*(l.length:Int))=true by rw[cg,bZ,bU,hlen];omega,bJ,aF,g2];simp only[aB];rw[cN,oX,show(!aj (Int.ofNat 4) 4)=false from rfl,aF,g3];simp only[aB];rw[iC,iL,CO];simp only[aB];rw[En,show(!mD [48,49,48,48] (ByteArray.mk #[48,49,48,48]).data.toList)=false from rfl,aF];exact h6
theorem akZ{w:Nat}(hw:200000<w){o:Int}(ho:o=1\/o=2){l:List cP}(h2:2<=l.length)(hl:16*l.length<=65536)(hp:∀p∈l,kC p=true){view:List aK}(hv:VS view)(hr:cT 5 view=true):
 Cs w o (cR (dE o l view).dG)=some (o,dQ l,aw view,true):=by
 have hvl:=hv.1;have e0:∀(ds:List aU)(K:List Value->Option (Int×Value×Value×Bool)),aI 3 0 (cR (fe o l::ds)) K=K (cU (fe o l)++ds.flatMap cU):=λds K=>bt kQ (l:=fe o l::ds) (m:=0) (by rw[bX];omega) K;have e1:cU (fe o l)=[aw (hM o l),ae 0 [],ae 0 []]:=by unfold fe;rw[s9];rfl
 have e2:∀(ds:List aU)(K:Nat->Option (Int×Value×Value×Bool)),au (cR (fe o l::ds)) K=K (fe o l::ds).length:=λds K=>cw cU _ K;have e3:∀(K:Nat->Option (Int×Value×Value×Bool)),au (aw (hM o l)) K=K 3:=λK=>cw ct _ K;unfold dE;by_cases h0:view.length=0
 ·rw[ay h0];have hve:view=[]:=qC.1 h0;have ht:=SJ hw ho h2 hl hp (fe o l) [] (by show 0<900;omega) (ae 0 []) (ae 0 []);unfold Cs tR ye;rw[e0,e1];simp only[eE,aZ];rw[e3,show(!aj (Int.ofNat 3) 3)=false from rfl,aF,e2,show ak 1 (Int.ofNat [fe o l].length)=false from rfl,aF,hve];exact ht
 ·rw[aq h0];have ht:=SJ hw ho h2 hl hp (fe o l) [.mk view .nil []] (by show 1<900;omega) (ae 0 []) (ae 0 []);have x1:∀(K:List Value->Option (Int×Value×Value×Bool)),aI 3 1 (cR (fe o l::[.mk view .nil []])) K=K (cU (.mk view .nil [])++[]):=λK=>bt kQ (l:=fe o l::[.mk view .nil []]) (m:=1) (by show 1<2;omega) K;unfold Cs tR ye;rw[e0,e1];simp only[eE,aZ];rw[e3,show(!aj (Int.ofNat 3) 3)=false from rfl,aF,e2,show ak 1 (Int.ofNat [fe o l,.mk view .nil []].length)=true from rfl,aD,x1,s9];simp only[eE,eu,aZ];rw[q8 (by omega) 5 view (by omega) (λt ht=>by have:=hv.2 t ht;omega) (by omega),hr];simp only[aB,bJ,aF];exact ht
theorem Ya{w:Nat}(W:dC w)(hw:800000<w){o:Int}{l:List cP}{view:List aK}{b:List UInt8}(h:iP o l view=.ok b)(hv:VS view)(hS:(ff (dE o l view)).length<100000000):Ce w (ah b)=some (o,dQ l,aw view,0):=by
 have hvl:=hv.1;have ho:(o=1\/o=2)/\2<=l.length/\16*l.length<=65536/\(∀p∈l,kC p=true)/\cT 5 view=true:=by
  unfold iP at h;split at h
  ·cases h
  rename_i h1;split at h
  ·cases h
  rename_i h2;split at h
  ·cases h
  rename_i h3;split at h
  ·cases h
  rename_i h4;refine⟨by omega,by omega,by omega,λp hp=>iu.1 (by simpa using h2) p hp,by simpa using h3⟩
 obtain⟨r,hb,hr,hwk,-,hbl⟩:=Sf h (by omega);have hp:gz.isPrefixOf b=true:=by rw[hb,qB];exact sK _ _
 have hl4:b.length=r.length+4:=by rw[hb,aS];have:gz.length=4:=rfl;omega
 have h117:=NP (w:=w) (b:=r) (sh:=gu) (by omega) (by omega) Jo (λs hs=>by
  have:s=0\/s=1:=by simp[gu] at hs;omega
  rcases this with rfl|rfl<;>decide) (by decide) (by decide) (X2 (by omega)) (o:=o) (ds:=(dE o l view).dG) (S:=ff (dE o l view)) hS hwk
 have h62:wc w (ah b) (cq gu)=some (o,cR (dE o l view).dG,aC bY (ff (dE o l view)),0):=by
  have e1:¬((65533:Int)<(b.length:Int)):=by omega
  have e2:¬((b.length:Int)<(4:Int)):=by omega
  have e3:4<=b.length:=by omega
  have h116:yu w (ah b)=some true:=by unfold yu Bu;have:ae 4 (List.drop 0 [Value.int IntKind.u8 77,Value.int IntKind.u8 80,Value.int IntKind.u8 70,Value.int IntKind.u8 0])=ah gz:=rfl;rw[this,BF,hp];rfl
  unfold wc;rw[cN];simp only[aV,bU,e1,bF,aF];rw[cN];simp only[e2,bF,aF];rw[h116];simp only[aB,bJ,aF];rw[cN];simp only[gq,aM,e3,aW,jA,aD];rw[nv _ (aM _),fg (by rw[eU];omega),show b.drop 4=r by rw[hb];rfl,h117];rfl
 unfold Ce;rw[show yU w=some (cq gu) from rfl];simp only[aB];rw[h62];simp only[aB];rw[show(!aj 0 0)=false from rfl,aF,akZ (by omega) ho.1 ho.2.1 ho.2.2.1 ho.2.2.2.1 hv ho.2.2.2.2];rfl
noncomputable def SG(w:Nat)(x0:Int)(x1 x2:Value):Option (Value×Int):=
 au x1 λ(x48:Nat)=>bif ak (Int.ofNat x48) 2 then some (ae 0 [],1) else au x1 λ(x49:Nat)=>lp qO (nE w) w x1 (Int.ofNat x49) 0 x0 x1 x2 []
theorem Sl{w:Nat}(W:dC w){o:Int}(ho:o=1\/o=2){l:List cP}(h2:2<=l.length)(hl:l.length<=600){view:List aK}(hv:VS view)(hr:cT 5 view=true):oT w 10000 gu o (dE o l view).dG:=by
 have hvl:=hv.1;have hdirs:∀d∈(dE o l view).dG,d=fe o l\/(d=.mk view .nil []/\view.length≠0):=by
  intro d hd;rcases cQ.1 hd with rfl|hd
  ·exact .inl rfl
  ·split at hd
   ·cases hd
   ·rename_i h0;exact .inr ⟨nV.1 hd,h0⟩
 have hlen2:(dE o l view).dG.length<=2:=by unfold dE;split<;>simp
 refine Py W Jo (X2 (by have:=W.ku;omega)) (by decide) (λs hs=>?_) ho (by simp[dE]) (by omega) (λd hd=>?_) ?_ ?_ (Sj ⟨by omega,by omega⟩ hr (by omega))
 ·have:s=0\/s=1:=by simp[gu] at hs;omega
  rcases this with rfl|rfl<;>decide
 ·rcases hdirs d hd with rfl|⟨rfl,_⟩
  ·refine⟨by show 3<=_;omega,by show 0<=_;omega,by show 0<=_;omega,λt ht=>?_,trivial⟩;simp_all;rcases ht with rfl|rfl|rfl
   ·simp
   ·simp only[oX];omega
   ·simp only[(qV o l)];omega
  ·exact⟨by omega,by show 0<=_;omega,by show 0<=_;omega,λt ht=>by have:=hv.2 t ht;omega,trivial⟩
 ·unfold dE fe;split<;>simp[kO,fR,jU]
 ·unfold dE fe;split<;>simp[gX,dD,ib]
theorem abV{w:Nat}(W:dC w){o:Int}(ho:o=1\/o=2){l:List cP}(h2:2<=l.length)(hl:l.length<=600){view:List aK}(hv:VS view):
 lp qO (nE w) w (dQ l) l.length 0 o (dQ l) (aw view) []=some (match iP o l view with| .ok b=>(ah b,0)| .error e=>(ae 0 [],e)):=by
 have hb:=W.ku;have hvl:=hv.1;have hlen:∀i,((l.take i).flatMap (eI o)).length=16*(l.take i).length:=λi=>qV o _;have h1n:¬(¬(o=1\/o=2)\/l.length<2):=by
  rintro (q|q)
  ·exact q ho
  ·omega
 have hall:∀(k i v:Nat),i+k=l.length->k<v->l.all kC=true->lp qO (nE w) v (dQ l) l.length i o (dQ l) (aw view) (((l.take i).flatMap (eI o)).map bg)=some (match iP o l view with| .ok b=>(ah b,0)| .error e=>(ae 0 [],e)):=by
  intro k;induction k with
  |zero=>
   intro i v hi hv2 ha;have e1:¬((i:Int)<(l.length:Int)):=by omega
   have htk:l.take i=l:=fg (by omega);have hpl:(l.flatMap (eI o)).length=16*l.length:=qV o l;rw[eG qO (nE w) (by omega),htk];unfold nE vG vF vJ;simp only[aV,e1,bF,aF];rw[q8 (by omega) 5 view (by omega) (λt ht=>by have:=hv.2 t ht;omega) (by omega)];simp only[aB];unfold iP;rw[aq h1n,ha,aq (by decide:¬(true=false))];cases hr:cT 5 view with
   |false=>rfl
   |true=>
    have T:=Sl W ho h2 hl hv hr;have h150:=XR T;rw[show(⟨o,(dE o l view).dG⟩:mC)=dE o l view from rfl] at h150;rw[aq (by decide:¬(true=false)),aq (by omega:¬(65536<16*l.length))];simp only[bJ,aF,cZ,lA,bU];have e2:¬((65536:Int)<((l.flatMap (eI o)).length:Int)):=by omega
    simp only[e2,bF,aF];rw[show dQ l=aC fq l from rfl,cw];rw[show[Value.int IntKind.i64 (l.length:Int)].length=1 from rfl,ajF (by omega) l.length (by omega)];simp only[aB];rw[show aw view=aC ct view from rfl,cw,show yU w=some (cq gu) from rfl];simp only[aB];have hd0:ae 3 [Value.int IntKind.i64 45056,Value.int IntKind.i64 7,Value.int IntKind.i64 4,ae 4 (List.drop 0 [Value.int IntKind.u8 48,Value.int IntKind.u8 49,Value.int IntKind.u8 48,Value.int IntKind.u8 48]),Value.int IntKind.i64 45057,Value.int IntKind.i64 4,Value.int IntKind.i64 1,ah (eP l.length 4),Value.int IntKind.i64 45058,Value.int IntKind.i64 7,Value.int IntKind.i64 ((l.flatMap (eI o)).length:Int),ae (l.flatMap (eI o)).length ((l.flatMap (eI o)).map bg)]=aw (hM o l):=by unfold hM;rw[<-oo,hpl];rfl
    rw[hd0];have hdc:cU (fe o l)=[aw (hM o l),ae 0 [],ae 0 []]:=by unfold fe;rw[s9];rfl
    have fin:(ob (vL w o (cR (dE o l view).dG) (cq gu)) λ(x45:Value×Int)=>some (x45.fst,x45.snd))=some (match(if 65533<4+gP (dE o l view) then .error 7 else .ok (gz++eC (dE o l view) gu):Except Int (List UInt8)) with| .ok b=>(ah b,0)| .error e=>(ae 0 [],e)):=by
     rw[h150];by_cases h7:65533<4+gP (dE o l view)
     ·rw[ay h7,ay h7];rfl
     ·rw[aq h7,aq h7];rfl
    by_cases h0:view.length=0
    ·have e3:¬((0:Int)<((view.length:Nat):Int)):=by omega
     simp only[e3,bF,aF];have hdd:ae 1 [aw (hM o l),ae 0 [],ae 0 []]=cR (dE o l view).dG:=by unfold dE;rw[ay h0];show _=ae 1 (cU (fe o l)++[]);rw[hdc];rfl
     rw[hdd];exact fin
    ·have e3:((0:Int)<((view.length:Nat):Int)):=by omega
     simp only[e3,aW,aD];have hdd:ae ((List.take 3 (List.drop 0 [aw (hM o l),ae 0 [],ae 0 []])++List.take 3 (List.drop 0 [aC ct view,ae 0 [],ae 0 []])).length/3) (List.take 3 (List.drop 0 [aw (hM o l),ae 0 [],ae 0 []])++List.take 3 (List.drop 0 [aC ct view,ae 0 [],ae 0 []]))=cR (dE o l view).dG:=by unfold dE;rw[aq h0];show _=ae 2 (cU (fe o l)++(cU (.mk view .nil [])++[]));rw[hdc,s9,show(List.take 3 (List.drop 0 [aw (hM o l),ae 0 [],ae 0 []])++List.take 3 (List.drop 0 [aC ct view,ae 0 [],ae 0 []])).length=6 from rfl];rfl
     rw[hdd];exact fin
  |succ k ih=>
   intro i v hi hv2 ha;have hiL:i<l.length:=by omega
   have e1:((i:Int)<(l.length:Int)):=by omega
   have hp:=iu.1 ha _ (cy hiL);have:=ih (i+1) (v -1) (by omega) (by omega) ha;rw[eG qO (nE w) (by omega),<-this];generalize hg:lp qO (nE w) (v -1)=g;have tg:∀(y:cP)(r:List Value),fq y++r=.int .i64 y.attr::.int .i64 y.size::.int .i64 y.at_::.int .i64 y.dY::.int .i64 y.dZ::r:=λ_ _=>rfl;unfold nE vG vF vJ;simp only[aV,e1,aW,aD,bR];rw[show dQ l=aC fq l from rfl,bt nL hiL,tg];simp only[aZ,bE];rw[N3 (by omega) l[i] ho,ay hp];simp only[aB,bJ,aF];rw[iC,iL];have r1:aE (List.map bg ((l.take i).flatMap (eI o))).length=true:=by rw[cZ,hlen,dk];simp;omega
   rw[r1,Fp _ (by rw[E8];omega),jA,aD,cc,aN (by omega) (by omega),iI hiL,ft,gV,show[l[i]].flatMap (eI o)=eI o l[i] by simp];rfl
 cases ha:l.all kC with
 |true=>exact hall l.length 0 w (by omega) (by omega) ha
 |false=>
  have hbad:∀(k i v:Nat),i+k=l.length->k<v->(l.drop i).all kC=false->lp qO (nE w) v (dQ l) l.length i o (dQ l) (aw view) (((l.take i).flatMap (eI o)).map bg)=some (ae 0 [],1):=by
   intro k;induction k with
   |zero=>intro i v hi hv2 h;rw[show l.drop i=[] from List.drop_of_length_le (by omega)] at h;cases h
   |succ k ih=>
    intro i v hi hv2 h;have hiL:i<l.length:=by omega
    have e1:((i:Int)<(l.length:Int)):=by omega
    rw[dw hiL,List.all_cons] at h;have tg:∀(y:cP)(r:List Value),fq y++r=.int .i64 y.attr::.int .i64 y.size::.int .i64 y.at_::.int .i64 y.dY::.int .i64 y.dZ::r:=λ_ _=>rfl;rw[eG qO (nE w) (by omega)];cases hp:kC l[i] with
    |false=>unfold nE vG vF vJ;simp only[aV,e1,aW,aD,bR];rw[show dQ l=aC fq l from rfl,bt nL hiL,tg];simp only[aZ,bE];rw[N3 (by omega) l[i] ho,hp];rfl
    |true=>
     rw[hp,eJ] at h;have:=ih (i+1) (v -1) (by omega) (by omega) h;rw[<-this];generalize hg:lp qO (nE w) (v -1)=g;unfold nE vG vF vJ;simp only[aV,e1,aW,aD,bR];rw[show dQ l=aC fq l from rfl,bt nL hiL,tg];simp only[aZ,bE];rw[N3 (by omega) l[i] ho,ay hp];simp only[aB,bJ,aF];rw[iC,iL];have r1:aE (List.map bg ((l.take i).flatMap (eI o))).length=true:=by rw[cZ,hlen,dk];simp;omega
     rw[r1,Fp _ (by rw[E8];omega),jA,aD,cc,aN (by omega) (by omega),iI hiL,ft,gV,show[l[i]].flatMap (eI o)=eI o l[i] by simp];rfl
  have:=hbad l.length 0 w (by omega) (by omega) (by rw[eu];exact ha);unfold iP;rw[aq h1n,ha,ay rfl];exact this
theorem Yr{w:Nat}(W:dC w)(o:Int){l:List cP}(hl:l.length<=600){view:List aK}(hv:VS view):Cu w o (dQ l) (aw view)=some (match iP o l view with| .ok b=>(ah b,0)| .error e=>(ae 0 [],e)):=by
 by_cases ho:o=1\/o=2
 case neg=>unfold Cu iP vG vF vJ;rw[ay (.inl ho),(show aj o 1=false from by rw[cg,gM];exactλq=>ho (.inl q)),(show aj o 2=false from by rw[cg,gM];exactλq=>ho (.inr q))];rfl
 have hrest:SG w o (dQ l) (aw view)=some (match iP o l view with| .ok b=>(ah b,0)| .error e=>(ae 0 [],e)):=by
  unfold SG;rw[(show∀K:Nat->Option (Value×Int),au (dQ l) K=K l.length fromλK=>cw fq l K)];by_cases h2:l.length<2
  ·have e1:ak (Int.ofNat l.length) 2=true:=by rw[aV,bZ,bU];omega
   unfold iP;rw[ay (.inr h2),e1];rfl
  ·have e1:ak (Int.ofNat l.length) 2=false:=by rw[aV,gM,bU];omega
   rw[e1];exact abV W ho (by omega) hl hv
 rcases ho with rfl|rfl<;>exact hrest
def gT(ms:List aQ):List cP:=ms.map λp=>⟨p.attr,0,0,p.dY,p.dZ⟩
def jh(ms:List aQ)(i:Nat):Except Int (List UInt8):=
 match ms[i]? with
 |none=>.ok []
 |some p=>if i=0 then(if 1<ms.length then iP p.aG.order (gT ms) p.view else .ok []) else if p.view.length=0 then .ok [] else ru p.aG.order p.view
theorem ain{w:Nat}(W:dC w){ms:List aQ}(hl:ms.length<=600)(o:Int){view:List aK}(hv:VS view):
 lp WO (FJ w) w (cx ms) ms.length 0 o (aw view) []=some (match iP o (gT ms) view with| .ok b=>(ah b,0)| .error e=>(ae 0 [],e)):=by
 have hb:=W.ku;refine gS (ev:=λi (k:Dd)=>k (cx ms) ms.length i o (aw view) ((gT (ms.take i)).flatMap fq)) ms.length ?_ ?_ (by omega)
 ·intro i g hi;have e1:((i:Int)<(ms.length:Int)):=by omega
  have r1:aE ((gT (ms.take i)).flatMap fq).length=true:=by rw[cS nL];unfold gT;simp;omega
  unfold FJ FY;simp only[aV,e1,bR];rw[show cx ms=aC cD ms from rfl,bt iQ hi,r1,cc,aN (by omega) (by omega)];have hp:(gT (ms.take (i+1))).flatMap fq=(gT (ms.take i)).flatMap fq++[Value.int IntKind.i64 ms[i].attr,Value.int IntKind.i64 0,Value.int IntKind.i64 0,Value.int IntKind.i64 ms[i].dY,Value.int IntKind.i64 ms[i].dZ]:=by unfold gT;rw[iI hi,gV,ft];rfl
  rw[hp];rfl
 ·intro g;unfold FJ FY;simp only[aV,(show¬((ms.length:Int)<(ms.length:Int)) from by omega)];rw[mW,cS nL,iW _ (by decide)];have:=Yr W o (l:=gT ms) (by unfold gT;rw[cZ];exact hl) hv;rw[show ae (gT ms).length ((gT ms).flatMap fq)=dQ (gT ms) from rfl,this];rfl
theorem Ym{w:Nat}(W:dC w){ms:List aQ}(h:∀p∈ms,ee p)(hl:ms.length<=600){i:Nat}(hi:i<ms.length):Hu w (cx ms) (i:Int)=some (match jh ms i with| .ok b=>(ah b,0)| .error e=>(ae 0 [],e)):=by
 have hm:=h _ (cy hi);have hlr:∀K:Nat->Option (Value×Int),au (cx ms) K=K ms.length:=λK=>cw cD ms K;have hlv:∀K:Nat->Option (Value×Int),au (aw ms[i].view) K=K ms[i].view.length:=λK=>cw ct _ K;unfold Hu jh Np;rw[cu hi,bR,show cx ms=aC cD ms from rfl,bt iQ hi,lL];simp only[aZ,bE];rw[show aC cD ms=cx ms from rfl];by_cases h0:i=0
 ·rw[ay h0,show aj (i:Int) 0=true by rw[cg,bZ];omega,hlr];by_cases h1:1<ms.length
  ·rw[ay h1,show ak 1 (Int.ofNat ms.length)=true by rw[aV,bZ,bU];omega,hlr];exact ain W hl _ hm.vs
  ·rw[aq h1,show ak 1 (Int.ofNat ms.length)=false by rw[aV,gM,bU];omega];rfl
 ·rw[aq h0,show aj (i:Int) 0=false by rw[cg,gM];omega,hlv];by_cases h1:ms[i].view.length=0
  ·rw[h1];rfl
  ·rw[aq h1,show aj (Int.ofNat ms[i].view.length) 0=false by rw[cg,gM,bU];omega,ak4 W _ hm.vs];rfl
theorem M9{ms:List aQ}{i:Nat}{b:List UInt8}(h:jh ms i=.ok b)(hm:∀p∈ms,ee p)(hl:ms.length<=600):b.length=0\/(gz.isPrefixOf b=true/\b.length<=65533):=by
 unfold jh at h;split at h
 ·injection h with h;subst h;exact .inl rfl
 rename_i p hp;have hmp:=hm p (nU hp);split at h
 ·split at h
  ·right;obtain⟨r,hb,-,-,-,hbl⟩:=Sf h (by have:=hmp.tv.1;omega);exact⟨by rw[hb,qB];exact sK _ _,hbl⟩
  ·injection h with h;subst h;exact .inl rfl
 ·split at h
  ·injection h with h;subst h;exact .inl rfl
  ·right;rename_i h0;unfold ru at h;split at h
   ·cases h
   split at h
   ·cases h
   rename_i hr;split at h
   ·cases h
   injection h with h;have hlen:=wm (PE (o:=p.aG.order) (by simpa using hr) h0 (by have:=hmp.tv.1;omega));rw[<-h];refine⟨by rw[qB];exact sK _ _,?_⟩;rw[aS];have:gz.length=4:=rfl;omega
def fS(p:aQ)(cM:List UInt8):oS:=⟨p.aG,p.cj,p.core,cM,0,0⟩
theorem Ks{ms:List aQ}{i:Nat}(hi:i<ms.length){b aT:List UInt8}(h:jh ms i=.ok b)(hm:∀p∈ms,ee p)(hl:ms.length<=600)(ha:iK ms[i].aG=.ok aT)(hc:nu ms[i].core=true):zt (fS ms[i] b) aT:=by have hmp:=hm _ (cy hi);refine⟨ha,?_,by have:=hmp.ic;show ms[i].cj.length<=_;omega,hc,M9 h hm hl⟩;have:=hmp.tu.rows;show qX ms[i].aG 65000;unfold qX at this⊢;omega
def lG(aT b:List UInt8):Int:=if b.length=0 then 0 else((aT.length+10:Nat):Int)
theorem Yj{w:Nat}(W:dC w)(hw:1000000<w){ms:List aQ}{i:Nat}(hi:i<ms.length){b aT:List UInt8}(h:jh ms i=.ok b)(hm:∀p∈ms,ee p)(hl:ms.length<=600)(ha:iK ms[i].aG=.ok aT)(hc:nu ms[i].core=true):
 vX w (cx ms) (i:Int)=some (ms[i].aG.order,aw ms[i].aG.cn,aw ms[i].aG.bD,aw ms[i].aG.bM,aw ms[i].aG.bm,aw ms[i].aG.first,ah ms[i].aG.bC,ah ms[i].aG.cH,ah ms[i].cj,ah ms[i].core,ah b,lG aT b,((fm (fS ms[i] b) aT).length:Int),true):=by
 have hmp:=hm _ (cy hi);have hok:=Ks hi h hm hl ha hc;have hic:=hmp.ic;have hco:=hmp.co;have hbl:b.length<=65533:=by rcases M9 h hm hl with q|q;omega;exact q.2
 unfold vX;rw[Ym W hm hl hi,h];simp only[aB];rw[bR,show cx ms=aC cD ms from rfl,bt iQ hi,lL];simp;rw[(show yF w ms[i].aG.order (aw ms[i].aG.cn) (aw ms[i].aG.bD) (aw ms[i].aG.bM) (aw ms[i].aG.bm) (aw ms[i].aG.first) (ah ms[i].aG.bC) (ah ms[i].aG.cH) (ah ms[i].cj) (ah ms[i].core) (ah b) 0 0=some (ah (fm (fS ms[i] b) aT),0) from(X4 W hok hmp.tu (by omega) ⟨by show ms[i].core.length<=_;omega,by show ms[i].cj.length<=_;omega,hbl⟩ (by omega) 0 0))];simp;rw[(akb W hok hmp.tu (by omega) ⟨by show ms[i].core.length<=_;omega,by show ms[i].cj.length<=_;omega,hbl⟩ (by omega))];rfl
theorem akF{w:Nat}(W:dC w){ms:List aQ}{i:Nat}(hi:i<ms.length){e:Int}(h:jh ms i=.error e)(he:e≠0)(hm:∀p∈ms,ee p)(hl:ms.length<=600):
 vX w (cx ms) (i:Int)=some (0,ae 0 [],ae 0 [],ae 0 [],ae 0 [],ae 0 [],ae 0 [],ae 0 [],ae 0 [],ae 0 [],ae 0 [],0,0,false):=by
 unfold vX;rw[Ym W hm hl hi];simp_all
theorem aio{ms:List aQ}{i:Nat}{e:Int}(h:jh ms i=.error e):e≠0:=by
 unfold jh at h;split at h
 ·cases h
 split at h
 ·split at h
  ·unfold iP at h
   repeat' split at h
   all_goals(cases h<;>decide)
  ·cases h
 ·split at h
  ·cases h
  ·unfold ru at h
   repeat' split at h
   all_goals(cases h<;>decide)
def bQ(l:List Int):List Value:=l.map λn:Int=>.int .i64 n
theorem Oj{w:Nat}(n:Int)(st:List Int)(s:Int)(hn:1<=n/\n<=10000000)(hs:0<=s/\s<=4000000000)(hl:st.length<10000):vO w n (bQ (st++[s]))=some (false,bQ (st++[s]++[s+n])):=by
 have hdrop:List.drop (0+st.length*1) (bQ (st++[s]))=[Value.int .i64 s]:=by unfold bQ;rw[gV,List.drop_left' (by simp)];rfl
 unfold vO;rw[(show(bQ (st++[s])).length=st.length+1 from by unfold bQ;simp),lA,jd,bU,aN (by omega) (by omega),show((st.length+1:Nat):Int) -1=(st.length:Int) by omega,bR,hdrop];simp;rw[XW,ay ⟨by unfold mj;rw[bZ];omega,by unfold mj;rw[bZ];omega,by unfold mj;rw[bZ];omega⟩];have r1:aE (st.length+1)=true:=by simp;omega
 have hap:bQ (st++[s])++[Value.int IntKind.i64 (s+n)]=bQ (st++[s]++[s+n]):=by unfold bQ;simp
 simp_all
theorem alu{w:Nat}(L:List Int)(hL:∀n∈L,1<=n/\n<=3000000)(hl:L.length<=1000)(hw:2000<w):∃st:List Value,lp rj (fY w) w L.length 0 (bQ L) (bQ [0])=some (-1,bQ L,st):=by
 have key:∀(k i v:Nat)(st:List Int)(s:Int),i+k=L.length->k<v->st.length=i->0<=s/\s<=3000000*i->∃st':List Value,lp rj (fY w) v L.length i (bQ L) (bQ (st++[s]))=some (-1,bQ L,st'):=by
  intro k;induction k with
  |zero=>
   intro i v st s hi hv _ _;have e1:¬((i:Int)<(L.length:Int)):=by omega
   rw[eG rj (fY w) (by omega)];unfold fY;simp only[aV,e1,bF,aF];exact⟨_,rfl⟩
  |succ k ih=>
   intro i v st s hi hv hst hs;have hiL:i<L.length:=by omega
   have e1:((i:Int)<(L.length:Int)):=by omega
   have hn:=hL _ (cy hiL);obtain⟨st',hst'⟩:=ih (i+1) (v -1) (st++[s]) (s+L[i]) (by omega) (by omega) (by rw[aS,hst];rfl) (by omega);refine⟨st',?_⟩;rw[eG rj (fY w) (by omega),<-hst'];have hlen:(bQ L).length=L.length:=by unfold bQ;rw[cZ]
   have hdrop:List.drop (0+i*1) (bQ L)=.int .i64 L[i]::bQ (L.drop (i+1)):=by unfold bQ;rw[gj,gB,<-List.map_drop,dw hiL,iH]
   have e2:i*1<L.length:=by omega
   unfold fY;simp only[aV,e1,aW,aD,bR];rw[hlen];simp only[mE,e2,aW,kj,aD];rw[hdrop];simp only[aZ,bE];rw[Oj _ st s ⟨hn.1,by omega⟩ ⟨hs.1,by omega⟩ (by omega)];simp only[aB,aF,cc];rw[aN (by omega) (by omega)];rfl
 exact key L.length 0 w [] 0 (by omega) (by omega) rfl ⟨by omega,by omega⟩
theorem ajo{w:Nat}(L:List Int)(hL:∀n∈L,1<=n/\n<=3000000)(hl:L.length<=1000)(hw:2000<w):∃st:List Value,tX w (bQ L)=some (true,bQ L,st):=by
 obtain⟨st,h⟩:=alu L hL hl hw;refine⟨st,?_⟩;have h2:yH w (bQ L) [Value.int .i64 0]=some (-1,bQ L,st):=by unfold yH;rw[(show(bQ L).length=L.length from by unfold bQ;rw[cZ]),lA];exact h
 unfold tX GR;simp_all
def JM(ms:List aQ)(i:Nat):Bool:=match jh ms i with| .ok _=>false| .error _=>true
def qZ(ms:List aQ):Nat->Nat->Int
 |0,_=>-1
 |k+1,i=>if JM ms i=true then(i:Int) else qZ ms k (i+1)
theorem Sb(x:oS)(aT:List UInt8):1<=(fm x aT).length:=by unfold fm ky;rw[mw,aS];have:(cV ⟨216,[],[]⟩).length=2:=rfl;omega
theorem Qk{ms:List aQ}(h:∀p∈ms,jF p=false){i:Nat}(hi:i<ms.length):∃aT,iK ms[i].aG=.ok aT:=by
 have:=h _ (cy hi);unfold jF at this;cases he:iK ms[i].aG with
 |ok b=>simp
 |error e=>grind
theorem Sd{ms:List aQ}{i:Nat}(hi:i<ms.length){b aT:List UInt8}(h:jh ms i=.ok b)(hm:∀p∈ms,ee p)(hl:ms.length<=600)(ha:iK ms[i].aG=.ok aT)(hc:nu ms[i].core=true):(fm (fS ms[i] b) aT).length<=3000000:=by
 have hmp:=hm _ (cy hi);have hok:=Ks hi h hm hl ha hc;obtain⟨r,c1,c2,c3,c4,c5,c6⟩:=Dw hok.core;have h1:=RZ (aT:=aT) c2 c4;obtain⟨-,-,hl2,-⟩:=Dh hok.app hok.rows;have hbl:b.length<=65533:=by rcases M9 h hm hl with q|q;omega;exact q.2
 have hic:=hmp.ic;have hco:=hmp.co;have e1:(fS ms[i] b).cM.length=b.length:=rfl;have e2:(fS ms[i] b).cj.length=ms[i].cj.length:=rfl;have e3:(fS ms[i] b).core.length=ms[i].core.length:=rfl;omega
theorem alv{w:Nat}(L:List Int)(hL:∀n∈L,1<=n/\n<=3000000)(hl:L.length<=1000)(hw:2000<w):∃r:Int×List Value×List Value,lp rj (fY w) w (L++[0]).length 0 (bQ (L++[0])) (bQ [0])=some r:=by
 have hll:(L++[0]:List Int).length=L.length+1:=by simp
 have key:∀(k i v:Nat)(st:List Int)(s:Int),i+k=L.length->k+1<v->st.length=i->0<=s/\s<=3000000*i->∃r:Int×List Value×List Value,lp rj (fY w) v (L++[0]).length i (bQ (L++[0])) (bQ (st++[s]))=some r:=by
  intro k;induction k with
  |zero=>
   intro i v st s hi hv hst hs;have hiL:i<(L++[0]:List Int).length:=by omega
   have e1:((i:Int)<((L++[0]:List Int).length:Int)):=by omega
   have hget:(L++[0]:List Int)[i]=0:=by rw[List.getElem_append_right (by omega)];simp
   have hlen:(bQ (L++[0])).length=(L++[0]).length:=by unfold bQ;rw[cZ]
   have hdrop:List.drop (0+i*1) (bQ (L++[0]))=.int .i64 0::bQ ((L++[0]).drop (i+1)):=by unfold bQ;rw[gj,gB,<-List.map_drop,dw hiL,iH,hget]
   have e2:i*1<(L++[0]:List Int).length:=by omega
   rw[eG rj (fY w) (by omega)];unfold fY;simp only[aV,e1,aW,aD,bR];rw[hlen];simp only[mE,e2,aW,kj,show Nat.beq 1 1=true from rfl,aD];rw[hdrop];simp only[aZ,bE];have h190:∃x,vO w 0 (bQ (st++[s]))=some (true,x):=by
    have hlen2:(bQ (st++[s])).length=st.length+1:=by unfold bQ;simp
    have hdrop2:List.drop (0+st.length*1) (bQ (st++[s]))=[Value.int .i64 s]:=by unfold bQ;rw[gV,gj,gB,List.drop_left' (by simp)];rfl
    unfold vO;rw[hlen2,lA,jd,bU,aN (by omega) (by omega),show((st.length+1:Nat):Int) -1=(st.length:Int) by omega,bR];have e1:st.length*1<st.length+1:=by omega
    simp only[mE,e1,aW,kj,show Nat.beq 1 1=true from rfl,aD];rw[hdrop2];simp only[aZ,bE];rw[XW,ay ⟨by unfold mj;rw[bZ];omega,by unfold mj;rw[bZ];omega,by unfold mj;rw[bZ];omega⟩];simp only[aB];have r1:aE (st.length+1)=true:=by simp;omega
    rw[r1];simp only[show ak 0 1=true from rfl,wD,lA,gB,mX,show aE 1=true from rfl,jA,aD,bJ,aF];exact⟨_,rfl⟩
   obtain⟨x,h190⟩:=h190;rw[h190];exact⟨_,rfl⟩
  |succ k ih=>
   intro i v st s hi hv hst hs;have hiL0:i<L.length:=by omega
   have hiL:i<(L++[0]:List Int).length:=by omega
   have e1:((i:Int)<((L++[0]:List Int).length:Int)):=by omega
   have hget:(L++[0]:List Int)[i]=L[i]:=List.getElem_append_left hiL0;have hn:=hL _ (cy hiL0);obtain⟨r,hr⟩:=ih (i+1) (v -1) (st++[s]) (s+L[i]) (by omega) (by omega) (by rw[aS,hst];rfl) (by omega);refine⟨r,?_⟩;rw[eG rj (fY w) (by omega),<-hr];generalize hg:lp rj (fY w) (v -1)=g;have hlen:(bQ (L++[0])).length=(L++[0]).length:=by unfold bQ;rw[cZ]
   have hdrop:List.drop (0+i*1) (bQ (L++[0]))=.int .i64 L[i]::bQ ((L++[0]).drop (i+1)):=by unfold bQ;rw[gj,gB,<-List.map_drop,dw hiL,iH,hget]
   have e2:i*1<(L++[0]:List Int).length:=by omega
   unfold fY;simp only[aV,e1,aW,aD,bR];rw[hlen];simp only[mE,e2,aW,kj,show Nat.beq 1 1=true from rfl,aD];rw[hdrop];simp only[aZ,bE];rw[Oj _ st s ⟨hn.1,by omega⟩ ⟨hs.1,by omega⟩ (by omega)];simp only[aB,aF,cc];rw[aN (by omega) (by omega)];rfl
 exact key L.length 0 w [] 0 (by omega) (by omega) rfl ⟨by omega,by omega⟩
theorem ajp{w:Nat}(L:List Int)(hL:∀n∈L,1<=n/\n<=3000000)(hl:L.length<=1000)(hw:2000<w):∃r:Bool×List Value×List Value,tX w (bQ (L++[0]))=some r:=by
 obtain⟨r,h⟩:=alv L hL hl hw;have h2:yH w (bQ (L++[0])) [Value.int .i64 0]=some r:=by unfold yH;rw[(show(bQ (L++[0])).length=(L++[0]).length from by unfold bQ;rw[cZ]),lA];exact h
 unfold tX GR;simp_all;cases(!ak r.fst 0)<;>grind
theorem acA{w:Nat}(W:dC w)(hw:1000000<w){ms:List aQ}(hm:∀p∈ms,ee p)(hl:ms.length<=600)(ha:∀p∈ms,jF p=false)(hc:∀p∈ms,nq p=false):
 ∃c:Value×List Value,GQ w (cx ms) (cx ms) []=some (qZ ms ms.length 0,c):=by
 have key:∀(k i v:Nat)(L:List Int),i+k=ms.length->k<v->L.length=i->(∀n∈L,1<=n/\n<=3000000)->∃c:Value×List Value,lp AA (tD w) v (cx ms) ms.length i (cx ms) (bQ L)=some (qZ ms k i,c):=by
  intro k;induction k with
  |zero=>
   intro i v L hi hv hL _;have e1:¬((i:Int)<(ms.length:Int)):=by omega
   rw[eG AA (tD w) (by omega)];unfold tD;simp only[aV,e1,bF,aF];exact⟨_,rfl⟩
  |succ k ih=>
   intro i v L hi hv hL hL2;have hiL:i<ms.length:=by omega
   have e1:((i:Int)<(ms.length:Int)):=by omega
   have hlen:(bQ L).length=i:=by unfold bQ;rw[cZ,hL]
   have r1:aE i=true:=by simp;omega
   have rr:∀n:Int,(aE (bQ L).length&&(aE ([Value.int IntKind.i64 n].length/1)&&[Value.int IntKind.i64 n].length.beq ([Value.int IntKind.i64 n].length/1*1)))=true:=by intro n;rw[hlen,r1];simp
   rw[eG AA (tD w) (by omega)];unfold qZ JM;cases hs:jh ms i with
   |error e=>
    have h34:=akF W hiL hs (aio hs) hm hl;rw[ay rfl];have h131:∃r:Bool×List Value×List Value,tX w (bQ L++[Value.int IntKind.i64 0])=some r:=by obtain⟨st,hst⟩:∃r,tX w (bQ (L++[0]))=some r:=ajp L hL2 (by omega) (by omega);refine⟨st,?_⟩;rw[<-hst];unfold bQ;rw[gV];rfl
    obtain⟨r,h131⟩:=h131;unfold tD;simp only[aV,e1,aW,aD,bR];rw[show cx ms=aC cD ms from rfl,bt iQ hiL,lL];simp only[aZ,bE];unfold GB;rw[show aC cD ms=cx ms from rfl,hlen,lA,bU,h34];simp only[aB];rw[<-hlen,rr 0,aD,h131];exact⟨_,rfl⟩
   |ok b=>
    obtain⟨aT,hcam⟩:=Qk ha hiL;have hcore:nu ms[i].core=true:=by have:=hc _ (cy hiL);unfold nq at this;simpa using this
    have h34:=Yj W hw hiL hs hm hl hcam hcore;have hsm:=Sd hiL hs hm hl hcam hcore;have hps:=Sb (fS ms[i] b) aT;have hL3:∀n∈L++[((fm (fS ms[i] b) aT).length:Int)],1<=n/\n<=3000000:=by intro n hn;rcases fI.1 hn with hn|hn<;>grind
    obtain⟨st,h131⟩:=ajo (w:=w) _ hL3 (by rw[aS,wD];omega) (by omega);have hap:bQ L++[Value.int IntKind.i64 ((fm (fS ms[i] b) aT).length:Int)]=bQ (L++[((fm (fS ms[i] b) aT).length:Int)]):=by unfold bQ;simp
    obtain⟨c,hih⟩:=ih (i+1) (v -1) _ (by omega) (by omega) (by rw[aS,wD];omega) hL3;rw[aq (λq=>by cases q)];refine⟨c,?_⟩;rw[<-hih];generalize hg:lp AA (tD w) (v -1)=g;unfold tD;simp only[aV,e1,aW,aD,bR];rw[show cx ms=aC cD ms from rfl,bt iQ hiL,lL];simp only[aZ,bE];unfold GB;rw[show aC cD ms=cx ms from rfl,hlen,lA,bU,h34];simp only[aB];have rr2:=rr ((fm (fS ms[i] b) aT).length:Int);rw[hlen] at rr2;rw[rr2,aD,hap,h131];simp only[aB,bJ,aF,cc];rw[aN (by omega) (by omega)];rfl
 obtain⟨c,h⟩:=key ms.length 0 w [] (by omega) (by omega) rfl (λn hn=>by cases hn);refine⟨c,?_⟩;unfold GQ;exact h
def wW(ms:List aQ):Bool:=match ms with
 |[p]=>!decide (p.attr=0/\p.dY=0/\p.dZ=0/\p.view.length=0)
 |_=>false
def fK(ms:List aQ):Int×Int:=
 if ms.length<1\/1000<ms.length then(1,0)
 else if 0<=dc jF ms then(2,dc jF ms)
 else if 0<=dc nq ms then(4,dc nq ms)
 else if 0<=dc oi ms then(5,dc oi ms)
 else if 0<=dc nr ms then(6,dc nr ms)
 else if wW ms=true then(7,0)
 else if 0<=qZ ms ms.length 0 then(8,qZ ms ms.length 0)
 else(0,0)
theorem vg{α:Type}{p:α->Bool}{l:List α}(h:¬0<=dc p l):∀x∈l,p x=false:=by
 have h1:dc p l<0:=by omega
 rw[xr] at h1
 grind
theorem abw{α:Type}(l:List α):dc (λ_=>false) l=-1:=by
 unfold dc
 grind
theorem Kq{α:Type}{p:α->Bool}{l:List α}(h:0<=dc p l):∃i:Nat,∃hi:i<l.length,dc p l=(i:Int)/\p l[i]=true:=by
 unfold dc at h⊢;cases hf:l.findIdx? p with
 |none=>grind
 |some i=>
  rw[List.findIdx?_eq_some_iff_getElem] at hf
  grind
theorem ak0(w:Nat){ms:List aQ}(hl:ms.length<=2000):HJ w (cx ms)=some (if ms.length<1\/1000<ms.length then 0 else-1):=by
 have hlr:∀K:Nat->Option Int,au (cx ms) K=K ms.length:=λK=>cw cD ms K;unfold HJ;rw[hlr,hlr,Gu,Gu];simp only[aB,aV]
 grind
theorem ak1(w:Nat){ms:List aQ}(hl:ms.length<=2000)(h1:1<=ms.length):HK w (cx ms)=some (if wW ms=true then 0 else-1):=by
 have hlr:∀K:Nat->Option Int,au (cx ms) K=K ms.length:=λK=>cw cD ms K;cases ms with
 |nil=>simp at h1
 |cons p r=>
  unfold HK;rw[(show∀K:List Value->Option Int,aI 14 0 (cx (p::r)) K=K (cD p++r.flatMap cD) fromλK=>bt iQ (by rw[bX];omega) K),lL];simp;rw[hlr];cases r with
  |nil=>
   rw[(show∀K:Nat->Option Int,au (aw p.view) K=K p.view.length fromλK=>cw ct _ K),Gu,Gu];unfold wW;by_cases a1:p.attr=0
   case neg=>simp[a1]
   by_cases a2:p.dY=0
   case neg=>simp_all
   by_cases a3:p.dZ=0
   case neg=>simp_all
   by_cases a4:p.view.length=0
   ·simp_all
   ·have:(0:Int)<(p.view.length:Int):=by omega
    simp_all
  |cons q r=>rfl
theorem Yt{w:Nat}(W:dC w)(hw:1000000<w){ms:List aQ}(hm:∀p∈ms,ee p)(hl:ms.length<=600\/1000<ms.length)(hl2:ms.length<=2000):yV w (cx ms)=some (fK ms):=by
 unfold yV fK FP FX;rw[show OI w=some () from rfl];rw[ak0 w hl2];simp only[aB];by_cases h1:ms.length<1\/1000<ms.length
 ·rw[ay h1,ay h1];rfl
 rw[aq h1,aq h1,show(!ak (-1) 0)=false from rfl];have hlt:ms.length<=600:=by omega
 unfold O6 NS;rw[ajQ W hm hl2];simp only[aB,aV];by_cases h2:0<=dc jF ms
 ·rw[ay h2,gk (by omega)];rfl
 rw[aq h2,fC (by omega:dc jF ms<0)];unfold O7 NT;rw[ajR W hm hl2];simp only[aB];rw[show dc zL ms=-1 from abw ms];simp only[show decide ((-1:Int)<0)=true from rfl,aF];unfold O8 NU;rw[ajS W hm hl2];simp only[aB];by_cases h4:0<=dc nq ms
 ·rw[ay h4,gk (by omega)];rfl
 rw[aq h4,fC (by omega:dc nq ms<0)];unfold O9 NV;rw[ajT W hm hl2];simp only[aB];by_cases h5:0<=dc oi ms
 ·rw[ay h5,gk (by omega)];rfl
 rw[aq h5,fC (by omega:dc oi ms<0)];unfold Pb NW;rw[ajU W hm hl2];simp only[aB];by_cases h6:0<=dc nr ms
 ·rw[ay h6,gk (by omega)];rfl
 rw[aq h6,fC (by omega:dc nr ms<0)];rw[ak1 w hl2 (by omega)];simp only[aB];by_cases h7:wW ms=true
 ·rw[ay h7,ay h7];rfl
 rw[aq h7,aq h7];simp only[show decide ((-1:Int)<0)=true from rfl,aF];unfold Pc NR;obtain⟨c,h188⟩:=acA W hw hm hlt (vg h2) (vg h4);rw[h188];simp only[aB];by_cases h8:0<=qZ ms ms.length 0
 ·rw[ay h8,gk (by omega)];rfl
 rw[aq h8,fC (by omega:qZ ms ms.length 0<0)];rfl
def iN(ms:List aQ):Int:=
 if(fK ms).1 =0 then 0
 else if(fK ms).1 =1 then(if ms.length=0 then 1 else 7)
 else if(fK ms).1 =2 then(match ms[(fK ms).2.toNat]? with|some p=>(match iK p.aG with| .ok _=>0| .error e=>e)|none=>0)
 else if(fK ms).1 =4 then 2
 else if(fK ms).1 =5 then 1
 else if(fK ms).1 =7 then 1
 else if(fK ms).1 =6 then 6
 else 7
theorem NY{w:Nat}(W:dC w)(hw:1000000<w){ms:List aQ}(hm:∀p∈ms,ee p)(hl:ms.length<=600\/1000<ms.length)(hl2:ms.length<=2000):yw w (cx ms)=some (iN ms):=by
 have hlr:∀K:Nat->Option Int,au (cx ms) K=K ms.length:=λK=>cw cD ms K;unfold yw iN;rw[Yt W hw hm hl hl2];simp only[aB,cg,qH];by_cases h0:(fK ms).1 =0
 ·rw[ay h0,ay h0]
 rw[aq h0,aq h0];by_cases h1:(fK ms).1 =1
 ·rw[ay h1,ay h1,hlr];by_cases hz:ms.length=0<;>grind
 rw[aq h1,aq h1];by_cases h2:(fK ms).1 =2
 ·rw[ay h2,ay h2];have hidx:0<=dc jF ms/\(fK ms).2 =dc jF ms:=by
   unfold fK at h2⊢;split at h2
   ·exact absurd h2 (by decide)
   rename_i a;rw[aq a];split at h2
   ·rename_i b;rw[ay b];exact⟨b,rfl⟩
   ·exfalso
    repeat' split at h2
    all_goals(simp only at h2;exact absurd h2 (show¬((_:Int)=2) by decide))
  obtain⟨i,hi,he,hb⟩:=Kq hidx.1;rw[hidx.2,he,bR,show cx ms=aC cD ms from rfl,bt iQ hi,mT,cu hi];have d0:∀r:List Value,List.drop 0 (cD ms[i]++r)=cD ms[i]++r:=λ_=>rfl;rw[d0,lL];simp;rw[OQ W (hm _ (cy hi)).tu];cases iK ms[i].aG<;>rfl
 rw[aq h2,aq h2]
 repeat' split
 all_goals rfl
theorem al2{o:Int}{view:List aK}(hv:TS view)(hr:cT 5 view=true):gP (ga o view)<=40000:=by
 obtain⟨h1,h2⟩:=hv;have hV:=zX view (aJ 8+(6+12*bH (.mk view .nil []))) λt ht=>⟨(Em (((xX hr).2) t ht)).2.2.2,h2 t ht⟩;have hN:bH (.mk view .nil [])=view.length:=by show view.length+0+0=_;simp
 have hE:gP (ga o view)=cf (aJ 8+(6+12*bH (.mk view .nil []))) view:=by show ef 8 [.mk view .nil []]=_;simp[ef,bB,ej]
 have e8:aJ 8=8:=rfl;omega
theorem abE{o:Int}{l:List cP}(h2:2<=l.length)(hl:l.length<=6){view:List aK}(hv:TS view)(hr:cT 5 view=true):gP (dE o l view)<=40000:=by
 obtain⟨h1,h2'⟩:=hv;have hm:=(xX hr).2;have hlen:=qV o l;have m3:er 7 ((16*l.length:Nat):Int) (l.flatMap (eI o))=true:=by unfold er;have:(kindOf 7).1 =1:=rfl;rw[hlen];simp_all;omega
 obtain⟨e1,he1⟩:∃e1,bB 8 (fe o l)=e1:=⟨_,rfl⟩;have hD:e1<=700:=by
  have hV:=zX (m:=100) [⟨45056,7,4,[48,49,48,48]⟩,⟨45057,4,1,eP l.length 4⟩,⟨45058,7,((16*l.length:Nat):Int),l.flatMap (eI o)⟩] (aJ 8+(6+12*bH (fe o l))) λt ht=>by
   simp at ht;rcases ht with rfl|rfl|rfl
   ·exact⟨(by decide),by simp⟩
   ·exact⟨ZD,by simp only[oX];omega⟩
   ·exact⟨m3,by simp_all;omega⟩
  have hN:bH (fe o l)=3:=rfl;have e8:aJ 8=8:=rfl;have:e1=cf (aJ 8+(6+12*bH (fe o l))) [⟨45056,7,4,[48,49,48,48]⟩,⟨45057,4,1,eP l.length 4⟩,⟨45058,7,((16*l.length:Nat):Int),l.flatMap (eI o)⟩]:=by rw[<-he1];simp[fe,bB,ej,dM]
  simp_all;omega
 have hT:gP (dE o l view)=ef e1 (if view.length=0 then[] else[.mk view .nil []]):=by rw[<-he1];rfl
 rw[hT];by_cases h0:view.length=0
 ·rw[ay h0];show e1<=_;omega
 ·rw[aq h0];have hV:=zX view (aJ e1+(6+12*bH (.mk view .nil []))) λt ht=>⟨(Em (hm t ht)).2.2.2,h2' t ht⟩;have hN:bH (.mk view .nil [])=view.length:=by
   show view.length+0+0=_;omega
  have hE:ef e1 [.mk view .nil []]=cf (aJ e1+(6+12*bH (.mk view .nil []))) view:=by simp[ef,bB,ej,dM]
  have e8:=uT e1;omega
def ou(p:aQ):Bool:=!jF p&&(!nq p&&(!oi p&&!nr p))
theorem o7{p:aQ}(h:ou p=true):jF p=false/\nq p=false/\oi p=false/\nr p=false:=by
 unfold ou at h
 grind
theorem Ki{p:aQ}(h:jF p=false):p.aG.order=1\/p.aG.order=2:=by
 unfold jF at h;cases he:iK p.aG with
 |error e=>grind
 |ok b=>
  unfold iK at he;split at he
  ·grind
  ·rename_i q;exact(s8 (qA.1 q)).1
theorem WR{ms:List aQ}(hm:∀p∈ms,ee p)(hl:ms.length<=6)(hg:∀p∈ms,ou p=true)(i:Nat):∃b,jh ms i=.ok b:=by
 unfold jh;split
 ·exact⟨_,rfl⟩
 rename_i p hp;have hpm:=nU hp;obtain⟨g1,g2,g3,g4⟩:=o7 (hg p hpm);have ho:=Ki g1;have hv:=(hm p hpm).tv;have hr:cT 5 p.view=true:=by unfold nr at g4;simpa using g4
 split
 ·split
  ·rename_i h1;have hpl:(gT ms).length=ms.length:=by unfold gT;rw[cZ]
   have hall:(gT ms).all kC=true:=by rw[iu];intro q hq;obtain⟨y,hy,rfl⟩:=List.mem_map.1 hq;have:=(o7 (hg y hy)).2.2.1;unfold oi at this;unfold kC;simp only[Bool.not_eq_false',bZ] at this⊢;obtain⟨a,b,c⟩:=this;exact⟨a,by decide,by decide,b,c⟩
   have he:=abE (o:=p.aG.order) (l:=gT ms) (by omega) (by omega) hv hr;unfold iP;rw[aq (by rintro (q|q);exact q ho;omega),hall,aq (by decide),hr,aq (by decide),aq (by omega),aq (by omega)];exact⟨_,rfl⟩
  ·exact⟨_,rfl⟩
 ·split
  ·exact⟨_,rfl⟩
  ·rename_i h0;have he:=al2 (o:=p.aG.order) hv hr;unfold ru;rw[aq (by rintro (q|q);exact q ho;exact h0 q),hr,aq (by decide),aq (by omega)];exact⟨_,rfl⟩
theorem WQ{ms:List aQ}(h:∀i,∃b,jh ms i=.ok b):∀k i,qZ ms k i=-1
 |0,i=>rfl
 |k+1,i=>by obtain⟨b,hb⟩:=h i;unfold qZ JM;rw[hb];exact WQ h k (i+1)
theorem D6{α:Type}{p:α->Bool}{l:List α}:(¬0<=dc p l)↔∀x∈l,p x=false:=by
 constructor
 ·exact vg
 ·intro h q;obtain⟨i,hi,_,hb⟩:=Kq q
  grind
theorem Ah{ms:List aQ}(hm:∀p∈ms,ee p)(h1:1<=ms.length)(hl:ms.length<=6):(fK ms).1 =0↔(∀p∈ms,ou p=true)/\wW ms=false:=by
 unfold fK;rw[aq (by omega)];constructor
 ·intro h;split at h
  ·exact absurd h (by simp)
  rename_i a1;split at h
  ·exact absurd h (by simp)
  rename_i a2;split at h
  ·exact absurd h (by simp)
  rename_i a3;split at h
  ·exact absurd h (by simp)
  rename_i a4;split at h
  ·exact absurd h (by simp)
  rename_i a5;refine⟨λp hp=>?_,by simpa using a5⟩;unfold ou;rw[vg a1 p hp,vg a2 p hp,vg a3 p hp,vg a4 p hp];rfl
 ·rintro ⟨hg,h1⟩
  rw[aq (D6.2 λp hp=>(o7 (hg p hp)).1),aq (D6.2 λp hp=>(o7 (hg p hp)).2.1),aq (D6.2 λp hp=>(o7 (hg p hp)).2.2.1),aq (D6.2 λp hp=>(o7 (hg p hp)).2.2.2),h1,aq (by decide),WQ (WR hm hl hg),aq (by decide)]
theorem Dr(ms:List aQ)(h:1<=ms.length):iN ms=0↔(fK ms).1 =0:=by
 unfold iN;constructor
 ·intro hc;split at hc
  ·rename_i q;exact q
  split at hc
  ·rw[aq (by omega)] at hc;cases hc
  split at hc
  ·rename_i h0 h1 h2;exfalso;have hidx:0<=dc jF ms/\(fK ms).2 =dc jF ms:=by
    unfold fK at h2⊢;split at h2
    ·exact absurd h2 (by decide)
    rename_i a;rw[aq a];split at h2
    ·rename_i b;rw[ay b];exact⟨b,rfl⟩
    ·exfalso
     repeat' split at h2
     all_goals(simp only at h2;exact absurd h2 (show¬((_:Int)=2) by decide))
   obtain⟨i,hi,he,hb⟩:=Kq hidx.1;rw[hidx.2,he,mT,cu hi] at hc;unfold jF at hb;simp only at hc;cases ha:iK ms[i].aG with
   |ok b=>rw[ha] at hb;cases hb
   |error e=>rw[ha] at hc;exact Qi ha hc
  repeat' split at hc
  all_goals(exact absurd hc (by decide))
 ·intro h0;rw[ay h0]
def QD:List UInt8:=[255,216,255,218,0,8,1,1,0,0,63,0,7,255,217]
def A5:aQ:=⟨⟨2,[⟨274,3,1,[0,1]⟩],[],[],[],[],[],[]⟩,[],QD,0,0,0,[]⟩
structure rE where
 p:aQ
 b:List UInt8
 aT:List UInt8
def ER(x:Except Int (List UInt8)):List UInt8:=match x with| .ok b=>b| .error _=>[]
def aR(ms:List aQ)(i:Nat):rE:=⟨(ms[i]?).getD A5,ER (jh ms i),ER (iK ((ms[i]?).getD A5).aG)⟩
def ig(g:rE):List Value:=[.int .i64 g.p.aG.order,aw g.p.aG.cn,aw g.p.aG.bD,aw g.p.aG.bM,aw g.p.aG.bm,aw g.p.aG.first,ah g.p.aG.bC,ah g.p.aG.cH,ah g.p.cj,ah g.p.core,ah g.b,.int .i64 (lG g.aT g.b),.int .i64 ((fm (fS g.p g.b) g.aT).length:Int)]
theorem xu(g:rE):(ig g).length=13:=rfl
def fM(ms:List aQ):List rE:=(List.range ms.length).map (aR ms)
structure gD(ms:List aQ):Prop where
 mem:∀p∈ms,ee p
 le:ms.length<=6
 rQ:∀p∈ms,ou p=true
theorem gD.Sc{ms:List aQ}(F:gD ms){i:Nat}(hi:i<ms.length):∃b aT,jh ms i=.ok b/\iK ms[i].aG=.ok aT/\nu ms[i].core=true/\aR ms i=⟨ms[i],b,aT⟩:=by
 obtain⟨b,hb⟩:=WR F.mem F.le F.rQ i;obtain⟨aT,hc⟩:=Qk (λp hp=>(o7 (F.rQ p hp)).1) hi;refine⟨b,aT,hb,hc,?_,?_⟩
 ·have:=(o7 (F.rQ _ (cy hi))).2.1;unfold nq at this
  grind
 ·unfold aR;rw[cu hi,pS,hb,hc];rfl
theorem DR{ms:List aQ}(hm:∀p∈ms,ee p)(hl:ms.length<=6\/1000<ms.length)(h:iN ms=0):gD ms/\1<=ms.length:=by
 by_cases h0:ms.length<1\/1000<ms.length
 ·exfalso;unfold iN at h;rw[(show(fK ms).1 =1 from by unfold fK;rw[ay h0])] at h;omega
 ·have h1:1<=ms.length:=by omega
  have h6:ms.length<=6:=by omega
  have:=(Dr ms h1).1 h;have:=(Ah hm h1 h6).1 this;exact⟨⟨hm,h6,this.1⟩,h1⟩
theorem agT(a d e:Int)(x:dr)(c:List UInt8)(hx:x=A5.aG\/x=⟨1,[],[],[],[],[],[],[]⟩)(hc:c=QD\/c=[]):ee ⟨x,[],c,a,d,e,[]⟩:=by
 have t0:TS []:=⟨by decide,λt h=>by cases h⟩;have hcl:c.length<=2000:=by rcases hc with rfl|rfl<;>decide
 rcases hx with rfl|rfl
 ·exact⟨(show TS [⟨274,3,1,[0,1]⟩] from⟨by decide,λt h=>by rw[nV.1 h];decide⟩),t0,t0,t0,t0,t0,(show 0<=2000 by decide),(show 0<=2000 by decide),(show 0<=2000 by decide),hcl⟩
 ·exact⟨t0,t0,t0,t0,t0,t0,(show 0<=2000 by decide),(show 0<=2000 by decide),(show 0<=2000 by decide),hcl⟩
theorem KT:ee A5:=agT 0 0 0 _ _ (.inl rfl) (.inl rfl)
def mu(l:List aK):Bool:=l.any (λt=>decide (600<t.data.length))||decide (60<l.length)
theorem ako{w:Nat}(l:List aK)(hl:l.length<2^63)(hw:l.length<w):Yb w (aw l)=some (mu l):=by
 have hlr:∀K:Nat->Option Bool,au (aw l) K=K l.length:=λK=>cw ct l K;have key:∀(k i v:Nat),i+k=l.length->k<v->∀(z:Value->Int->Option Bool)(F:(Value->Int->Option Bool)->Value->Int->Option Bool),
  (∀(x3:Value->Int->Option Bool)(x4:Value)(x5:Int),F x3 x4 x5=au x4 λ(x6:Nat)=>bif ak x5 (Int.ofNat x6) then aA x5 λ(x7:Nat)=>aI 4 x7 x4 λx8=>af (List.drop 2 (List.drop 1 x8)) λ(x9:Value)(x10:List Value)=>au x9 λ(x11:Nat)=>bif ak 600 (Int.ofNat x11) then some true else x3 x4 (ag IntKind.i64 (x5.add 1)) else au x4 λ(x12:Nat)=>some (ak 60 (Int.ofNat x12)))->
  lp z F v (aw l) i=some ((l.drop i).any (λt=>decide (600<t.data.length))||decide (60<l.length)):=by
  intro k;induction k with
  |zero=>
   intro i v hi hv z F hF;have e1:¬((i:Int)<(l.length:Int)):=by omega
   rw[eG z F (by omega),hF,hlr,show l.drop i=[] from List.drop_of_length_le (by omega)];simp only[aV,bU,e1,bF,aF];rw[hlr,List.any_nil,zn]
   congr 1
   rw[ir,bZ,bZ];omega
  |succ k ih=>
   intro i v hi hv z F hF;have hiL:i<l.length:=by omega
   have e1:((i:Int)<(l.length:Int)):=by omega
   have dd:∀(y:aK)(r:List Value),List.drop 2 (List.drop 1 (ct y++r))=ah y.data::r:=λ_ _=>rfl;rw[eG z F (by omega),hF,hlr];simp only[aV,bU,e1,aW,aD,bR];rw[show aw l=aC ct l from rfl,bt gO hiL,dd];simp only[aZ];rw[cN,dw hiL,List.any_cons];by_cases h:600<l[i].data.length
   ·have e2:(600:Int)<(l[i].data.length:Int):=by omega
    simp_all
   ·have e2:¬((600:Int)<(l[i].data.length:Int)):=by omega
    simp only[h,e2,bF,aF];have:=ih (i+1) (v -1) (by omega) (by omega) z F hF;rw[cc,aN (by omega) (by omega)];exact this
 exact key l.length 0 w (by omega) hw _ _ (λ_ _ _=>rfl)
theorem zi{l:List aK}(h:mu l=false):TS l:=by unfold mu at h;simp_all;exact⟨by omega,λt ht=>by have:=h.1 t ht;omega⟩
def CR(p:aQ):Bool:=mu p.aG.cn||(mu p.aG.bD||(mu p.aG.bM||(mu p.aG.bm||(mu p.aG.first||(mu p.view||(decide (2000<p.aG.bC.length)||(decide (2000<p.aG.cH.length)||(decide (2000<p.cj.length)||decide (2000<p.core.length)))))))))
theorem al0{p:aQ}(h:CR p=false):ee p:=by unfold CR at h;simp_all;obtain⟨a0,a2,a3,a4,a1,av,b1,b2,b3,b4⟩:=h;exact⟨zi a0,zi a2,zi a3,zi a4,zi a1,zi av,by omega,by omega,by omega,by omega⟩
structure Iy(w:Nat)(ms:List aQ):Prop where
 n:ms.length<2^63
 rows:∀p∈ms,∀l∈[p.aG.cn,p.aG.bD,p.aG.bM,p.aG.bm,p.aG.first,p.view],l.length<2^63/\l.length<w
theorem Wq(l:List aK):rowOf (aw l)=some (l.length,l.flatMap ct):=rfl
theorem XV(w:Nat)(a b:Int)(d:List UInt8)(hd:d.length<=1000000000):ua w a b (ah d)=some (a,b,ah d):=by unfold ua;rw[rK w _ hd];rfl
theorem LJ(w:Nat):∀l:List aK,(∀t∈l,t.data.length<=1000000000)->nJ (ua w) (l.flatMap ct)=some (l.flatMap ct)
 |[],_=>rfl
 |t::l,h=>by have e:(t::l).flatMap ct=.int .i64 t.tag::.int .i64 t.ty::.int .i64 t.az::ah t.data::l.flatMap ct:=rfl;rw[e];unfold nJ;rw[show bd [ah t.data]=true from rfl,aD,XV w _ _ _ (h t (by simp)),aB,LJ w l λx hx=>h x (by grind),aB]
theorem Tg:∀(l:List aK)(i:Nat)(p:aK->Bool),(∀x (h:x<l.length),x<i->p l[x]=true)->(∀x (h:x<l.length),i<=x->p l[x]=false)->l.filter p=l.take i
 |[],_,_,_,_=>by simp
 |a::l,0,p,h1,h2=>by rw[pP,List.filter_eq_nil_iff];intro x hx;obtain⟨k,hk,rfl⟩:=List.mem_iff_getElem.1 hx;simp_all
 |a::l,i+1,p,h1,h2=>by have h0:=h1 0 (by simp) (by simp);simp at h0;rw[km,ay h0,nW,Tg l i p (λx h q=>by have:=h1 (x+1) (by grind) (by omega);simpa using this) λx h q=>by have:=h2 (x+1) (by simp;omega) (by omega);simpa using this]
theorem Kh:∀(l:List aK)(i:Nat)(p:aK->Bool),(∀x (h:x<l.length),x<i->p l[x]=false)->(∀x (h:x<l.length),i<=x->p l[x]=true)->l.filter p=l.drop i
 |[],_,_,_,_=>by simp
 |a::l,0,p,h1,h2=>by rw[eu,List.filter_eq_self];intro x hx;obtain⟨k,hk,rfl⟩:=List.mem_iff_getElem.1 hx;simp_all
 |a::l,i+1,p,h1,h2=>by have h0:=h1 0 (by simp) (by simp);simp at h0;rw[km,aq (by simp[h0]),List.drop_succ_cons,Kh l i p (λx h q=>by have:=h1 (x+1) (by grind) (by omega);simpa using this) λx h q=>by have:=h2 (x+1) (by simp;omega) (by omega);simpa using this]
theorem aaz{w:Nat}(l:List aK)(t:Int)(hr:fH l=true)(hl:l.length<2^20)(hw:l.length+2<w)(hd:∀t∈l,t.data.length<=1000000000):yK w (aw l) t=some (aw (oY l t)):=by
 obtain⟨i,a,b,c,h1,h2⟩:=Ob l t hr (by omega) hw;unfold yK xb;rw[Wq,aB,(cS gO l),mX,show Nat.blt l.length 1000000000=true by simp;omega];rw[show(true&&true)=true from rfl,LJ w l hd,aB,show ae l.length (l.flatMap ct)=aw l from rfl,a,aB];cases hf:iB l t with
 |none=>
  have:oY l t=l:=by unfold oY;rw[List.filter_eq_self];intro x hx;have:=List.find?_eq_none.1 (hf) x hx;simpa using this
  rw[this];rfl
 |some x=>
  obtain⟨hi,hx⟩:=c (by rw[hf];rfl);have ht:l[i].tag=t:=by have h0:=List.find?_some (hf);rw[hf] at hx;rw[<-jB hx];simpa using h0
  have e1:(decide ((0:Int)<=((i:Nat):Int))&&Nat.blt i l.length)=true:=by simp;omega
  have hdr:oY l t=l.take i++l.drop (i+1):=by
   unfold oY
   conv=>lhs;rw[<-lO i l,dw hi]
   rw[List.filter_append,km,aq (by simp[ht])]
   congr 1
   ·rw[List.filter_eq_self];intro x hx;obtain⟨k,hk,rfl⟩:=List.mem_iff_getElem.1 hx;simp at hk;have:=h1 k (by omega) (by omega);simp;omega
   ·rw[List.filter_eq_self];intro x hx;obtain⟨k,hk,rfl⟩:=List.mem_iff_getElem.1 hx;simp at hk;have:=vC hr (show i<i+1+k by omega) (show i+1+k<l.length by omega);simp;omega
  simp only[Option.isSome_some,aD,e1,mT];rw[nB gO,xk gO,xk gO,fg (l:=l.drop (i+1)) (by simp),hdr,<-ft];unfold aw aC;rw[show(l.take i++l.drop (i+1)).length=l.length -1 by simp;omega]
theorem aix{w:Nat}(l:List aK)(x:aK)(hr:fH l=true)(hl:l.length<2^20)(hw:l.length+2<w)(hd:∀t∈l,t.data.length<=1000000000)(hx:x.data.length<=1000000000):Cb w (aw l) x.tag x.ty x.az (ah x.data)=some (aw (kc l x)):=by
 obtain⟨i,a,b,c,h1,h2⟩:=Ob l x.tag hr (by omega) hw;unfold Cb yh;rw[Wq,aB,(cS gO l),mX,show Nat.blt l.length 1000000000=true by simp;omega,show bd [ah x.data]=true from rfl];rw[show(true&&true&&true)=true from rfl,aD,LJ w l hd,XV w _ _ _ hx,aB,show ae l.length (l.flatMap ct)=aw l from rfl,a];have hlt:l.filter (λy=>decide (y.tag<x.tag))=l.take i:=Tg l i _ (λk h q=>by have:=h1 k h q;simpa using this) λk h q=>by have:=h2 k h q;simp;omega
 cases hf:iB l x.tag with
 |none=>
  have cF:∀k (h:k<l.length),l[k].tag≠x.tag:=λk h=>by have:=List.find?_eq_none.1 (hf) l[k] (cy h);simpa using this
  simp_all;rw[nB gO,xk gO];unfold kc aw aC;rw[hlt,(Kh l i _ (λk h q=>by have:=h1 k h q;simp;omega) λk h q=>by have:=h2 k h q;have:=cF k h;simp;omega),ft,show(l.take i++x::l.drop i).length=l.length+1 by simp;omega];rfl
 |some y=>
  obtain⟨hi,hy⟩:=c (by rw[hf];rfl);have ht:l[i].tag=x.tag:=by rw[hf] at hy;rw[<-jB hy];simpa using(List.find?_some (hf))
  have hgt:l.filter (λy=>decide (x.tag<y.tag))=l.drop (i+1):=Kh l (i+1) _ (λk h q=>by
   by_cases hk:k=i
   ·subst hk;simp;omega
   ·have:=h1 k h (by omega);simp;omega) λk h q=>by have:=vC hr (show i<k by omega) h;simp;omega
  simp_all;rw[nB gO,xk gO];unfold kc aw aC;rw[hlt,hgt,ft,show(l.take i++x::l.drop (i+1)).length=l.length by simp;omega];rfl
theorem Jm(l:List UInt8):bk (l.map λb=>(b.toNat:Int))=l.map bg:=by unfold bk;rw[List.map_map];rfl
theorem aaj{w:Nat}(b:List UInt8)(hb:b.length<=65519):Cp w (ah b)=some (aC fw (gw b),0):=by
 unfold Cp zS;rw[sY,cZ,Ys w _ (by omega),aB];cases b with
 |nil=>rfl
 |cons a b=>
  rw[(show w7 (a::b).length=1 from by unfold w7;simp_all;omega),show(aj ((1:Nat):Int) 1&&Nat.ble (a::b).length 65519)=true by rw[show Nat.ble (a::b).length 65519=true by rw[iV];exact hb];rfl];have e:bk (mG++(a::b).map λb=>(b.toNat:Int))=(fL++1::1::(a::b)).map bg:=by rw[<-Jm];rfl
  rw[e,(show gw (a::b)=[fL++1::1::(a::b)] from by unfold gw;rw[aq (by simp)])];unfold aC fw ah aC;rw[dK,(show∀l:List UInt8,l.flatMap pY=l.map bg fromλl=>by induction l with|nil=>rfl|cons x l ih=>rw[dK,ih];rfl),(show(fL++1::1::(a::b)).length=14+(a::b).length from by simp[fL];omega)]
  rfl
theorem ZR{w:Nat}(a b c d:List UInt8)(h0:0<a.length)(h:a.length+b.length+c.length+d.length<2^29):tW w (ah a) (ah b) (ah c) (d.map bg)=some ((d++(a++(b++c))).map bg):=by
 unfold tW;rw[PB,aB,sY,sY,sY,<-gV,<-gV,<-gV,Jm];have e:(Nat.blt 0 (d++(a++(b++c))).length&&Nat.ble (d++(a++(b++c))).length 1000000000)=true:=by simp;omega
 grind
theorem ach(t:Int):(kindOf t).1 <=8:=by
 unfold kindOf
 repeat' split
 all_goals decide
theorem acN{ty az:Int}{l:List UInt8}(h:er ty az l=true):l.length<=524288:=by obtain⟨h0,h1,h2,h3⟩:=vo h;have:az*(kindOf ty).1 <=az*8:=Int.mul_le_mul_of_nonneg_left (ach ty) (by omega);omega
theorem acQ{w:Nat}(l:List aK)(h:∀t∈l,er t.ty t.az t.data=true)(hl:l.length<=65535)(hw:65540<=w):nR w (aw l)=some false:=by
 have key:OU w (aw l)=some (-1):=by
  refine gS (ev:=λi (g:Value->Int->Int->Option Int)=>g (aw l) (l.length:Int) i) l.length ?_ ?_ (by omega)
  ·intro i g hi;simp_all;rw[show aw l=aC ct l from rfl,bt gO hi,(show∀(y:aK)(r:List Value),ct y++r=Value.int .i64 y.tag::.int .i64 y.ty::.int .i64 y.az::ah y.data::r fromλ_ _=>rfl)];simp;have hm:=h l[i] (cy hi);unfold OL;rw[yG w _ _ _ (by have:=acN hm;omega),hm,aN (by omega) (by omega)];rfl
  ·intro g;simp
 unfold nR;rw[key];rfl
theorem MF(d:aU):(fN (dT d)&&(fN (dS d)&&fN (dB d)))=true:=by cases d;rfl
theorem acM{w:Nat}(hw:65540<=w){sh:List bc}{s:Nat}{d:aU}(h:cK sh s d=true):mK (kH w) (nR w) (dT d) (dS d) (dB d)=true:=by
 unfold mK;rw[MF];obtain⟨tags,subs,blob⟩:=d;unfold cK at h;simp_all;obtain⟨⟨h1,h2⟩,h3,_⟩:=h;have hn:bH (.mk tags subs blob)=tags.length+cd subs+(if blob.length=0 then 0 else 2):=rfl;have hT:∀t∈tags,er t.ty t.az t.data=true:=λt ht=>by unfold kh at h3;simp_all
 rw[show dT (.mk tags subs blob)=aw tags from rfl,show dS (.mk tags subs blob)=ae (cd subs) (gK subs) from rfl,show dB (.mk tags subs blob)=ah blob from rfl,GW w tags subs blob (by omega),acQ tags hT (by omega) hw]
 grind
mutual
theorem Tn{w:Nat}(hw:65540<=w){sh:List bc}:∀(d:aU)(s f:Nat),cK sh s d=true->fR d<=f->mg (mK (kH w) (nR w)) f (dT d) (dS d) (dB d)=true
 | .mk tags subs blob,s,0,h,hf=>by simp[fR] at hf
 | .mk tags subs blob,s,f+1,h,hf=>by unfold mg;rw[acM hw h];unfold cK at h;simp at h;obtain⟨⟨h1,h2⟩,_,_,_,h5⟩:=h;have hn:bH (.mk tags subs blob)=tags.length+cd subs+(if blob.length=0 then 0 else 2):=rfl;show(Nat.beq (gK subs).length (cd subs*4)&&Nat.blt (cd subs) 1000000000&&vn (mg (mK (kH w) (nR w)) f) (gK subs))=true;rw[YL,mX,show Nat.blt (cd subs) 1000000000=true by simp;omega,Tp hw subs _ f h5 (by simp only[fR] at hf;omega)];rfl
theorem Tp{w:Nat}(hw:65540<=w){sh:List bc}:∀(s:cI)(S:bc)(f:Nat),jc sh S s=true->jU s<=f->vn (mg (mK (kH w) (nR w)) f) (gK s)=true
 | .nil,_,_,_,_=>rfl
 | .cons tag d r,S,f,h,hf=>by unfold jc at h;simp_all;unfold jU at hf;rw[show gK (.cons tag d r)=.int .i64 tag::(cU d++gK r) from rfl,qb];show((fN (dT d)&&(fN (dS d)&&fN (dB d)))&&mg (mK (kH w) (nR w)) f (dT d) (dS d) (dB d)&&vn (mg (mK (kH w) (nR w)) f) (gK r))=true;rw[MF,Tn hw d _ f h.2.1 (by omega),Tp hw r S f h.2.2 (by omega)];rfl
end
theorem acO{w:Nat}(hw:65540<=w)(o:Int)(ds:List aU)(hn:ds.length<1000000000)(h:∀d∈ds,∃(sh:List bc)(s:Nat),cK sh s d=true)(hd:kO ds<=w):vT w o (cR ds)=some true:=by
 have hC:∀ds:List aU,(∀d∈ds,∃(sh:List bc)(s:Nat),cK sh s d=true)->kO ds<=w->rV (mg (mK (kH w) (nR w)) w) (ds.flatMap cU)=true:=by
  intro ds;induction ds with
  |nil=>intro _ _;rfl
  |cons d ds ih=>intro h hd;obtain⟨sh,s,h0⟩:=h d (by simp);unfold kO at hd;rw[dK,qb];show((fN (dT d)&&(fN (dS d)&&fN (dB d)))&&mg (mK (kH w) (nR w)) w (dT d) (dS d) (dB d)&&rV (mg (mK (kH w) (nR w)) w) (ds.flatMap cU))=true;rw[MF,Tn hw d s w h0 (by omega),ih (λx hx=>h x (by grind)) (by omega)];rfl
 show cond (Nat.beq (ds.flatMap cU).length (ds.length*3)&&(Nat.blt ds.length 1000000000&&rV (mg (mK (kH w) (nR w)) w) (ds.flatMap cU))) (some true) none=some true;rw[(cS kQ ds),mX,show Nat.blt ds.length 1000000000=true by simp;omega,hC ds h hd];rfl
theorem abn{w:Nat}(hw:65540<=w):Hand w:=
 ⟨λo ds hn h hd=>acO hw o ds hn h hd,λl x h1 h2 h3 h4 h5=>aix l x h1 h2 h3 h4 h5,λl t h1 h2 h3 h4=>aaz l t h1 h2 h3 h4,λb h=>aaj b h,λa b c d h0 h=>ZR a b c d h0 h⟩
section
open Go.Shelf Go.RowKit Go.Lib Go.ChangeShapes Go.WideShapes Go.Deep
section
variable{H:Type} {enc:TypeId×Value->H} {P:Program} {w:World} {base:Nat} {spare:Nat->Bool} {held:Bool}
theorem ZS{b i:Nat}{y:Value}(h:w.cell? ⟨b,i,none⟩=some y):fG w b i=some y:=by
 unfold fG;split
 ·rename_i es c q;unfold World.cell? at h;simp only[q] at h;cases h
 ·exact h
theorem ZT{a:Addr}{y:Value}(h:w.cell? a=some y):a.spot=none:=by
 unfold World.cell? at h;split at h
 ·split at h
  ·cases h
  ·rename_i q;cases e:a.spot with
   |none=>rfl
   |some _=>rw[e] at q;exact absurd rfl q
 ·cases h
theorem UZ{α:Type}{f:α->List Value}(h:∀x,bd (f x)=true):∀l:List α,bd (l.flatMap f)=true
 |[]=>rfl
 |x::l=>by rw[dK];exact ES (h x) (UZ h l)
theorem PA{α:Type}{t e:TypeId}{k:Nat}(f:α->List Value)(pf:∀p,bd (f p)=true)(ht:P.underlying t=some (.slice e))(hk:P.cellsOf e=k)(k0:0<k){fuel:Nat}{cs:List Value}{x:DataW H×List MemPlace}
 (each:∀fuel cs x,DataW.trod enc P w base spare held fuel e cs=some x->∃p:α,bG (λb i=>fG w b i) (f p) cs) (h:DataW.trod enc P w base spare held fuel t cs=some x):
 ∃(l:List α)(v:Value),cs=[v]/\aL (λb i=>fG w b i) (aC f l) v/\l.length<=maxLen:=by
 rcases open_slice ht h with⟨rfl,_⟩|⟨a,len,cap,m,n,D,Pl,rfl,hb,hl,hm,hmm,hx,hi⟩
 ·exact⟨[],_,rfl,.fV,ia _⟩
 have hlm:len<=m:=by rw[hmm];split<;>omega
 have key:∀j,j<=len->∃(l:List α)(ys:List Value),l.length=j/\bG (λb i=>fG w b i) (l.flatMap f) ys/\ys.length=j*k/\∀q y,ys[q]? =some y->w.cell? (a.add q)=some y:=by
  intro j;induction j with
  |zero=>intro _;exact⟨[],[],rfl,.nil,by simp,λq y h=>by simp at h⟩
  |succ j ih=>
   intro hj;obtain⟨l,ys,e1,e2,e3,e4⟩:=ih (by omega);obtain⟨cs',hc,htr⟩:=hi j (by omega);obtain⟨p,hp⟩:=each _ _ _ htr;rw[hk] at hc;obtain⟨_,hcl,hat⟩:=World.cells?_some hc;refine⟨l++[p],ys++cs',by simp[e1],?_,by simp[e3,hcl,lP],λq y hq=>?_⟩
   ·rw[ft,dK,lu,dW];exact e2.join hp
   ·rcases gW q ys.length with hlt|hge
    ·rw[wC hlt] at hq;exact e4 q y hq
    ·rw[ur hge] at hq;have hql:=(oN.1 hq).1;have:=hat (q -ys.length) (by omega);rw[hq] at this;rw[<-this,Go.Deep.add_add]
     congr 2
     omega
 obtain⟨l,ys,e1,e2,e3,e4⟩:=key len (aM _);refine⟨l,_,rfl,?_,by omega⟩;by_cases h0:len=0
 ·have:l=[]:=kK (by omega);subst this;subst h0;exact .fV
 ·obtain⟨y0,hy0⟩:∃y,ys[0]? =some y:=⟨_,cu (by rw[e3];exact Nat.mul_pos (by omega) k0)⟩;obtain⟨b,o,sp⟩:=a;have hs:sp=none:=by
   have:=ZT (e4 0 y0 hy0);unfold Addr.add at this;first|exact this|(split at this<;>exact this)|simpa using this
  subst hs;subst e1;refine aL.row e2 (λi y hy=>ZS ?_) rfl hl (UZ pf l);have:=e4 i y hy;rwa[Addr.add_lit] at this
end
end
section
open Go.Shelf Go.RowKit Go.Lib Go.ChangeShapes Go.WideShapes Go.Deep
theorem Qv:Tryz.prog.cellsOf 136=4:=by kernel_rfl
theorem uO:Tryz.prog.cellsOf 3=1:=by kernel_rfl
theorem ZX:Tryz.prog.cellsOf 5=1:=by kernel_rfl
theorem ZY:Tryz.prog.cellsOf 134=3:=by kernel_rfl
theorem zQ:Tryz.prog.cellsOf 26=1:=by kernel_rfl
theorem wY:Tryz.prog.cellsOf 25=1:=by kernel_rfl
theorem ZV:Tryz.prog.cellsOf 28=8:=by kernel_rfl
theorem Qu:Tryz.prog.cellsOf 30=14:=by kernel_rfl
theorem ZW:Tryz.prog.cellsOf 22=1:=by kernel_rfl
theorem ZU:Tryz.prog.cellsOf 24=1:=by kernel_rfl
section
variable{H:Type} {enc:TypeId×Value->H} {w:World} {base:Nat} {spare:Nat->Bool} {held:Bool}
theorem jH{t:TypeId}{fs:Array Field}{fuel:Nat}{cs:List Value}{x:DataW H×List MemPlace}(ht:Tryz.prog.underlying t=some (.struct fs))(h:DataW.trod enc Tryz.prog w base spare held fuel t cs=some x)(i:Nat)(f:Field)(hf:fs[i]? =some f){k:Nat}(hk:Tryz.prog.cellsOf f.type=k):
 ∃n y,DataW.trod enc Tryz.prog w base spare held n f.type ((cs.drop f.offset).take k)=some y:=by
 obtain⟨xs,n,_,_,_,hl,hat⟩:=DataW.trod_struct ht h;have hi:i<fs.size:=(fa.1 hf).1;subst hk;exact⟨n,_,(hat i f hf).trans (cu (by omega))⟩
theorem lenOf{t:TypeId}{fs:Array Field}{fuel:Nat}{cs:List Value}{x:DataW H×List MemPlace}(ht:Tryz.prog.underlying t=some (.struct fs))(h:DataW.trod enc Tryz.prog w base spare held fuel t cs=some x){k:Nat}(hk:Tryz.prog.cellsOf t=k):cs.length=k:=by obtain⟨_,_,_,_,hl,_⟩:=DataW.trod_struct ht h;rw[hl,hk]
theorem vA{fuel:Nat}{cs:List Value}{x:DataW H×List MemPlace}(h:DataW.trod enc Tryz.prog w base spare held fuel 3 cs=some x):∃n,cs=[.int .i64 n]:=by obtain⟨n,e,_⟩:=DataW.trod_int Tryz.underlying3 h;exact⟨n,e⟩
theorem ahF{fuel:Nat}{cs:List Value}{x:DataW H×List MemPlace}(h:DataW.trod enc Tryz.prog w base spare held fuel 5 cs=some x):∃b:UInt8,bG (λb i=>fG w b i) (pY b) cs:=by
 obtain⟨n,rfl,_,q⟩:=DataW.trod_int Tryz.underlying5 h;have hq:0<=n/\n<=255:=by unfold Lit.wf at q;rw[bu] at q;exact⟨nY q.1,nY q.2⟩
 refine⟨UInt8.ofNat n.toNat,?_⟩;have e:pY (UInt8.ofNat n.toNat)=[.int .u8 n]:=by
  unfold pY bg;have:((UInt8.ofNat n.toNat).toNat:Int)=n:=by rw[wG];omega
  rw[this]
 rw[e];exact .cons (.int _ _) .nil
theorem Bf{fuel:Nat}{cs:List Value}{x:DataW H×List MemPlace}(h:DataW.trod enc Tryz.prog w base spare held fuel 26 cs=some x):∃(l:List UInt8)(v:Value),cs=[v]/\aL (λb i=>fG w b i) (ah l) v/\l.length<=maxLen:=
 PA pY (λ_=>rfl) Tryz.underlying26 ZX (by decide) (λ_ _ _ h=>ahF h) h
theorem ahH{fuel:Nat}{cs:List Value}{x:DataW H×List MemPlace}(h:DataW.trod enc Tryz.prog w base spare held fuel 136 cs=some x):∃t:aK,bG (λb i=>fG w b i) (ct t) cs:=by
 have hl:=lenOf Tryz.underlying136 h Qv
 match cs,hl with
 |[a,b,c,d],_=>obtain⟨_,_,h0⟩:=jH Tryz.underlying136 h 0 _ rfl uO;obtain⟨_,_,h1⟩:=jH Tryz.underlying136 h 1 _ rfl ZY;obtain⟨_,_,h2⟩:=jH Tryz.underlying134 h1 0 _ rfl uO;obtain⟨_,_,h3⟩:=jH Tryz.underlying134 h1 1 _ rfl uO;obtain⟨_,_,h4⟩:=jH Tryz.underlying134 h1 2 _ rfl zQ;obtain⟨n0,e0⟩:=vA h0;obtain⟨n1,e1⟩:=vA h2;obtain⟨n2,e2⟩:=vA h3;obtain⟨l,v,e3,L,_⟩:=Bf h4;have e0:[a]=[.int .i64 n0]:=e0;have e1:[b]=[.int .i64 n1]:=e1;have e2:[c]=[.int .i64 n2]:=e2;have e3:[d]=[v]:=e3;cases e0;cases e1;cases e2;cases e3;exact⟨⟨n0,n1,n2,l⟩,.cons (.int _ _) (.cons (.int _ _) (.cons (.int _ _) (.cons L .nil)))⟩
theorem xT{fuel:Nat}{cs:List Value}{x:DataW H×List MemPlace}(h:DataW.trod enc Tryz.prog w base spare held fuel 25 cs=some x):∃(l:List aK)(v:Value),cs=[v]/\aL (λb i=>fG w b i) (aw l) v/\l.length<=maxLen:=
 PA ct (λ_=>rfl) Tryz.underlying25 Qv (by decide) (λ_ _ _ h=>ahH h) h
def zx(p:aQ):Prop:=∀l∈[p.aG.cn,p.aG.bD,p.aG.bM,p.aG.bm,p.aG.first,p.view],l.length<=maxLen
theorem ahG{fuel:Nat}{cs:List Value}{x:DataW H×List MemPlace}(h:DataW.trod enc Tryz.prog w base spare held fuel 30 cs=some x):∃p:{p:aQ//zx p},bG (λb i=>fG w b i) (cD p.1) cs:=by
 have hl:=lenOf Tryz.underlying30 h Qu
 match cs,hl with
 |[a0,a1,a2,a3,a4,a5,a6,a7,a8,a9,a10,a11,a12,a13],_=>obtain⟨_,_,hE⟩:=jH Tryz.underlying30 h 0 _ rfl ZV;obtain⟨_,_,h0⟩:=jH Tryz.underlying28 hE 0 _ rfl uO;obtain⟨_,_,h1⟩:=jH Tryz.underlying28 hE 1 _ rfl wY;obtain⟨_,_,h2⟩:=jH Tryz.underlying28 hE 2 _ rfl wY;obtain⟨_,_,h3⟩:=jH Tryz.underlying28 hE 3 _ rfl wY;obtain⟨_,_,h4⟩:=jH Tryz.underlying28 hE 4 _ rfl wY;obtain⟨_,_,h5⟩:=jH Tryz.underlying28 hE 5 _ rfl wY;obtain⟨_,_,h6⟩:=jH Tryz.underlying28 hE 6 _ rfl zQ;obtain⟨_,_,h7⟩:=jH Tryz.underlying28 hE 7 _ rfl zQ;obtain⟨_,_,h8⟩:=jH Tryz.underlying30 h 1 _ rfl zQ;obtain⟨_,_,h9⟩:=jH Tryz.underlying30 h 2 _ rfl zQ;obtain⟨_,_,h10⟩:=jH Tryz.underlying30 h 3 _ rfl uO;obtain⟨_,_,h11⟩:=jH Tryz.underlying30 h 4 _ rfl uO;obtain⟨_,_,h12⟩:=jH Tryz.underlying30 h 5 _ rfl uO;obtain⟨_,_,h13⟩:=jH Tryz.underlying30 h 6 _ rfl wY;obtain⟨n0,e0⟩:=vA h0;obtain⟨l1,v1,e1,L1,m1⟩:=xT h1;obtain⟨l2,v2,e2,L2,m2⟩:=xT h2;obtain⟨l3,v3,e3,L3,m3⟩:=xT h3;obtain⟨l4,v4,e4,L4,m4⟩:=xT h4;obtain⟨l5,v5,e5,L5,m5⟩:=xT h5;obtain⟨l6,v6,e6,L6,_⟩:=Bf h6;obtain⟨l7,v7,e7,L7,_⟩:=Bf h7;obtain⟨l8,v8,e8,L8,_⟩:=Bf h8;obtain⟨l9,v9,e9,L9,_⟩:=Bf h9;obtain⟨n10,e10⟩:=vA h10;obtain⟨n11,e11⟩:=vA h11;obtain⟨n12,e12⟩:=vA h12;obtain⟨l13,v13,e13,L13,m13⟩:=xT h13;have e0:[a0]=[.int .i64 n0]:=e0;have e1:[a1]=[v1]:=e1;have e2:[a2]=[v2]:=e2;have e3:[a3]=[v3]:=e3;have e4:[a4]=[v4]:=e4;have e5:[a5]=[v5]:=e5;have e6:[a6]=[v6]:=e6;have e7:[a7]=[v7]:=e7;have e8:[a8]=[v8]:=e8;have e9:[a9]=[v9]:=e9;have e10:[a10]=[.int .i64 n10]:=e10;have e11:[a11]=[.int .i64 n11]:=e11;have e12:[a12]=[.int .i64 n12]:=e12;have e13:[a13]=[v13]:=e13;cases e0;cases e1;cases e2;cases e3;cases e4;cases e5;cases e6;cases e7;cases e8;cases e9;cases e10;cases e11;cases e12;cases e13;refine⟨⟨⟨⟨n0,l1,l2,l3,l4,l5,l6,l7⟩,l8,l9,n10,n11,n12,l13⟩,λl hl=>?_⟩,.cons (.int _ _) (.cons L1 (.cons L2 (.cons L3 (.cons L4 (.cons L5 (.cons L6 (.cons L7 (.cons L8 (.cons L9 (.cons (.int _ _) (.cons (.int _ _) (.cons (.int _ _) (.cons L13 .nil)))))))))))))⟩;simp only[cQ,mV,mZ] at hl;rcases hl with rfl|rfl|rfl|rfl|rfl|rfl<;>assumption
theorem ahE{fuel:Nat}{cs:List Value}{x:DataW H×List MemPlace}(h:DataW.trod enc Tryz.prog w base spare held fuel 24 cs=some x):∃(ms:List aQ)(v:Value),cs=[v]/\aL (λb i=>fG w b i) (cx ms) v/\ms.length<=maxLen/\∀p∈ms,zx p:=by
 have hl:=lenOf Tryz.underlying24 h ZU
 match cs,hl with
 |[a],_=>
  obtain⟨_,_,h0⟩:=jH Tryz.underlying24 h 0 _ rfl ZW;obtain⟨l,v,e,L,hm⟩:=PA (λp:{p:aQ//zx p}=>cD p.1) (λ_=>rfl) Tryz.underlying22 Qu (by decide) (λ_ _ _ h=>ahG h) h0;have e:[a]=[v]:=e;cases e;refine⟨l.map (·.1),a,rfl,?_,by simpa using hm,λp hp=>?_⟩
  ·have:cx (l.map (·.1))=aC (λp:{p:aQ//zx p}=>cD p.1) l:=by
    unfold cx aC;rw[cZ,List.flatMap_map]
   rw[this];exact L
  ·obtain⟨q,_,rfl⟩:=List.mem_map.1 hp;exact q.2
end
end
def dL(ms:List aQ)(i:Nat):Nat:=(fm (fS (aR ms i).p (aR ms i).b) (aR ms i).aT).length
def dU(ms:List aQ):Nat->Nat
 |0=>0
 |i+1=>dU ms i+dL ms i
def kx(ms:List aQ):Nat:=(aR ms 0).aT.length+14
def qU(ms:List aQ)(i:Nat):cP:=⟨(aR ms i).p.attr,dL ms i,if i=0 then 0 else(dU ms i:Int) -kx ms,(aR ms i).p.dY,(aR ms i).p.dZ⟩
def iE(ms:List aQ):List cP:=(List.range ms.length).map (qU ms)
def gH(ms:List aQ)(i:Nat):List UInt8:=if i=0/\1<ms.length then ER (iP (aR ms 0).p.aG.order (iE ms) (aR ms 0).p.view) else(aR ms i).b
def kB(ms:List aQ)(i:Nat):List UInt8:=fm (fS (aR ms i).p (gH ms i)) (aR ms i).aT
def dP(ms:List aQ):List (List UInt8):=(List.range ms.length).map (kB ms)
theorem ql(ms:List aQ):(iE ms).length=ms.length:=by unfold iE;rw[cZ,List.length_range]
theorem xQ(ms:List aQ):(dP ms).length=ms.length:=by unfold dP;rw[cZ,List.length_range]
theorem gD.at_{ms:List aQ}(F:gD ms){i:Nat}(hi:i<ms.length):(aR ms i).p=ms[i]/\jh ms i=.ok (aR ms i).b/\iK ms[i].aG=.ok (aR ms i).aT/\nu ms[i].core=true:=by obtain⟨b,aT,k1,k2,k3,k4⟩:=F.Sc hi;rw[k4];exact⟨rfl,k1,k2,k3⟩
theorem qP{ms:List aQ}(F:gD ms){i:Nat}(hi:i<ms.length):1<=dL ms i/\dL ms i<=3000000:=by obtain⟨h1,h2,h3,h4⟩:=F.at_ hi;have h6:=F.le;unfold dL;rw[h1];exact⟨Sb _ _,Sd hi h2 F.mem (by omega) h3 h4⟩
theorem Pr{ms:List aQ}(F:gD ms):∀i,i<=ms.length->dU ms i<=3000000*i
 |0,_=>aM _
 |i+1,h=>by have:=Pr F i (by omega);have:=(qP F (i:=i) (by omega)).2;unfold dU;omega
theorem Ie(ms:List aQ):∀{i j:Nat},i<=j->dU ms i<=dU ms j
 |i,0,h=>by rw[Nat.le_zero.1 h];exact aM _
 |i,j+1,h=>by
  rcases gW i (j+1) with q|q
  ·have:=Ie ms (show i<=j by omega);show dU ms i<=dU ms j+dL ms j;omega
  ·rw[show i=j+1 by omega];exact aM _
theorem Jk{x:oS}{aT:List UInt8}:aT.length+x.cM.length+6<=(fm x aT).length:=by
 unfold fm ky;rw[mw,mw];have a1:(cV ⟨216,[],[]⟩).length=2:=rfl;have a2:(cV ⟨225,aT,[]⟩).length=aT.length+4:=by rw[show cV ⟨225,aT,[]⟩=[255,UInt8.ofNat (225:Int).toNat,UInt8.ofNat ((aT.length+2)/256),UInt8.ofNat ((aT.length+2)%256)]++aT++[] from rfl];simp only[aS,bX,List.length_nil];omega
 rw[aS,aS,a1,a2];split
 ·rename_i h;omega
 ·rw[List.singleton_append,mw,aS];have a3:(cV ⟨226,x.cM,[]⟩).length=x.cM.length+4:=by
   rw[show cV ⟨226,x.cM,[]⟩=[255,UInt8.ofNat (226:Int).toNat,UInt8.ofNat ((x.cM.length+2)/256),UInt8.ofNat ((x.cM.length+2)%256)]++x.cM++[] from rfl];simp only[aS,bX,List.length_nil];omega
  omega
theorem LU{ms:List aQ}(F:gD ms)(h2:1<ms.length):
 ∃b,iP (aR ms 0).p.aG.order (iE ms) (aR ms 0).p.view=.ok b/\b.length=(aR ms 0).b.length/\gH ms 0=b/\14<b.length:=by
 obtain⟨h1,k1,k2,k3⟩:=F.at_ (i:=0) (by omega);have h6:=F.le;unfold jh at k1;rw[cu (by omega:0<ms.length)] at k1;simp only[dM] at k1;rw[ay h2] at k1;rw[h1];have hpl:(gT ms).length=ms.length:=by unfold gT;rw[cZ]
 have hwl:=ql ms;have hn:2<=ms.length/\16*ms.length<=65536:=by omega
 obtain⟨N,hN⟩:=abx ms[0].aG.order hn ms[0].view;obtain⟨A,B,hAB⟩:=abD ms[0].aG.order hn ms[0].view;have hhead:kx ms<=dL ms 0:=by
  unfold kx dL;have:=Jk (x:=fS (aR ms 0).p (aR ms 0).b) (aT:=(aR ms 0).aT);have e:(fS (aR ms 0).p (aR ms 0).b).cM=(aR ms 0).b:=rfl;rw[e] at this;obtain⟨e1,_⟩:=Sg k1;have e2:(aR ms 0).b.length=4+(eC (dE ms[0].aG.order (gT ms) ms[0].view) gu).length:=by rw[e1,aS];rfl
  have e3:8<=(eC (dE ms[0].aG.order (gT ms) ms[0].view) gu).length:=by unfold eC;simp only[aS,eB];split<;>(simp;omega)
  omega
 have hall:(iE ms).all kC=true:=by
  rw[iu];intro p hp;unfold iE at hp;obtain⟨i,hi,rfl⟩:=List.mem_map.1 hp;have hi:=List.mem_range.1 hi;obtain⟨g1,g2,g3,g4⟩:=F.at_ hi;have:=o7 (F.rQ _ (cy hi));have bp:=this.2.2.1;unfold oi at bp;simp at bp;have l1:=qP F hi;have s1:=Pr F i (by omega);unfold kC qU;rw[g1];rw[bZ];refine⟨bp.1,⟨by show 0<=(dL ms i:Int);omega,by show(dL ms i:Int)<_;omega⟩,?_,bp.2.1,bp.2.2⟩;show 0<=(if i=0 then(0:Int) else(dU ms i:Int) -kx ms)/\(if i=0 then(0:Int) else(dU ms i:Int) -kx ms)<4294967296;by_cases hi0:i=0
  ·rw[ay hi0];omega
  ·rw[aq hi0];have:=Ie ms (show 1<=i by omega);have e:dU ms 1=dL ms 0:=by show dU ms 0+dL ms 0=_;show 0+dL ms 0=_;omega
   omega
 have hb:=k1;unfold iP at hb;split at hb
 ·cases hb
 split at hb
 ·cases hb
 split at hb
 ·cases hb
 split at hb
 ·cases hb
 split at hb
 ·cases hb
 rename_i q1 q2 q3 q4 q5;rw[hN _ hpl] at q5;injection hb with hb;refine⟨gz++eC (dE ms[0].aG.order (iE ms) ms[0].view) gu,?_,?_,?_,?_⟩
 ·unfold iP;rw[aq (by rw[hwl];rw[hpl] at q1;exact q1),aq (by rw[hall];decide),aq q3,aq (by rw[hwl];omega),aq (by rw[hN _ hwl];exact q5)]
 ·rw[<-hb,hAB _ hwl,hAB _ hpl];simp only[aS,qV,hwl,hpl]
 ·unfold gH;rw[ay ⟨rfl,h2⟩,h1];unfold iP;rw[aq (by rw[hwl];rw[hpl] at q1;exact q1),aq (by rw[hall];decide),aq q3,aq (by rw[hwl];omega),aq (by rw[hN _ hwl];exact q5)];rfl
 ·rw[hAB _ hwl];simp only[aS,qV,hwl];have:gz.length=4:=rfl;omega
def lH(L:List Int)(i:Nat):Int:=(L.take i).sum
def oK(L:List Int):List Int:=(List.range (L.length+1)).map (lH L)
theorem Dj{L:List Int}{i:Nat}(h:i<L.length):lH L (i+1)=lH L i+L[i]:=by unfold lH;rw[iI h,List.sum_append];simp
theorem alx(L:List Int):(oK L).length=L.length+1:=by unfold oK;rw[cZ,List.length_range]
theorem alw(L:List Int){i:Nat}(h:i<(oK L).length):(oK L)[i]=lH L i:=by simp[oK]
theorem I5{L:List Int}(hL:∀n∈L,1<=n/\n<=3000000):∀i,i<=L.length->(i:Int)<=lH L i/\lH L i<=3000000*i
 |0,_=>by unfold lH;simp
 |i+1,h=>by have:=I5 hL i (by omega);have:=hL _ (cy (show i<L.length by omega));rw[Dj (by omega)];omega
theorem Kw(L:List Int):L.flatMap dI=bQ L:=by
 unfold bQ;induction L with
 |nil=>rfl
 |cons a l ih=>rw[dK,iH,ih];rfl
theorem aj6{w:Nat}(L:List Int)(hL:∀n∈L,1<=n/\n<=3000000)(hl:L.length<=1000)(hw:2000<w):G6 w (aC dI L) [Value.int .i64 0]=some (-1,bQ (oK L)):=by
 unfold G6;rw[cw];refine gS (ev:=λi (g:Value->Int->Int->List Value->Option (Int×List Value))=>g (aC dI L) L.length i (bQ ((List.range (i+1)).map (lH L)))) L.length ?_ ?_ (by omega)
 ·intro i g hi;have e1:((i:Int)<(L.length:Int)):=by omega
  have hn:=hL _ (cy hi);have ha:=I5 hL i (by omega);simp only[aV,e1,aW,aD,bR];rw[bt qM hi,show dI L[i]++(L.drop (i+1)).flatMap dI=.int .i64 L[i]::(L.drop (i+1)).flatMap dI from rfl];simp only[aZ,bE];rw[List.range_succ,gV,iH,List.map_nil,Oj _ _ _ ⟨hn.1,by omega⟩ ⟨by omega,by omega⟩ (by simp;omega)];simp only[aB,aF,cc];rw[aN (by omega) (by omega),List.range_succ,gV,iH,List.map_nil,List.range_succ,gV,iH,List.map_nil,Dj hi];rfl
 ·intro g;have e1:¬((L.length:Int)<(L.length:Int)):=by omega
  simp only[aV,e1,bF,aF];rfl
theorem ajn{w:Nat}(L:List Int)(hL:∀n∈L,1<=n/\n<=3000000)(hl:L.length<=1000)(hw:2000<w):GC w (aC dI L)=some (aC dI (oK L),true):=by unfold GC Oi;rw[aj6 L hL hl hw];simp only[aB,aC,Kw];rw[show(bQ (oK L)).length=(oK L).length by unfold bQ;rw[cZ],lA];rfl
theorem ai6(w:Nat)(P:List cP)(h0:0<P.length)(hl:P.length<=1000):Gl w (dQ P)=some (P.flatMap fq):=by
 unfold Gl dQ;rw[cw,Al nL];have hn:=nextslicecap_le (need:=0+P.length) (old:=0) (by omega);have e4:(Builtin.nextslicecap (0+P.length) 0).ble 5000000000=true:=by rw[iV];omega
 have e5:(P.flatMap fq).length.beq (P.length*5)=true:=by rw[cS nL];exact mX _
 have e6:Nat.blt 0 P.length=true:=by simp;omega
 have e7:(0+P.length).ble 0=false:=by
  cases h:P.length with
  |zero=>omega
  |succ n=>rw[gj];rfl
 have e8:aE P.length=true:=by simp;omega
 rw[e6,e5,e7,e8,e4];rfl
def qk(L:List Int)(h:Int)(P:List cP):List cP:=(List.range P.length).map λi=>⟨(P[i]?.getD ⟨0,0,0,0,0⟩).attr,L[i]?.getD 0,if i=0 then 0 else lH L i -h,(P[i]?.getD ⟨0,0,0,0,0⟩).dY,(P[i]?.getD ⟨0,0,0,0,0⟩).dZ⟩
theorem Vx(A B vs:List Value)(k:Nat):bh (A.length+k) vs (A++B)=A++bh k vs B:=by
 induction vs generalizing k B with
 |nil=>rfl
 |cons v vs ih=>rw[bh,bh,show A.length+k+1=A.length+(k+1) by omega,List.set_append_right (A.length+k) v (by omega),show A.length+k -A.length=k by omega,ih]
theorem LQ(L:List Int)(h:Int)(P:List cP):(qk L h P).length=P.length:=by simp[qk]
theorem Vn(L:List Int)(h:Int)(P:List cP){i:Nat}(hi:i<P.length)(hL:i<L.length)(q:i<(qk L h P).length):(qk L h P)[i]=⟨P[i].attr,L[i],if i=0 then 0 else lH L i -h,P[i].dY,P[i].dZ⟩:=by simp[qk,hi,hL]
set_option maxHeartbeats 1000000 in
theorem aiS{w:Nat}(L:List Int)(hL:∀n∈L,1<=n/\n<=3000000)(hl:L.length<=1000)(hw:2000<w)(h:Int)(hh:0<=h/\h<=lH L 1)(P:List cP)(hP:P.length=L.length)(h0:0<P.length):
 Ge w (aC dI L) h (dQ P)=some (dQ (qk L h P),true):=by
 unfold Ge;rw[ajn L hL hl hw,ai6 w P h0 (by omega)];simp only[aB,bJ,aF];rw[show dQ P=aC fq P from rfl,cw,cw,hP];have e0:ak h 0=false:=by rw[aV,gM];omega
 rw[show aj (Int.ofNat L.length) (Int.ofNat L.length)=true by rw[cg,bZ],bJ,aF,e0,aF,cS nL,iW _ (by decide)];have hmono:∀i,1<=i->i<=L.length->lH L 1<=lH L i:=by
  intro i h1;induction i with
  |zero=>omega
  |succ i ih=>
   intro h2;rcases Nat.eq_zero_or_pos i with rfl|q
   ·exact Int.le_refl _
   ·have:=ih q (by omega);have:=hL _ (cy (show i<L.length by omega));rw[Dj (i:=i) (by omega)];omega
 refine gS (ev:=λi (g:Value->Int->Value->Int->Int->List Value->Option (Value×Bool))=>g (aC dI L) h (aC dI (oK L)) P.length i (((qk L h P).take i++P.drop i).flatMap fq)) P.length ?_ ?_ (by omega)
 ·intro i g hi;have e1:((i:Int)<(P.length:Int)):=by omega
  have hiL:i<L.length:=by omega
  have hiS:i<(oK L).length:=by rw[alx];omega
  have hiQ:i<(qk L h P).length:=by rw[LQ];exact hi
  have hn:=hL _ (cy hiL);have ha:=I5 hL i (by omega);have tg:∀(p:cP)(r:List Value),fq p++r=.int .i64 p.attr::.int .i64 p.size::.int .i64 p.at_::.int .i64 p.dY::.int .i64 p.dZ::r:=λ_ _=>rfl;rw[ft,dw hi,dK,tg,iI hiQ,dV,ft,ft,dK,lu,dW,tg,Vn L h P hi hiL hiQ];have hA:(((qk L h P).take i).flatMap fq).length=i*5:=by rw[cS nL,dk];congr 1;omega
  generalize((qk L h P).take i).flatMap fq=A at hA⊢;generalize(P.drop (i+1)).flatMap fq=B;have put1:∀(a s t v:Value)(B:List Value),bh (0+i*5+1) [v] (A++(a::s::t::B))=A++(a::v::t::B):=λa s t v B=>by rw[show 0+i*5+1=A.length+1 by omega,Vx];rfl
  have vz:∀(a s t v:Value)(B:List Value),bh (0+i*5+2) [v] (A++(a::s::t::B))=A++(a::s::v::B):=λa s t v B=>by rw[show 0+i*5+2=A.length+2 by omega,Vx];rfl
  have dr2:∀(a s t:Value)(B:List Value),List.drop (0+i*5+2) (A++(a::s::t::B))=t::B:=λa s t B=>by rw[show 0+i*5+2=A.length+2 by omega,List.drop_append];simp
  have b1:∀(a s t d e:Value),(i*5).blt (A++(a::s::t::d::e::B)).length=true:=λa s t d e=>by simp;omega
  have b2:∀(a s t d e:Value)(k:Nat),k<=5->(0+i*5+k).ble (A++(a::s::t::d::e::B)).length=true:=λa s t d e k hk=>by simp;omega
  have c1:∀z:Int,(SV.i IntKind.i64 z).cells.length.beq 1=true:=λ_=>rfl;simp only[aV,e1,aW,aD,bR];rw[bt qM hiL,show dI L[i]++(L.drop (i+1)).flatMap dI=.int .i64 L[i]::(L.drop (i+1)).flatMap dI from rfl];simp only[aZ,bE];rw[b1,show Nat.beq 5 5=true from rfl,eJ,aD,c1,eJ,show 0+i*5+1+1=0+i*5+2 from rfl,b2 _ _ _ _ _ 2 (by omega),aD,put1,b1,eJ,aD,show Nat.beq 1 1=true from rfl,eJ,show 0+i*5+2+1=0+i*5+3 from rfl,b2 _ _ _ _ _ 3 (by omega),aD,vz];by_cases h1:i=0
  ·subst h1;rw[show decide ((0:Int)<((0:Nat):Int))=false from rfl,aF,b1,eJ,aD,dr2];simp only[aZ,bE];rw[cc,aN (by omega) (by omega)];rfl
  ·have e2:((0:Int)<(i:Int)):=by omega
   have hm:=hmono i (by omega) (by omega);rw[fC e2,aD,bt qM hiS,show∀r,dI (oK L)[i]++r=.int .i64 (oK L)[i]::r fromλ_=>rfl,alw];simp only[aZ,bE];rw[b1,eJ,aD,jd,aN (by omega) (by omega),c1,eJ,show 0+i*5+2+1=0+i*5+3 from rfl,b2 _ _ _ _ _ 3 (by omega),aD,vz,b1,eJ,aD,dr2];simp only[aZ,bE];have e3:¬(lH L i -h<0):=by omega
   rw[gk e3,aF,cc,aN (by omega) (by omega),aq h1];rfl
 ·intro g;have e1:¬((P.length:Int)<(P.length:Int)):=by omega
  simp only[aV,e1,bF,aF];rw[List.drop_of_length_le (aM _),dW,fg (by rw[LQ];exact aM _),cS nL,iW _ (by decide)];rfl
theorem Sk{w:Nat}(W:dC w){o:Int}(ho:o=1\/o=2){l:List cP}(h2:2<=l.length)(hl:l.length<=600){view:List aK}(hv:VS view)(hr:cT 5 view=true):(ff (dE o l view)).length<100000000:=by
 have T:=Sl W ho h2 hl hv hr;have h:=CA (dE o l view).dG 0 8 T.hd;have hc:gX (dE o l view).dG<=2:=by unfold dE fe;simp only;split<;>simp[gX,dD,ib]
 have h2:gX (dE o l view).dG*(10000+2)<=2*(10000+2):=wF _ hc;have h3:(ff (dE o l view)).length=(jz 0 8 (dE o l view).dG).length+1:=rfl;omega
def lJ(x:rE×List UInt8):List Value:=[.int .i64 x.1.p.aG.order,aw x.1.p.aG.cn,aw x.1.p.aG.bD,aw x.1.p.aG.bM,aw x.1.p.aG.bm,aw x.1.p.aG.first,ah x.1.p.aG.bC,ah x.1.p.aG.cH,ah x.1.p.cj,ah x.1.p.core,ah x.2,.int .i64 (lG x.1.aT x.1.b),.int .i64 ((fm (fS x.1.p x.1.b) x.1.aT).length:Int)]
theorem RS(x:rE×List UInt8):(lJ x).length=13:=rfl
def iO(ms:List aQ):List (rE×List UInt8):=(List.range ms.length).map λi=>(aR ms i,gH ms i)
theorem abq(ms:List aQ):(iO ms).length=ms.length:=by unfold iO;rw[cZ,List.length_range]
theorem Ku(ms:List aQ):(fM ms).length=ms.length:=by unfold fM;rw[cZ,List.length_range]
theorem Kt(ms:List aQ){i:Nat}(h:i<(fM ms).length):(fM ms)[i]=aR ms i:=by simp[fM]
theorem abp(ms:List aQ){i:Nat}(h:i<(iO ms).length):(iO ms)[i]=(aR ms i,gH ms i):=by simp[iO]
def kA(ms:List aQ):List Int:=(List.range ms.length).map λi=>(dL ms i:Int)
theorem KM(ms:List aQ):(kA ms).length=ms.length:=by unfold kA;rw[cZ,List.length_range]
theorem KL(ms:List aQ){i:Nat}(h:i<(kA ms).length):(kA ms)[i]=dL ms i:=by simp[kA]
theorem I6(ms:List aQ):∀i,i<=ms.length->lH (kA ms) i=(dU ms i:Int)
 |0,_=>rfl
 |i+1,h=>by
  have hi:i<(kA ms).length:=by rw[KM];omega
  rw[Dj hi,I6 ms i (by omega),KL];show _=((dU ms i+dL ms i:Nat):Int);omega
theorem ajG{w:Nat}(W:dC w)(hw:1000000<w){ms:List aQ}(F:gD ms)(hc:iN ms=0):GI w (cx ms)=some ((fM ms).flatMap ig):=by
 have hlr:∀K:Nat->Option (List Value),au (cx ms) K=K ms.length:=λK=>cw cD ms K;have h6:=F.le;have hm:=F.mem;unfold GI;rw[NY W hw hm (by omega) (by omega)];simp only[aB,cg];rw[fC hc,bJ,aF,hlr];have hil:=Ku ms;refine gS (ev:=λi (g:Int->Int->Value->List Value->Option (List Value))=>g ms.length i (cx ms) (((fM ms).take i).flatMap ig)) ms.length ?_ ?_ (by omega)
 ·intro i g hi;obtain⟨b,aT,k1,k2,k3,k4⟩:=F.Sc hi;have e1:((i:Int)<(ms.length:Int)):=by omega
  have hiI:i<(fM ms).length:=by omega
  have hget:(fM ms)[i]=⟨ms[i],b,aT⟩:=by rw[Kt];exact k4
  simp only[aV,e1,aW,aD];rw[Yj W hw hi k1 hm (by omega) k2 k3];have hr1:aE (((fM ms).take i).flatMap ig).length=true:=by rw[cS xu];simp;omega
  rw[aB,hr1,cc,aN (by omega) (by omega),iI hiI,ft,hget];rfl
 ·intro g;have e1:¬((ms.length:Int)<(ms.length:Int)):=by omega
  simp only[aV,e1,bF,aF];rw[fg (by omega)]
theorem ai4{w:Nat}(hw:1000000<w)(ms:List aQ)(h6:ms.length<=6):Gj w ((fM ms).flatMap ig)=some ((fM ms).flatMap ig,bQ (kA ms)):=by
 unfold Gj;have hil:=Ku ms;have hll:=KM ms;rw[cS xu,iW _ (by decide)];refine gS (ev:=λi (g:Int->Int->List Value->List Value->Option (List Value×List Value))=>g (fM ms).length i ((fM ms).flatMap ig) (bQ ((kA ms).take i))) ms.length ?_ ?_ (by omega)
 ·intro i g hi;have e1:((i:Int)<((fM ms).length:Int)):=by omega
  have hiI:i<(fM ms).length:=by omega
  have hiL:i<(kA ms).length:=by omega
  have hlt:(i*13).blt ((fM ms).flatMap ig).length=true:=by rw[cS xu];simp;omega
  have og:∀(y:rE)(r:List Value),ig y++r=.int .i64 y.p.aG.order::aw y.p.aG.cn::aw y.p.aG.bD::aw y.p.aG.bM::aw y.p.aG.bm::aw y.p.aG.first::ah y.p.aG.bC::ah y.p.aG.cH::ah y.p.cj::ah y.p.core::ah y.b::.int .i64 (lG y.aT y.b)::.int .i64 ((fm (fS y.p y.b) y.aT).length:Int)::r:=λ_ _=>rfl;simp only[aV,e1,aW,aD,bR];rw[show Nat.beq 13 13=true from rfl,eJ,hlt,aD,gj,nB xu,dw hiI,dK,og];simp only[aZ,bE];have hr:aE (bQ ((kA ms).take i)).length=true:=by unfold bQ;simp;omega
  rw[show∀a b c d e f g h i j k l m,NL w a b c d e f g h i j k l m=some m fromλ_ _ _ _ _ _ _ _ _ _ _ _ _=>rfl,aB,hr,Kt,cc,aN (by omega) (by omega),iI hiL,KL,show(i:Int)+1=((i+1:Nat):Int) by omega];rw[show∀z:Value,(true&&(aE ([z].length/1)&&[z].length.beq ([z].length/1*1)))=true fromλz=>by simp,aD];unfold bQ dL;rw[gV];rfl
 ·intro g;have e1:¬((ms.length:Int)<((fM ms).length:Int)):=by omega
  simp only[aV,e1,bF,aF];rw[fg (by omega)]
def I9(ms:List aQ):(Int×Int×Value×Value×List Value)⊕(Value×Int):=
 if iN ms=0 then .inl (if ms.length=1 then(0,0,ae 0 [],ae 0 [],(iO ms).flatMap lJ) else(0,(aR ms 0).p.aG.order,dQ (iE ms),aw (aR ms 0).p.view,(iO ms).flatMap lJ)) else .inr (.pointer none,iN ms)
theorem abr{ms:List aQ}(h:ms.length=1):(fM ms).flatMap ig=(iO ms).flatMap lJ:=by
 unfold fM iO;rw[h];have:gH ms 0=(aR ms 0).b:=by unfold gH;rw[aq (by omega)]
 show ig (aR ms 0)++[]=lJ (aR ms 0,gH ms 0)++[];rw[this];rfl
theorem abt{ms:List aQ}(h:1<ms.length):bh 10 [ah (gH ms 0)] ((fM ms).flatMap ig)=(iO ms).flatMap lJ:=by
 obtain⟨n,hn⟩:∃n,ms.length=n+1:=⟨ms.length -1,by omega⟩;unfold fM iO;rw[hn,uw,iH,iH,dK,dK];have e:((List.range n).map Nat.succ).map (aR ms)=((List.range n).map Nat.succ).map (aR ms):=rfl;have k:∀l:List Nat,((l.map Nat.succ).map (aR ms)).flatMap ig=((l.map Nat.succ).map λi=>(aR ms i,gH ms i)).flatMap lJ:=by
  intro l;induction l with
  |nil=>rfl
  |cons a l ih=>
   rw[iH,iH,iH,dK,dK,ih];have:gH ms (Nat.succ a)=(aR ms (Nat.succ a)).b:=by unfold gH;rw[aq (λq=>Nat.succ_ne_zero a q.1)]
   rw[this];rfl
 rw[k];rfl
theorem aiQ{w:Nat}(W:dC w)(hw:1000000<w){ms:List aQ}(hm:∀p∈ms,ee p)(hl:ms.length<=6\/1000<ms.length)(hl2:ms.length<=2000):Gc w (cx ms)=some (I9 ms):=by
 unfold Gc I9;rw[NY W hw hm (by omega) hl2];simp only[aB,cg];by_cases hc:iN ms=0
 case neg=>rw[aq hc,gk hc];rfl
 obtain⟨F,h1⟩:=DR hm hl hc;have h6:=F.le;have hil:=Ku ms;rw[ay hc,fC hc,bJ,aF,ajG W hw F hc];simp only[aB];rw[show((fM ms).flatMap ig).length/13=ms.length by rw[cS xu,iW _ (by decide),hil]];by_cases hn:ms.length=1
 ·rw[ay hn,abr hn,hn];rfl
 have h2:1<ms.length:=by omega
 have e2:¬((Int.ofNat ms.length:Int)=1):=by show¬((ms.length:Int)=1);omega
 rw[aq hn,gk e2,aF];obtain⟨g1,k1,k2,k3⟩:=F.at_ (i:=0) (by omega);have hmp:=hm _ (cy (show 0<ms.length by omega));have gd:=o7 (F.rQ _ (cy (show 0<ms.length by omega)));have ho:=Ki gd.1;have hr:cT 5 ms[0].view=true:=by have:=gd.2.2.2;unfold nr at this;simpa using this
 have hpl:(gT ms).length=ms.length:=by unfold gT;rw[cZ]
 have hix:iP ms[0].aG.order (gT ms) ms[0].view=.ok (aR ms 0).b:=by unfold jh at k1;rw[cu (by omega:0<ms.length)] at k1;simp only[dM] at k1;rw[ay h2] at k1;exact k1
 obtain⟨bw,j1,j2,j3,j4⟩:=LU F h2;have h27:=Ya W (by omega) hix hmp.vs (Sk W ho (by omega) (by omega) hmp.vs hr);have hcons:(fM ms).flatMap ig=ig (aR ms 0)++((fM ms).drop 1).flatMap ig:=by
  have hi0:0<(fM ms).length:=by omega
  have:=dw hi0;rw[eu] at this;rw[<-Kt ms hi0,<-dK,<-this]
 have hlen:((fM ms).flatMap ig).length=ms.length*13:=by rw[cS xu,hil]
 have hb0:Nat.blt 0 ((fM ms).flatMap ig).length=true:=by rw[hlen];simp;omega
 have hb11:Nat.ble 11 ((fM ms).flatMap ig).length=true:=by rw[hlen];simp;omega
 have d10:∀r:List Value,List.drop 10 (ig (aR ms 0)++r)=ah (aR ms 0).b::.int .i64 (lG (aR ms 0).aT (aR ms 0).b)::.int .i64 ((fm (fS (aR ms 0).p (aR ms 0).b) (aR ms 0).aT).length:Int)::r:=λ_=>rfl;have d11:∀r:List Value,List.drop 11 (ig (aR ms 0)++r)=.int .i64 (lG (aR ms 0).aT (aR ms 0).b)::.int .i64 ((fm (fS (aR ms 0).p (aR ms 0).b) (aR ms 0).aT).length:Int)::r:=λ_=>rfl;have t10:List.drop 10 ((fM ms).flatMap ig)=ah (aR ms 0).b::.int .i64 (lG (aR ms 0).aT (aR ms 0).b)::.int .i64 ((fm (fS (aR ms 0).p (aR ms 0).b) (aR ms 0).aT).length:Int)::((fM ms).drop 1).flatMap ig:=by rw[hcons,d10]
 have t11:List.drop 11 ((fM ms).flatMap ig)=.int .i64 (lG (aR ms 0).aT (aR ms 0).b)::.int .i64 ((fm (fS (aR ms 0).p (aR ms 0).b) (aR ms 0).aT).length:Int)::((fM ms).drop 1).flatMap ig:=by rw[hcons,d11]
 have hat:lG (aR ms 0).aT (aR ms 0).b=(((aR ms 0).aT.length+10:Nat):Int):=by unfold lG;rw[aq (by omega)]
 have l0:=qP F (i:=0) (by omega);have hcl:kx ms<=dL ms 0:=by unfold kx dL;have:=Jk (x:=fS (aR ms 0).p (aR ms 0).b) (aT:=(aR ms 0).aT);have e:(fS (aR ms 0).p (aR ms 0).b).cM=(aR ms 0).b:=rfl;rw[e] at this;omega
 have hcam:(aR ms 0).aT.length+14<=3000000:=by have:=hcl;unfold kx at this;omega
 have hLL:∀n∈kA ms,1<=n/\n<=3000000:=by intro n hn;unfold kA at hn;obtain⟨i,hi,rfl⟩:=List.mem_map.1 hn;have:=qP F (List.mem_range.1 hi);omega
 have hll:=KM ms;have hat1:lH (kA ms) 1=dL ms 0:=by rw[I6 ms 1 (by omega)];show((dU ms 0+dL ms 0:Nat):Int)=_;show((0+dL ms 0:Nat):Int)=_;omega
 have h67:=aiS (w:=w) (kA ms) hLL (by omega) (by omega) (kx ms:Int) ⟨by omega,by omega⟩ (gT ms) (by omega) (by omega);have hplw:qk (kA ms) (kx ms:Int) (gT ms)=iE ms:=by
  refine List.ext_getElem (by rw[LQ,ql,hpl]) λi q1 q2=>?_;have hi:i<ms.length:=by rw[ql] at q2;exact q2
  rw[Vn _ _ _ (by omega) (by omega),KL,I6 ms i (by omega)];have e1:∀q,(gT ms)[i]'q=⟨ms[i].attr,0,0,ms[i].dY,ms[i].dZ⟩:=λq=>by simp only[gT,List.getElem_map]
  rw[e1];have e2:(iE ms)[i]=qU ms i:=by simp[iE]
  rw[e2];unfold qU;rw[(F.at_ hi).1]
 rw[hplw] at h67;have hrow:ae ((bQ (kA ms)).length/1) (bQ (kA ms))=aC dI (kA ms):=by unfold aC;rw[Kw,lA];unfold bQ;rw[cZ]
 have h84:=Yr W ms[0].aG.order (l:=iE ms) (by rw[ql];omega) hmp.vs;rw[show Nat.beq 13 13=true from rfl,eJ,hb0,aD,t10];simp only[aZ];rw[h27];simp only[aB];rw[ai4 hw ms h6];simp only[aB];rw[eJ,hb0,aD,t11];simp only[aZ,bE];rw[hat,cc,aN (by omega) (by omega),hrow,show(((aR ms 0).aT.length+10:Nat):Int)+4=(kx ms:Int) by unfold kx;omega,h67];simp only[aB];rw[h84,g1] at*;rw[j1];simp only[aB];rw[aD,hb11,kj];rw[<-j3,abt h2];rfl
theorem Xg(d:List UInt8):(cV ⟨226,d,[]⟩).length=d.length+4:=by rw[show cV ⟨226,d,[]⟩=[255,UInt8.ofNat (226:Int).toNat,UInt8.ofNat ((d.length+2)/256),UInt8.ofNat ((d.length+2)%256)]++d++[] from rfl];simp
theorem xC{ms:List aQ}(F:gD ms){i:Nat}(hi:i<ms.length):zt (fS ms[i] (gH ms i)) (aR ms i).aT/\(gH ms i).length<=65533/\(kB ms i).length=dL ms i:=by
 obtain⟨g1,k1,k2,k3⟩:=F.at_ hi;have h6:=F.le;have I:=Ks hi k1 F.mem (by omega) k2 k3;have hlen:(gH ms i).length=(aR ms i).b.length->(kB ms i).length=dL ms i:=λh=>by
  unfold kB dL fm;have:∀(x y:oS)(aT:List UInt8),x.cj=y.cj->x.core=y.core->x.cM.length=y.cM.length->(cX (ky x aT)).length=(cX (ky y aT)).length:=by
   intro x y aT e1 e2 e3;unfold ky;rw[e1,e2,e3];by_cases h0:y.cM.length=0
   ·rw[ay h0,ay h0]
   ·rw[aq h0,aq h0];simp only[mw,List.singleton_append,aS];rw[Xg,Xg,e3]
  exact this (fS (aR ms i).p (gH ms i)) (fS (aR ms i).p (aR ms i).b) _ rfl rfl h
 by_cases h0:i=0/\1<ms.length
 ·obtain⟨rfl,h2⟩:=h0;obtain⟨bw,j1,j2,j3,j4⟩:=LU F h2;obtain⟨e1,_⟩:=Sg j1;have hb:=I.cM;have q:(aR ms 0).b.length<=65533:=by
   rcases hb with q|q
   ·have:(aR ms 0).b.length=0:=q;omega
   ·exact q.2
  rw[<-j3] at j2 j4;refine⟨⟨I.app,I.rows,I.cj,I.core,.inr ⟨?_,?_⟩⟩,by omega,hlen j2⟩
  ·show gz.isPrefixOf (gH ms 0)=true;rw[j3,e1];exact qB.2 (sK _ _)
  ·show(gH ms 0).length<=65533;omega
 ·have e:gH ms i=(aR ms i).b:=by unfold gH;rw[aq h0]
  rw[e] at hlen⊢;have hb:=I.cM;refine⟨I,?_,hlen rfl⟩;rcases hb with q|q
  ·have:(aR ms i).b.length=0:=q;omega
  ·exact q.2
theorem Xx{w:Nat}(W:dC w)(hw:1000000<w){ms:List aQ}(F:gD ms):yk w (aC lJ (iO ms))=some (aC fw (dP ms)):=by
 have h6:=F.le;have hil:=abq ms;have hpl:=xQ ms;unfold yk;rw[cw];refine gS (ev:=λi (g:Value->Int->Int->List Value->Option Value)=>g (aC lJ (iO ms)) (iO ms).length i (((dP ms).take i).flatMap fw)) ms.length ?_ ?_ (by omega)
 ·intro i g hi;have e1:((i:Int)<((iO ms).length:Int)):=by omega
  have hiI:i<(iO ms).length:=by omega
  have hiP:i<(dP ms).length:=by omega
  have hmp:=F.mem _ (cy hi);have hic:=hmp.ic;have hco:=hmp.co;obtain⟨I,q1,q2⟩:=xC F hi;obtain⟨g1,_⟩:=F.at_ hi;have og:∀(y:rE×List UInt8)(r:List Value),lJ y++r=.int .i64 y.1.p.aG.order::aw y.1.p.aG.cn::aw y.1.p.aG.bD::aw y.1.p.aG.bM::aw y.1.p.aG.bm::aw y.1.p.aG.first::ah y.1.p.aG.bC::ah y.1.p.aG.cH::ah y.1.p.cj::ah y.1.p.core::ah y.2 ::.int .i64 (lG y.1.aT y.1.b)::.int .i64 ((fm (fS y.1.p y.1.b) y.1.aT).length:Int)::r:=λ_ _=>rfl;have h24:=X4 (m:=65533) W I hmp.tu (by omega) ⟨by show ms[i].core.length<=_;omega,by show ms[i].cj.length<=_;omega,q1⟩ (by omega) (lG (aR ms i).aT (aR ms i).b) ((fm (fS (aR ms i).p (aR ms i).b) (aR ms i).aT).length:Int);simp only[aV,e1,aW,aD,bR];rw[bt RS hiI,og,abp];simp only[aZ,bE];have hpw:(dP ms)[i]=kB ms i:=by simp[dP]
  have h59:Gd w (aR ms i).p.aG.order (aw (aR ms i).p.aG.cn) (aw (aR ms i).p.aG.bD) (aw (aR ms i).p.aG.bM) (aw (aR ms i).p.aG.bm) (aw (aR ms i).p.aG.first) (ah (aR ms i).p.aG.bC) (ah (aR ms i).p.aG.cH) (ah (aR ms i).p.cj) (ah (aR ms i).p.core) (ah (gH ms i)) (lG (aR ms i).aT (aR ms i).b) ((fm (fS (aR ms i).p (aR ms i).b) (aR ms i).aT).length:Int)=some (ah (kB ms i)):=by unfold Gd kB;rw[g1] at h24⊢;refine Eq.trans (bT (λz=>ob z _) h24) ?_;rfl
  rw[h59,aB,show aE (((dP ms).take i).flatMap fw).length=true by rw[cS (k:=1) (λ_=>rfl)];simp;omega,iI hiP,ft,hpw,cc,aN (by omega) (by omega)];rfl
 ·intro g;have e1:¬((ms.length:Int)<((iO ms).length:Int)):=by omega
  simp only[aV,e1,bF,aF];rw[fg (by omega),cS (k:=1) (λ_=>rfl),gB,lA];rfl
theorem aiD{w:Nat}(W:dC w)(hw:1000000<w){ms:List aQ}(hm:∀p∈ms,ee p)(hl:ms.length<=6\/1000<ms.length)(hl2:ms.length<=2000):F7 w (cx ms)=some (if iN ms=0 then(aC fw (dP ms),0) else(ae 0 [],iN ms)):=by
 unfold F7;rw[aiQ W hw hm hl hl2,aB];unfold I9;by_cases hc:iN ms=0
 ·obtain⟨F,h1⟩:=DR hm hl hc;rw[ay hc,ay hc];have hrow:ae (((iO ms).flatMap lJ).length/13) ((iO ms).flatMap lJ)=aC lJ (iO ms):=by
   unfold aC;rw[cS RS,iW _ (by decide)]
  split
  ·rw[iG];show(bif !aj 0 0 then _ else ob (yk w (ae (((iO ms).flatMap lJ).length/13) ((iO ms).flatMap lJ))) _)=_;rw[hrow,Xx W hw F];rfl
  ·rw[iG];show(bif !aj 0 0 then _ else ob (yk w (ae (((iO ms).flatMap lJ).length/13) ((iO ms).flatMap lJ))) _)=_;rw[hrow,Xx W hw F];rfl
 ·rw[aq hc,aq hc,Ic,cg,gk hc];rfl
theorem Ws:∀ls:List (List UInt8),xZ (ls.flatMap fw)=some (ls.map λl=>l.map λb=>(b.toNat:Int))
 |[]=>rfl
 |l::ls=>by rw[dK,show fw l++ls.flatMap fw=ah l::ls.flatMap fw from rfl,xZ,sY,Ws ls];rfl
theorem ZQ(l:List UInt8):ae l.length (l.map bg)=ah l:=by unfold ah aC;rw[iL]
theorem ai5(w:Nat)(ls:List (List UInt8))(h0:0<ls.length)(hl:ls.length<=1000)(ht:ls.flatten.length<=1000000000):Gk w (aC fw ls)=some (ah ls.flatten):=by
 have hfl:(ls.flatMap fw).length=ls.length:=by rw[cS (k:=1) (λ_=>rfl),gB]
 show cond (Nat.blt 0 ls.length&&(Nat.beq ls.length (ls.flatMap fw).length&&Nat.ble ls.length 1000)) (ob (xZ (ls.flatMap fw)) λls=>cond (Nat.ble ls.flatten.length 1000000000) (some (ae ls.flatten.length (bk ls.flatten))) none) none=_;have e1:(Nat.blt 0 ls.length&&(Nat.beq ls.length (ls.flatMap fw).length&&Nat.ble ls.length 1000))=true:=by rw[hfl];simp;omega
 rw[e1,aD,Ws,aB];have e2:(ls.map λl=>l.map λb=>(b.toNat:Int)).flatten=ls.flatten.map λb=>(b.toNat:Int):=by rw[List.map_flatten]
 rw[e2,cZ,show Nat.ble ls.flatten.length 1000000000=true by rw[iV];exact ht,aD,Jm,ZQ]
theorem E6{ms:List aQ}(F:gD ms):(dP ms).flatten.length<=18000000:=by
 have h6:=F.le;have:∀l:List Nat,(∀i∈l,i<ms.length)->((l.map (kB ms)).flatten).length<=3000000*l.length:=by
  intro l;induction l with
  |nil=>intro _;exact aM _
  |cons a l ih=>intro h;have:=ih λi hi=>h i (mU _ hi);have q:=(xC F (h a (by simp))).2.2;have q2:=(qP F (h a (by simp))).2;rw[iH,List.flatten_cons,aS,bX];omega
 have:=this (List.range ms.length) λi hi=>List.mem_range.1 hi;rw[List.length_range] at this;show((List.range ms.length).map (kB ms)).flatten.length<=_;omega
theorem NH{w:Nat}(W:dC w)(hw:1000000<w){ms:List aQ}(hm:∀p∈ms,ee p)(hl:ms.length<=6\/1000<ms.length)(hl2:ms.length<=2000):yi w (cx ms)=some (if iN ms=0 then(ah (dP ms).flatten,0) else(ae 0 [],iN ms)):=by
 unfold yi;rw[aiD W hw hm hl hl2,aB];by_cases hc:iN ms=0
 ·obtain⟨F,h1⟩:=DR hm hl hc;have h6:=F.le;have:=E6 F;rw[ay hc,ay hc];show(bif !aj 0 0 then _ else ob (Gk w (aC fw (dP ms))) _)=_;rw[ai5 w _ (by rw[xQ];omega) (by rw[xQ];omega) (by omega)];rfl
 ·rw[aq hc,aq hc,cg,gk hc];rfl
theorem aiE{w:Nat}(l:List UInt8)(hl:l.length<2^40)(hw:l.length<w):nO w (ah l) (ah l)=some true:=by
 unfold nO;rw[cN,cN,show aj (Int.ofNat l.length) (Int.ofNat l.length)=true by rw[cg,bZ],bJ,aF];refine gS (ev:=λi (g:Value->Value->Int->Option Bool)=>g (ah l) (ah l) i) l.length ?_ ?_ hw
 ·intro i g hi;have e1:((i:Int)<(l.length:Int)):=by omega
  rw[cN];simp only[aV,bU,e1,aW,aD,bR];rw[oA hi];simp only[aZ,pW];rw[oA hi];simp only[aZ,pW];rw[show aj (l[i].toNat:Int) (l[i].toNat:Int)=true by rw[cg,bZ],bJ,aF,cc,aN (by omega) (by omega)];rfl
 ·intro g;have e1:¬((l.length:Int)<(l.length:Int)):=by omega
  rw[cN];simp only[aV,bU,e1,bF,aF]
def Di(h:Int)(i:Nat)(p:cP):Int:=if i=0 then p.at_ else p.at_+h
def fO(P:List cP)(i:Nat):Int:=((P.take i).map (·.size)).sum
def tM(h z:Int)(P:List cP)(i:Nat)(p:cP):Bool:=decide (Di h i p=fO P i/\1<=p.size/\p.size<=z -fO P i)
def IY(h z:Int)(P:List cP):Bool:=(List.range P.length).all λi=>match P[i]? with|some p=>tM h z P i p|none=>true
def Dl(P:List cP)(h z:Int):Option (List Int):=if IY h z P=true/\P.length≠0/\fO P P.length=z then some ((List.range (P.length+1)).map (fO P)) else none
theorem Pt{P:List cP}{i:Nat}(h:i<P.length):fO P (i+1)=fO P i+P[i].size:=by unfold fO;rw[iI h,gV,List.sum_append];simp
theorem I8(a b:Int)(h:-1099511627776<=a/\a<=1099511627776)(k:-1099511627776<=b/\b<=1099511627776):ag .i64 (a+b)=a+b/\ag .i64 (a -b)=a -b:=⟨aN (by omega) (by omega),aN (by omega) (by omega)⟩
theorem Te{α γ:Type}{z:α}{F:α->α}{w:Nat}(m:Nat)(ok:Nat->Bool)(r0 r1:γ)(ev:Nat->α->γ)(hs:∀i g,i<m->(∀j,j<i->ok j=true)->ev i (F g)=if ok i=true then ev (i+1) g else r0)(he:∀g,(∀j,j<m->ok j=true)->ev m (F g)=r1)(h:m<w):ev 0 (lp z F w)=if(List.range m).all ok=true then r1 else r0:=by
 have key:∀(d i v:Nat),i+d=m->d<v->(∀j,j<i->ok j=true)->ev i (lp z F v)=if(List.range m).all ok=true then r1 else r0:=by
  intro d;induction d with
  |zero=>
   intro i v hi hv ho;obtain rfl:i=m:=by omega
   rw[eG z F (by omega),he _ ho,ay (by rw[iu];exactλj hj=>ho j (List.mem_range.1 hj))]
  |succ d ih=>
   intro i v hi hv ho;rw[eG z F (by omega),hs i _ (by omega) ho];by_cases c:ok i=true
   ·rw[ay c,ih (i+1) (v -1) (by omega) (by omega) λj hj=>by
     rcases gW j i with q|q
     ·exact ho j q
     ·rw[show j=i by omega];exact c]
   ·rw[aq c,aq λk=>c (iu.1 k i (List.mem_range.2 (by omega)))]
 exact key m 0 w (by omega) (by omega) λj hj=>by omega
theorem YP{P:List cP}{h z:Int}(hz:0<=z):∀i,i<=P.length->(∀j,j<i->(match P[j]? with|some p=>tM h z P j p|none=>true)=true)->(i:Int)<=fO P i/\fO P i<=z\/i=0/\fO P i=0
 |0,_,_=>.inr ⟨rfl,rfl⟩
 |i+1,hi,ho=>by have h1:=YP hz i (by omega) λj hj=>ho j (by omega);have h2:=ho i (by omega);rw[cu (by omega)] at h2;obtain⟨_,a,b⟩:=nY h2;rw[Pt (by omega)];omega
theorem aiI{w:Nat}(P:List cP)(hP:∀p∈P,-4294967296<=p.at_/\p.at_<=4294967296/\-4294967296<=p.size/\p.size<=4294967296)(hl:P.length<=5000)(h z:Int)(hh:0<=h/\h<=4294967296)(hz:0<=z/\z<=4294967296)(hw:P.length<w):
 F9 w (dQ P) h z=some (match Dl P h z with|some l=>(aC dI l,true)|none=>(ae 0 [],false)):=by
 have hlr:∀{β:Type}(K:Nat->Option β),au (dQ P) K=K P.length:=λK=>cw fq P K;unfold F9;rw[hlr];refine(Te (ev:=λi (g:Value->Int->Int->Int->Value->Int->Int->List Value->Option (Value×Bool))=>g (dQ P) h z (fO P i) (dQ P) P.length i (bQ ((List.range i).map (fO P)))) P.length (λi=>match P[i]? with|some p=>tM h z P i p|none=>true) (some (ae 0 [],false)) (if P.length≠0/\fO P P.length=z then some (aC dI ((List.range (P.length+1)).map (fO P)),true) else some (ae 0 [],false)) ?_ ?_ hw).trans ?_
 ·intro i g hi ho;have e1:((i:Int)<(P.length:Int)):=by omega
  have hb:=YP (h:=h) hz.1 i (by omega) ho;obtain⟨p1,p2,p3,p4⟩:=hP _ (cy hi);have w1:=(I8 P[i].at_ h (by omega) (by omega)).1;have w2:=(I8 z (fO P i) (by omega) (by omega)).2;have w3:=(I8 (fO P i) P[i].size (by omega) (by omega)).1;have w4:ag .i64 ((i:Int)+1)=((i+1:Nat):Int):=by rw[aN (by omega) (by omega)];rfl
  simp only[aV,e1,aW,aD,bR,dQ];rw[bt nL hi];simp only[fq,eE,fA,aZ,bE,cc,jd,cg,w1,w2,w3,w4,cu hi];have hlen:(bQ ((List.range i).map (fO P))).length=i:=by simp[bQ]
  have room:aE (bQ ((List.range i).map (fO P))).length=true:=by rw[hlen];unfold aE;rw[iV];omega
  have nx:∀v:Int,v=fO P i->bQ ((List.range i).map (fO P))++[Value.int .i64 v]=bQ ((List.range (i+1)).map (fO P)):=λv e=>by rw[e,List.range_succ,gV];simp[bQ]
  have r2:∀v:Int,(aE ([Value.int .i64 v].length/1)&&[Value.int .i64 v].length.beq ([Value.int .i64 v].length/1*1))=true:=λv=>(show(Nat.ble (1/1) 1000000000&&Nat.beq 1 (1/1*1))=true by decide);simp only[r2,room,jA,aD];rw[Pt hi];by_cases h0:i=0
  ·have e2:¬((0:Int)<(i:Int)):=by omega
   simp only[e2,bF,aF,tM,Di,ay h0];by_cases c1:P[i].at_=fO P i
   ·by_cases c2:1<=P[i].size
    ·by_cases c3:P[i].size<=z -fO P i
     ·rw[nx _ c1];simp[c1,c2,c3,Int.not_lt.2 c2,Int.not_lt.2 c3]
     ·simp[c1,c2,c3,Int.not_lt.2 c2,Int.not_le.1 c3]
    ·simp[c1,c2,Int.not_le.1 c2]
   ·simp[c1]
  ·have e2:(0:Int)<(i:Int):=by omega
   simp only[e2,aW,aD,tM,Di,aq h0];by_cases c1:P[i].at_+h=fO P i
   ·by_cases c2:1<=P[i].size
    ·by_cases c3:P[i].size<=z -fO P i
     ·rw[nx _ c1];simp[c1,c2,c3,Int.not_lt.2 c2,Int.not_lt.2 c3]
     ·simp[c1,c2,c3,Int.not_lt.2 c2,Int.not_le.1 c3]
    ·simp[c1,c2,Int.not_le.1 c2]
   ·simp[c1]
 ·intro g ho;have e1:¬((P.length:Int)<(P.length:Int)):=by omega
  have hlen:(bQ ((List.range P.length).map (fO P))).length=P.length:=by simp[bQ]
  have room:aE (bQ ((List.range P.length).map (fO P))).length=true:=by rw[hlen];unfold aE;rw[iV];omega
  have r2:∀v:Int,(aE ([Value.int .i64 v].length/1)&&[Value.int .i64 v].length.beq ([Value.int .i64 v].length/1*1))=true:=λv=>(show(Nat.ble (1/1) 1000000000&&Nat.beq 1 (1/1*1))=true by decide);have nx:bQ ((List.range P.length).map (fO P))++[Value.int .i64 (fO P P.length)]=bQ ((List.range (P.length+1)).map (fO P)):=by rw[List.range_succ,gV];simp[bQ]
  simp only[aV,e1,bF,aF,hlr,cg,r2,room,jA,aD,nx];by_cases c1:P.length=0
  ·simp[c1]
  ·by_cases c2:fO P P.length=z
   ·simp[c1,c2,aC,Kw,bQ]
   ·simp[c1,c2]
 ·unfold Dl IY;by_cases c:(List.range P.length).all (λi=>match P[i]? with|some p=>tM h z P i p|none=>true)=true
  ·rw[ay c];by_cases d:P.length≠0/\fO P P.length=z
   ·rw[ay d,ay ⟨c,d⟩]
   ·rw[aq d,aq λq=>d q.2]
  ·rw[aq c,aq λq=>c q.1]
theorem Zh{o:Int}{view:List aK}{b:List UInt8}(h:ru o view=.ok b)(hm:view.length<=65000):
 ∃r,b=gz++r/\uo r kN=.ok (ga o view,ff (ga o view))/\(o=1\/o=2)/\view.length≠0/\cT 5 view=true/\b.length<=65533:=by
 unfold ru at h;split at h
 ·cases h
 rename_i h1;split at h
 ·cases h
 rename_i h2;split at h
 ·cases h
 rename_i h3;injection h with h;have hr:cT 5 view=true:=by simpa using h2
 have ho:o=1\/o=2:=by omega
 have h0:view.length≠0:=by omega
 have hh:=PE (o:=o) hr h0 hm;have hlen:=wm hh;refine⟨_,h.symm,PF ho I1 (by decide) (by simp[ga]) hh (Yx h3),ho,h0,hr,?_⟩;rw[<-h,aS,hlen];have:gz.length=4:=rfl;omega
theorem aje{w:Nat}(W:dC w)(hw:800000<w){o:Int}{view:List aK}{b:List UInt8}(h:ru o view=.ok b)(hv:VS view):Gs w (ah b)=some (o,aw view,0):=by
 have hvl:=hv.1;obtain⟨r,hb,hwk,ho,h0,hr,hbl⟩:=Zh h (by omega);have hp:gz.isPrefixOf b=true:=by rw[hb,qB];exact sK _ _
 have hl4:b.length=r.length+4:=by rw[hb,aS];have:gz.length=4:=rfl;omega
 have hS:(ff (ga o view)).length<100000000:=by
  have T:=Zj W ho hv hr h0;have h:=CA (ga o view).dG 0 8 T.hd;have hc:gX (ga o view).dG<=2:=by simp[ga,gX,dD,ib]
  have h2:gX (ga o view).dG*(10000+2)<=2*(10000+2):=wF _ hc;have h3:(ff (ga o view)).length=(jz 0 8 (ga o view).dG).length+1:=rfl;omega
 have h117:=NP (w:=w) (b:=r) (sh:=kN) (by omega) (by omega) I1 (λs hs=>by
  have:s=0:=by simp[kN] at hs;omega
  rw[this];decide) (by decide) (by decide) (X1 (by omega)) (o:=o) (ds:=(ga o view).dG) (S:=ff (ga o view)) hS hwk
 have h62:wc w (ah b) (cq kN)=some (o,cR (ga o view).dG,aC bY (ff (ga o view)),0):=by
  have e1:¬((65533:Int)<(b.length:Int)):=by omega
  have e2:¬((b.length:Int)<(4:Int)):=by omega
  have e3:4<=b.length:=by omega
  have h116:yu w (ah b)=some true:=by unfold yu Bu;have:ae 4 (List.drop 0 [Value.int IntKind.u8 77,Value.int IntKind.u8 80,Value.int IntKind.u8 70,Value.int IntKind.u8 0])=ah gz:=rfl;rw[this,BF,hp];rfl
  unfold wc;rw[cN];simp only[aV,bU,e1,bF,aF];rw[cN];simp only[e2,bF,aF];rw[h116];simp only[aB,bJ,aF];rw[cN];simp only[gq,aM,e3,aW,jA,aD];rw[nv _ (aM _),fg (by rw[eU];omega),show b.drop 4=r by rw[hb];rfl,h117];rfl
 have x1:∀(K:List Value->Option (Int×Value×Int)),aI 3 0 (cR (ga o view).dG) K=K (cU (.mk view .nil [])++[]):=λK=>bt kQ (l:=[.mk view .nil []]) (m:=0) (by show 0<1;omega) K;unfold Gs;rw[show yx w=some (cq kN) from rfl];simp only[aB];rw[h62];simp only[aB];rw[show(!aj 0 0)=false from rfl,aF,x1,s9];simp only[eE,eu,aZ];rw[q8 (by omega) 5 view (by omega) (λt ht=>by have:=hv.2 t ht;omega) (by omega),hr];simp only[aB,bJ,aF];rw[x1,s9];simp only[eE,eu,aZ]
def jx(ms:List aQ)(i:Nat):List Value:=[.int .i64 (aR ms i).p.aG.order,aw (aR ms i).p.aG.cn,aw (aR ms i).p.aG.bD,aw (aR ms i).p.aG.bM,aw (aR ms i).p.aG.bm,aw (aR ms i).p.aG.first,ah (aR ms i).p.aG.bC,ah (aR ms i).p.aG.cH,ah (aR ms i).p.cj,ah (aR ms i).p.core,ah (gH ms i),.int .i64 (lG (aR ms i).aT (gH ms i)),.int .i64 (dL ms i:Int)]
theorem Fk(ms:List aQ)(i:Nat):(jx ms i).length=13:=rfl
theorem akc{w:Nat}(W:dC w)(hw:4000000<w){ms:List aQ}(F:gD ms){i:Nat}(hi:i<ms.length)(y:List UInt8)(hy:y.length<2^26)(hyw:2*65533+800000+y.length<w):
 vR w (ah (kB ms i++y))=some ((aR ms i).p.aG.order,aw (aR ms i).p.aG.cn,aw (aR ms i).p.aG.bD,aw (aR ms i).p.aG.bM,aw (aR ms i).p.aG.bm,aw (aR ms i).p.aG.first,ah (aR ms i).p.aG.bC,ah (aR ms i).p.aG.cH,ah (aR ms i).p.cj,ah (aR ms i).p.core,ah (gH ms i),lG (aR ms i).aT (gH ms i),(dL ms i:Int),0):=by
 obtain⟨g1,k1,k2,k3⟩:=F.at_ hi;obtain⟨I,q1,q2⟩:=xC F hi;have hmp:=F.mem _ (cy hi);have hic:=hmp.ic;have hco:=hmp.co;have:=X7 (m:=65533) y hy W I hmp.tu (by omega) ⟨by show ms[i].core.length<=_;omega,by show ms[i].cj.length<=_;omega,q1⟩ hyw;unfold kB at q2⊢;rw[g1] at q2⊢;rw[this,q2];rfl
theorem aa5{α:Type}(L:List (List α))(i:Nat):L.flatten.drop (L.take i).flatten.length=(L.drop i).flatten:=by
 conv=>lhs;rw[<-lO i L,List.flatten_append]
 rw[lO,List.drop_left]
theorem Ps{ms:List aQ}(F:gD ms):∀i,i<=ms.length->((dP ms).take i).flatten.length=dU ms i
 |0,_=>rfl
 |i+1,h=>by
  have hi:i<(dP ms).length:=by rw[xQ];omega
  have e:(dP ms)[i]=kB ms i:=by simp[dP]
  rw[iI hi,List.flatten_append,aS,Ps F i (by omega),e];simp only[List.flatten_cons,List.flatten_nil,dW];rw[(xC F (show i<ms.length by omega)).2.2];rfl
theorem YM{ms:List aQ}(F:gD ms):(dP ms).flatten.length=dU ms ms.length:=by rw[<-Ps F _ (aM _),fg (by rw[xQ];exact aM _)]
theorem Vd{ms:List aQ}(F:gD ms){i:Nat}(hi:i<ms.length):(dP ms).flatten.drop (dU ms i)=kB ms i++((dP ms).drop (i+1)).flatten:=by
 have hp:i<(dP ms).length:=by rw[xQ];exact hi
 have e:(dP ms)[i]=kB ms i:=by simp[dP]
 rw[<-Ps F i (by omega),aa5,dw hp,List.flatten_cons,e]
theorem agF{ms:List aQ}(F:gD ms){i:Nat}(hi:i<ms.length):((dP ms).flatten.drop (dU ms i)).take (dU ms (i+1) -dU ms i)=kB ms i:=by have q:=(xC F hi).2.2;rw[Vd F hi,show dU ms (i+1) -dU ms i=(kB ms i).length by rw[q];show dU ms i+dL ms i -dU ms i=_;omega,List.take_left]
theorem Xz{w:Nat}(W:dC w)(hw:4000000<w){ms:List aQ}(F:gD ms){i a b:Nat}(hi:i<ms.length){s y:List UInt8}(hab:a<=b)(hb:b<=s.length)(hc:(s.drop a).take (b -a)=kB ms i++y)(hy:y.length<2^26)(hyw:2*65533+800000+y.length<w)(x3:Int)(x4 x5 x6:Value)(x7 x8:List Value)(h8:x8.length<=1000):
 BN w a b (ah s) x3 x4 x5 x6 x7 x8=some (0,ah s,x3,x4,x5,x6,x7,x8++jx ms i):=by
 have e1:(b.ble s.length&&(b.ble b&&a.ble b))=true:=by simp[hab,hb]
 have e2:aE x8.length=true:=by unfold aE;rw[iV];omega
 unfold BN;simp only[cN,bR,e1,aD];rw[nv _ hb,hc,akc W hw F hi y hy hyw];simp only[aB,cg,aW,bJ,aF];rw[e2];rfl
theorem XA{w:Nat}{ms:List aQ}{i k:Nat}(hi:i<k)(hk:k<=1000){P:List cP}(hP:i<P.length)(v s:Value)(x3:Int)(x4 x6:Value)(x7:List Value)(h7:x7.length<=100000):
 q9 w i v s x3 x4 (dQ P) x6 x7 ((List.range k).flatMap (jx ms))=some (s,x3,x4,dQ P,x6,x7++[.int .i64 (aR ms i).p.aG.order,aw (aR ms i).p.aG.cn,aw (aR ms i).p.aG.bD,aw (aR ms i).p.aG.bM,aw (aR ms i).p.aG.bm,aw (aR ms i).p.aG.first,ah (aR ms i).p.aG.bC,ah (aR ms i).p.aG.cH,ah (aR ms i).p.cj,ah (aR ms i).p.core,.int .i64 P[i].attr,.int .i64 P[i].dY,.int .i64 P[i].dZ,v],(List.range k).flatMap (jx ms)):=by
 have hl:((List.range k).flatMap (jx ms)).length=k*13:=by rw[cS (Fk ms),List.length_range]
 have e1:(Nat.beq 13 13&&(i*13).blt ((List.range k).flatMap (jx ms)).length)=true:=by rw[hl];simp;omega
 have e2:((List.range k).flatMap (jx ms)).drop (i*13)=jx ms i++((List.range k).drop (i+1)).flatMap (jx ms):=by rw[nB (Fk ms),dw (by rw[List.length_range];exact hi),dK,List.getElem_range]
 have e3:aE x7.length=true:=by unfold aE;rw[iV];omega
 unfold q9 BO;simp only[bR];rw[e1,aD,gj,e2];simp only[jx,eE,fA,aZ,bE];rw[show dQ P=aC fq P from rfl,bt nL hP];simp only[fq,eE,fA,aZ,bE];rw[e3];rfl
def gU(ms:List aQ):List Int:=(List.range (ms.length+1)).map λi=>(dU ms i:Int)
def oC(ms:List aQ):List cP:=if ms.length=1 then[⟨0,0,0,0,0⟩] else iE ms
def gI(ms:List aQ)(k:Nat):List Value:=(List.range k).flatMap (jx ms)
theorem agR{ms:List aQ}(h:1<=ms.length):(oC ms).length=ms.length:=by
 unfold oC;split
 ·rename_i h1;rw[h1];rfl
 ·exact ql ms
theorem CJ(ms:List aQ):∀i,i<=ms.length->fO (iE ms) i=(dU ms i:Int)
 |0,_=>rfl
 |i+1,h=>by
  have hi:i<(iE ms).length:=by rw[ql];omega
  rw[Pt hi,CJ ms i (by omega),show(iE ms)[i]=qU ms i by simp[iE]];show(dU ms i:Int)+(dL ms i:Int)=((dU ms i+dL ms i:Nat):Int);omega
theorem ZC{ms:List aQ}(F:gD ms)(h1:1<=ms.length)(z:Nat):Dl (iE ms) (kx ms) z=if z=dU ms ms.length then some (gU ms) else none:=by
 have hl:=ql ms;unfold Dl;by_cases c:z=dU ms ms.length
 ·rw[ay c,ay]
  ·congr 1
   unfold gU;rw[hl];refine List.map_congr_left λi hi=>?_;have:=List.mem_range.1 hi;exact CJ ms i (by omega)
  ·refine⟨?_,by omega,by rw[hl,CJ ms _ (aM _),c]⟩;unfold IY;rw[iu];intro i hi;have hi:=List.mem_range.1 hi;have hi2:i<ms.length:=by omega
   rw[cu hi];show tM _ _ _ _ _=true;rw[show(iE ms)[i]=qU ms i by simp[iE]];unfold tM;rw[bZ,CJ ms i (by omega)];have l1:=qP F hi2;have s1:=Ie ms (show i+1<=ms.length by omega);have s2:dU ms (i+1)=dU ms i+dL ms i:=rfl;refine⟨?_,by show(1:Int)<=(dL ms i:Int);omega,by show(dL ms i:Int)<=_;omega⟩;unfold Di qU;by_cases h0:i=0
   ·subst h0;simp;rfl
   ·simp only[aq h0];omega
 ·rw[aq c,aq]
  rintro ⟨_,_,q⟩
  rw[hl,CJ ms _ (aM _)] at q;omega
theorem acU{ms:List aQ}(h:ms.length=1):gH ms 0=[]:=by unfold gH;rw[aq (by omega)];show ER (jh ms 0)=[];unfold jh;rw[cu (by omega:0<ms.length)];simp only[dM];rw[aq (by omega)];rfl
theorem ai9{w:Nat}{ms:List aQ}(h1:ms.length=1)(s:List UInt8)(x1:Int)(x2 x3 x4:Value)(x5:List Value):
 sw w (ah s) x1 x2 x3 x4 x5 (gI ms 1)=some (if dL ms 0=s.length then 0 else 2,ah s,x1,aC dI [0,(s.length:Int)],dQ [⟨0,0,0,0,0⟩],x4,x5,gI ms 1):=by
 have e1:(Nat.beq 13 13&&Nat.blt 0 (gI ms 1).length)=true:=rfl;have e2:(gI ms 1).drop 0=jx ms 0++[]:=rfl;unfold sw yr;rw[e1,aD,e2];simp only[jx,eE,fA,aZ,bE,cN];rw[acU h1];have e3:ak 0 (Int.ofNat ([]:List UInt8).length)=false:=rfl;rw[e3,aF,cg];by_cases c:dL ms 0=s.length
 ·rw[ay c,fC (show(dL ms 0:Int)=Int.ofNat s.length from bT Int.ofNat c)];rfl
 ·rw[aq c,gk (by intro q;exact c (Int.ofNat.inj q))];rfl
theorem agS{ms:List aQ}(F:gD ms)(hcam:kx ms<=3000014):∀p∈iE ms,-4294967296<=p.at_/\p.at_<=4294967296/\-4294967296<=p.size/\p.size<=4294967296:=λp hp=>by
 have h6:=F.le;unfold iE at hp;obtain⟨i,hi,rfl⟩:=List.mem_map.1 hp;have hi:=List.mem_range.1 hi;have l1:=qP F hi;have s1:=Pr F i (by omega);unfold qU;by_cases h0:i=0
 ·simp only[ay h0];omega
 ·simp only[aq h0];omega
theorem ai8{w:Nat}(W:dC w)(hw:4000000<w){ms:List aQ}(F:gD ms)(h2:1<ms.length)(s:List UInt8)(hs:s.length<4294967296)(x1:Int)(x2 x3 x4:Value)(x5:List Value):
 sw w (ah s) x1 x2 x3 x4 x5 (gI ms 1)=some (if s.length=dU ms ms.length then(0,ah s,x1,aC dI (gU ms),dQ (iE ms),aw (aR ms 0).p.view,x5,gI ms 1) else(4,ah s,x1,aC dI [0,(s.length:Int)],dQ [⟨0,0,0,0,0⟩],x4,x5,gI ms 1)):=by
 have e1:(Nat.beq 13 13&&Nat.blt 0 (gI ms 1).length)=true:=rfl;have e2:(gI ms 1).drop 0=jx ms 0++[]:=rfl;have h6:=F.le;obtain⟨g1,k1,k2,k3⟩:=F.at_ (i:=0) (by omega);obtain⟨b,b1,b2,b3,b4⟩:=LU F h2;have hmp:=F.mem _ (cy (show 0<ms.length by omega));have hgood:=o7 (F.rQ _ (cy (show 0<ms.length by omega)));have ho:=Ki hgood.1;have hr:cT 5 ms[0].view=true:=by have:=hgood.2.2.2;unfold nr at this;simpa using this
 have h27:=Ya W (by omega) b1 (by rw[g1];exact hmp.vs) (Sk W (by rw[g1];exact ho) (by rw[ql];omega) (by rw[ql];omega) (by rw[g1];exact hmp.vs) (by rw[g1];exact hr));have hcam:kx ms<=3000014:=by have:=(qP F (i:=0) (by omega)).2;have:=Jk (x:=fS (aR ms 0).p (aR ms 0).b) (aT:=(aR ms 0).aT);unfold kx;unfold dL at*;omega
 have hat:lG (aR ms 0).aT (gH ms 0)=(((aR ms 0).aT.length+10:Nat):Int):=by unfold lG;rw[b3,aq (by omega)]
 have h26:=aiI (w:=w) (iE ms) (agS F hcam) (by rw[ql];omega) (kx ms) (s.length:Int) (by omega) (by omega) (by rw[ql];omega);rw[ZC F (by omega)] at h26;unfold sw yr;rw[e1,aD,e2];simp only[jx,eE,fA,aZ,bE,cN];rw[b3,show ak 0 (Int.ofNat b.length)=true by rw[aV,bZ];show(0:Int)<(b.length:Int);omega,aD,h27];simp only[aB];rw[<-b3,hat,cc,show(((aR ms 0).aT.length+10:Nat):Int)+4=(kx ms:Int) by unfold kx;omega,aN (by omega) (by omega),show(!aj 0 0)=false from rfl,aF];rw[show Int.ofNat s.length=(s.length:Int) from rfl,h26];by_cases c:s.length=dU ms ms.length
 ·rw[ay c,ay c];have hsl:1<(gU ms).length:=by unfold gU;rw[cZ,List.length_range];omega
  simp only[aB,bJ,aF];rw[bt qM hsl];have hs1:(gU ms)[1]=(dL ms 0:Int):=by simp[gU,dU]
  simp only[dI,eE,fA,aZ,bE,hs1,cg,aW,bJ,aF]
 ·rw[aq c,aq c];simp only[aB,gh,aD];rfl
theorem Wk(ms:List aQ)(k:Nat):(gI ms k).length=k*13:=by unfold gI;rw[cS (Fk ms),List.length_range]
theorem ahN(ms:List aQ){i k:Nat}(hi:i<k):(gI ms k).drop (i*13)=jx ms i++((List.range k).drop (i+1)).flatMap (jx ms):=by unfold gI;rw[nB (Fk ms),dw (by rw[List.length_range];exact hi),dK,List.getElem_range]
theorem aja{w:Nat}(W:dC w)(hw:70000000<w){ms:List aQ}(F:gD ms)(h1:1<=ms.length){P:List cP}(hP:P.length=ms.length)(hp:∀i (h:i<ms.length),P[i].attr=ms[i].attr/\P[i].dY=ms[i].dY/\P[i].dZ=ms[i].dZ)(x4:Value):
 Gn w (ah (dP ms).flatten) 0 (aC dI (gU ms)) (dQ P) (aw ms[0].view) [] (gI ms 1)=some ((0:Int),ah (dP ms).flatten,((ms.length -1:Nat):Int),aC dI (gU ms),dQ P,aw ms[0].view,ms.flatMap cD,gI ms ms.length):=by
 have h6:=F.le;have hall:=YM F;have htot:=E6 F;have hsl:(gU ms).length=ms.length+1:=by unfold gU;rw[cZ,List.length_range]
 have hsa:∀i (h:i<(gU ms).length),(gU ms)[i]=(dU ms i:Int):=λi h=>by simp[gU]
 have hmem:∀i (h:i<ms.length),[Value.int .i64 (aR ms i).p.aG.order,aw (aR ms i).p.aG.cn,aw (aR ms i).p.aG.bD,aw (aR ms i).p.aG.bM,aw (aR ms i).p.aG.bm,aw (aR ms i).p.aG.first,ah (aR ms i).p.aG.bC,ah (aR ms i).p.aG.cH,ah (aR ms i).p.cj,ah (aR ms i).p.core,.int .i64 (P[i]'(by omega)).attr,.int .i64 (P[i]'(by omega)).dY,.int .i64 (P[i]'(by omega)).dZ,aw ms[i].view]=cD ms[i]:=λi h=>by obtain⟨a,b,c⟩:=hp i h;rw[a,b,c,(F.at_ h).1];rfl
 unfold Gn;have h0:=XA (w:=w) (ms:=ms) (i:=0) (k:=1) (by omega) (by omega) (P:=P) (by omega) (aw ms[0].view) (ah (dP ms).flatten) 0 (aC dI (gU ms)) (aw ms[0].view) [] (by simp);rw[hmem 0 (by omega)] at h0;rw[show gI ms 1=(List.range 1).flatMap (jx ms) from rfl,show q9 w 0 (aw ms[0].view)=q9 w ((0:Nat):Int) (aw ms[0].view) from rfl,h0];simp only[aB];have ht0:([]:List Value)++cD ms[0]=(ms.take (0+1)).flatMap cD:=by rw[iI (show 0<ms.length by omega)];simp
 rw[ht0];refine gS (w:=w) (ev:=λj (g:Int->Value->Int->Value->Value->Value->List Value->List Value->Option (Int×Value×Int×Value×Value×Value×List Value×List Value))=>g ((j+1:Nat):Int) (ah (dP ms).flatten) (j:Int) (aC dI (gU ms)) (dQ P) (aw ms[0].view) ((ms.take (j+1)).flatMap cD) (gI ms (j+1))) (ms.length -1) ?_ ?_ (by omega)
 ·intro j g hj;have hi:j+1<ms.length:=by omega
  have e1:(((j+1:Nat):Int)<(P.length:Int)):=by omega
  have w1:ag .i64 (((j+1:Nat):Int)+1)=((j+1+1:Nat):Int):=by rw[aN (by omega) (by omega)];rfl
  have s1:=Ie ms (show j+1+1<=ms.length by omega);have s2:dU ms (j+1+1)=dU ms (j+1)+dL ms (j+1):=rfl;have hcut:=agF F hi;have hjm:j+1<=6:=by omega
  have h207:=Xz (w:=w) W (by omega) F (i:=j+1) (a:=dU ms (j+1)) (b:=dU ms (j+1+1)) hi (s:=(dP ms).flatten) (y:=[]) (by omega) (by omega) (by rw[dW];exact hcut) (by decide) (by rw[List.length_nil];omega) ((j+1:Nat):Int) (aC dI (gU ms)) (dQ P) (aw ms[0].view) ((ms.take (j+1)).flatMap cD) (gI ms (j+1)) (by rw[Wk];omega);have him:gI ms (j+1)++jx ms (j+1)=gI ms (j+1+1):=by
   unfold gI
   conv=>rhs;rw[List.range_succ,ft,dK,lu,dW]
  rw[him] at h207;have e2:(Nat.beq 13 13&&((j+1)*13).blt (gI ms (j+1+1)).length)=true:=by rw[Wk];simp
  have e3:((dU ms (j+1+1):Int) -(dU ms (j+1):Int))=(dL ms (j+1):Int):=by omega
  have l1:=qP F hi;have w2:ag .i64 (dL ms (j+1):Int)=(dL ms (j+1):Int):=aN (by omega) (by omega);have ht:(ms.take (j+1+1)).flatMap cD=(ms.take (j+1)).flatMap cD++cD ms[j+1]:=by rw[iI hi,ft,dK,lu,dW]
  have h208:=λv=>XA (w:=w) (ms:=ms) (i:=j+1) (k:=j+1+1) (by omega) (by omega) (P:=P) (by omega) v (ah (dP ms).flatten) ((j+1:Nat):Int) (aC dI (gU ms)) (aw ms[0].view) ((ms.take (j+1)).flatMap cD) (by rw[cS iQ,dk];omega);obtain⟨g1,k1,k2,k3⟩:=F.at_ hi;have hmp:=F.mem _ (cy hi);simp only[show dQ P=aC fq P from rfl,cw,aV,bU,e1,aW,aD,bR,cc,w1];rw[bt qM (show j+1<(gU ms).length by omega),hsa];simp only[dI,eE,fA,aZ,bE];rw[bt qM (show j+1+1<(gU ms).length by omega),hsa];simp only[dI,eE,fA,aZ,bE];rw[show aC fq P=dQ P from rfl,h207];simp only[aB];rw[show(!aj (0:Int) 0)=false from rfl,aF,e2,aD,gj,ahN ms (by omega)];simp only[jx,eE,fA,aZ,bE,cN];rw[bt qM (show j+1+1<(gU ms).length by omega),hsa];simp only[dI,eE,fA,aZ,bE];rw[bt qM (show j+1<(gU ms).length by omega),hsa];simp only[dI,eE,fA,aZ,bE,jd,e3,w2,cg,aW,bJ,aF];have hb:gH ms (j+1)=(aR ms (j+1)).b:=by unfold gH;rw[aq (by omega)]
  have k4:(if ms[j+1].view.length=0 then(.ok []:Except Int (List UInt8)) else ru ms[j+1].aG.order ms[j+1].view)=.ok (aR ms (j+1)).b:=by have:=k1;unfold jh at this;rw[cu hi] at this;simp only[aq (show¬(j+1=0) by omega)] at this;exact this
  rw[hb];by_cases h0:ms[j+1].view.length=0
  ·rw[ay h0] at k4;injection k4 with k4;rw[<-k4,show decide ((0:Int)<(([]:List UInt8).length:Nat))=false from rfl,aF,show ae 0 []=aw ms[j+1].view by rw[qC.1 h0];rfl];rw[show gI ms (j+1+1)=(List.range (j+1+1)).flatMap (jx ms) from rfl,h208,hmem _ hi,<-ht];rfl
  ·rw[aq h0] at k4;obtain⟨r,hbr,_⟩:=Zh k4 (by have:=hmp.vs.1;omega);have hbl:0<(aR ms (j+1)).b.length:=by rw[hbr,aS];have:gz.length=4:=rfl;omega
   rw[fC (show(0:Int)<((aR ms (j+1)).b.length:Int) by omega),aD,aje W (by omega) k4 hmp.vs];simp only[aB];simp only[aW,bJ,aF];rw[show gI ms (j+1+1)=(List.range (j+1+1)).flatMap (jx ms) from rfl,h208,hmem _ hi,<-ht];rfl
 ·intro g;have e1:¬(((ms.length -1+1:Nat):Int)<(P.length:Int)):=by omega
  simp only[show dQ P=aC fq P from rfl,cw,aV,bU,e1,bF,aF];rw[show ms.length -1+1=ms.length by omega,fg (aM _)]
theorem UX{ms:List aQ}(hm:∀p∈ms,ee p)(h6:ms.length<=6)(h1:ms.length=1)(hc:(fK ms).1 =0):ms[0].attr=0/\ms[0].dY=0/\ms[0].dZ=0/\ms[0].view=[]:=by
 have:=((Ah hm (by omega) h6).1 hc).2
 match ms,h1 with
 |[p],_=>simp[wW] at this;exact this
theorem aly{ms:List aQ}(h1:ms.length=1):gU ms=[0,(dL ms 0:Int)]:=by
 unfold gU;rw[h1];show[((dU ms 0:Nat):Int),((dU ms 1:Nat):Int)]=_;have:dU ms 1=dL ms 0:=by show 0+dL ms 0=_;omega
 rw[this];rfl
theorem ai7{w:Nat}(W:dC w)(hw:70000000<w){ms:List aQ}(F:gD ms)(h1:1<=ms.length){s y:List UInt8}(hc:s=kB ms 0++y)(hy:y.length<2^25)(x1:Int)(x2 x3 x4:Value)(x5:List Value):
 Gm w (ah s) x1 x2 x3 x4 x5 []=some (0,ah s,x1,x2,x3,x4,x5,gI ms 1):=by
 have q:=(xC F (i:=0) (by omega)).2.2;have l:=qP F (i:=0) (by omega);have hs:s.length=dL ms 0+y.length:=by rw[hc,aS,q]
 have e1:¬((4294967295:Int)<(s.length:Int)):=by omega
 unfold Gm;simp only[cN,aV,bU,e1,bF,aF];have h:=Xz (w:=w) W (by omega) F (i:=0) (a:=0) (b:=s.length) (by omega) (s:=s) (y:=y) (by omega) (by omega) (by rw[eu,Nat.sub_zero,mW];exact hc) (by omega) (by omega) x1 x2 x3 x4 x5 [] (by simp);rw[show((0:Nat):Int)=0 from rfl] at h;rw[h];rfl
theorem aiU{w:Nat}(W:dC w)(hw:70000000<w){ms:List aQ}(F:gD ms)(h1:1<=ms.length)(hc:iN ms=0)(hf:(fK ms).1 =0):
 Gg w (ah (dP ms).flatten)=some ((0:Int),ah (dP ms).flatten,(fK ms).2,aC dI (gU ms),dQ (oC ms),aw ms[0].view,ms.flatMap cD,gI ms ms.length):=by
 have h6:=F.le;have hall:=YM F;have htot:=E6 F;have hcut:(dP ms).flatten=kB ms 0++((dP ms).drop 1).flatten:=by have:=Vd F (i:=0) (by omega);rwa[show dU ms 0=0 from rfl,eu] at this
 have hyl:((dP ms).drop 1).flatten.length<=(dP ms).flatten.length:=by have:=bT List.length hcut;rw[aS] at this;omega
 have hql:=agR h1;have hidx:sw w (ah (dP ms).flatten) 0 (ae 0 []) (ae 0 []) (ae 0 []) [] (gI ms 1)=some ((0:Int),ah (dP ms).flatten,(0:Int),aC dI (gU ms),dQ (oC ms),aw ms[0].view,([]:List Value),gI ms 1):=by
  by_cases h2:ms.length=1
  ·have e:dL ms 0=(dP ms).flatten.length:=by rw[hall,h2];show dL ms 0=0+dL ms 0;omega
   rw[ai9 h2,ay e,aly h2,e,(UX F.mem h6 h2 hf).2.2.2];unfold oC;rw[ay h2];rfl
  ·rw[ai8 W (by omega) F (by omega) _ (by omega),ay hall,(F.at_ (i:=0) (by omega)).1];unfold oC;rw[aq h2]
 have hoth:=aja W hw F h1 (P:=oC ms) hql (λi h=>by
  by_cases h2:ms.length=1
  ·have:=UX F.mem h6 h2 hf;obtain rfl:i=0:=by omega
   have e:(oC ms)[0]'(by omega)=⟨0,0,0,0,0⟩:=by unfold oC;simp[h2]
   rw[e];exact⟨this.1.symm,this.2.1.symm,this.2.2.1.symm⟩
  ·have e:(oC ms)[i]'(by omega)=qU ms i:=by simp[oC,h2,iE]
   rw[e];unfold qU;rw[(F.at_ h).1];exact⟨rfl,rfl,rfl⟩) (ae 0 [])
 have hmv:ae ((ms.flatMap cD).length/14) (ms.flatMap cD)=cx ms:=by unfold cx aC;rw[cS iQ,iW _ (by decide)]
 have hlim:Gp w (ah (dP ms).flatten) ((ms.length -1:Nat):Int) (aC dI (gU ms)) (dQ (oC ms)) (aw ms[0].view) (ms.flatMap cD) (gI ms ms.length)=some ((0:Int),ah (dP ms).flatten,(fK ms).2,aC dI (gU ms),dQ (oC ms),aw ms[0].view,ms.flatMap cD,gI ms ms.length):=by unfold Gp;rw[hmv,Yt W (by omega) F.mem (by omega) (by omega),NY W (by omega) F.mem (by omega) (by omega),hc];rfl
 unfold Gg;rw[ai7 W hw F h1 hcut (by omega)];simp only[aB];rw[show(!aj (0:Int) 0)=false from rfl,aF,hidx];simp only[aB];rw[show(!aj (0:Int) 0)=false from rfl,aF,hoth];simp only[aB];rw[show(!aj (0:Int) 0)=false from rfl,aF,hlim];rfl
theorem NI{w:Nat}(W:dC w)(hw:70000000<w){ms:List aQ}(F:gD ms)(h1:1<=ms.length)(hc:iN ms=0)(hf:(fK ms).1 =0):vK w (ah (dP ms).flatten)=some (cx ms,0,0):=by unfold vK;rw[aiU W hw F h1 hc hf];simp only[aB];rw[show(!aj (0:Int) 0)=false from rfl,aF,cS iQ,iW _ (by decide)];rfl
theorem akN(w:Nat)(a b:Value):OZ w a b=sF w a b:=rfl
theorem aiV{w:Nat}{p:aQ}(h:ee p)(hw:10000<w):Gh w p.aG.order (aw p.aG.cn) (aw p.aG.bD) (aw p.aG.bM) (aw p.aG.bm) (aw p.aG.first) (ah p.aG.bC) (ah p.aG.cH) (ah p.cj) (ah p.core) p.attr p.dY p.dZ (aw p.view) p.aG.order (aw p.aG.cn) (aw p.aG.bD) (aw p.aG.bM) (aw p.aG.bm) (aw p.aG.first) (ah p.aG.bC) (ah p.aG.cH) (ah p.cj) (ah p.core) p.attr p.dY p.dZ (aw p.view)=some true:=by have hv:=h.tv.1;unfold Gh;rw[akM h.tu hw,yM,yM,akN,yN _ (by omega) (by omega)];simp only[aW,aD,aB,cg]
theorem aiK{w:Nat}{ms:List aQ}(hm:∀p∈ms,ee p)(hl:ms.length<=2000)(hw:10000<w):Ga w (cx ms) (cx ms)=some true:=by
 have hlr:∀(K:Nat->Option Bool),au (cx ms) K=K ms.length:=λK=>cw cD ms K;unfold Ga NJ;rw[hlr,hlr,show aj (Int.ofNat ms.length) (Int.ofNat ms.length)=true by rw[cg,bZ],bJ,aF,hlr];refine(bT (λz:Option Bool=>ob z λx2=>some x2) (?_:_=some true)).trans rfl;refine gS (ev:=λi (g:Value->Value->Int->Int->Option Bool)=>g (cx ms) (cx ms) ms.length i) ms.length ?_ ?_ (by omega)
 ·intro i g hi;have e1:((i:Int)<(ms.length:Int)):=by omega
  simp only[aV,e1,aW,aD,bR];rw[show cx ms=aC cD ms from rfl,bt iQ hi,lL];simp only[aZ,bE];rw[bt iQ hi,lL];simp only[aZ,bE];rw[aiV (hm _ (cy hi)) hw];simp only[aB,bJ,aF,cc];rw[aN (by omega) (by omega)];rfl
 ·intro g;have e1:¬((ms.length:Int)<(ms.length:Int)):=by omega
  simp only[aV,e1,bF,aF]
noncomputable section
theorem adg(w:Nat):K 26 [.v,vI,vI] (.aH [.v,.b]) (F9 w):=fr Tryz.f26 pn w (lc 0 [(0,.v),(1,vI),(2,vI),(8,.gr 0 1),(9,vI),(13,.v),(14,vI),(15,vI)] [(0,.grow 1 3)] 1 ln)
theorem Ua(w:Nat):KH 207 ⟨3,⟨[(0,.ptr 0 0),(1,vI),(2,vI)],[(0,.cells [.gr 1 14,.v,vI,.gr 2 13,.v,.v,.v] 132),(1,.grow 14 30),(2,.grow 13 56)],3⟩,1,⟨[(0,vI)],[(0,.cells [.gr 1 14,.v,vI,.gr 2 13,.v,.v,.v] 132),(1,.grow 14 30),(2,.grow 13 56)],3⟩⟩ (BN w):=fh Tryz.f207 (pa pn (Lq w)) w
theorem adI(w:Nat):KH 138 ⟨1,⟨[(0,.ptr 0 0)],[(0,.cells [.gr 1 14,.v,vI,.gr 2 13,.v,.v,.v] 132),(1,.grow 14 30),(2,.grow 13 56)],3⟩,1,⟨[(0,vI)],[(0,.cells [.gr 1 14,.v,vI,.gr 2 13,.v,.v,.v] 132),(1,.grow 14 30),(2,.grow 13 56)],3⟩⟩ (Gm w):=fh Tryz.f138 (ph pn (Ua w)) w
theorem adJ(w:Nat):na Tryz.prog 139 ⟨1,⟨[(0,.ptr 0 0)],[(0,.cells [.gr 1 14,.v,.i .i64,.gr 2 13,.v,.v,.v] 132),(1,.grow 14 30),(2,.grow 13 56)],3⟩,1,⟨[(0,.i .i64)],[(0,.cells [.gr 1 14,.v,.i .i64,.gr 2 13,.v,.v,.v] 132),(1,.grow 14 30),(2,.grow 13 56)],3⟩⟩ (show Fn (HT.ti ⟨1,⟨[(0,.ptr 0 0)],[(0,.cells [.gr 1 14,.v,.i .i64,.gr 2 13,.v,.v,.v] 132),(1,.grow 14 30),(2,.grow 13 56)],3⟩,1,⟨[(0,.i .i64)],[(0,.cells [.gr 1 14,.v,.i .i64,.gr 2 13,.v,.v,.v] 132),(1,.grow 14 30),(2,.grow 13 56)],3⟩⟩).ks (Option (bL (HT.to ⟨1,⟨[(0,.ptr 0 0)],[(0,.cells [.gr 1 14,.v,.i .i64,.gr 2 13,.v,.v,.v] 132),(1,.grow 14 30),(2,.grow 13 56)],3⟩,1,⟨[(0,.i .i64)],[(0,.cells [.gr 1 14,.v,.i .i64,.gr 2 13,.v,.v,.v] 132),(1,.grow 14 30),(2,.grow 13 56)],3⟩⟩).ks)) from(sw w)):=by
 have k:KH 139 ⟨1,⟨[(0,.ptr 0 0)],[(0,.cells [.gr 1 14,.v,vI,.gr 2 13,.v,.v,.v] 132),(1,.grow 14 30),(2,.grow 13 56)],3⟩,1,⟨[(0,vI)],[(0,.cells [.gr 1 14,.v,vI,.gr 2 13,.v,.v,.v] 132),(1,.grow 14 30),(2,.grow 13 56)],3⟩⟩ (yr kU w):=fh Tryz.f139 (pa (pa pn (AQ w)) (adg w)) w ln (λn=>cond (Nat.beq n 200002) true (Nat.beq n 300003));have e:yr kU w=sw w:=by unfold sw yr;simp only[xf]
 rw[<-e];exact k
theorem adQ(w:Nat):na Tryz.prog 208 ⟨3,⟨[(0,.ptr 0 0),(1,.i .i64),(2,.v)],[(0,.cells [.gr 1 14,.v,.i .i64,.gr 2 13,.v,.v,.v] 132),(1,.grow 14 30),(2,.grow 13 56)],3⟩,1,⟨[(0,.aH [])],[(0,.cells [.gr 1 14,.v,.i .i64,.gr 2 13,.v,.v,.v] 132),(1,.grow 14 30),(2,.grow 13 56)],3⟩⟩ (show Fn (HT.ti ⟨3,⟨[(0,.ptr 0 0),(1,.i .i64),(2,.v)],[(0,.cells [.gr 1 14,.v,.i .i64,.gr 2 13,.v,.v,.v] 132),(1,.grow 14 30),(2,.grow 13 56)],3⟩,1,⟨[(0,.aH [])],[(0,.cells [.gr 1 14,.v,.i .i64,.gr 2 13,.v,.v,.v] 132),(1,.grow 14 30),(2,.grow 13 56)],3⟩⟩).ks (Option (bL (HT.to ⟨3,⟨[(0,.ptr 0 0),(1,.i .i64),(2,.v)],[(0,.cells [.gr 1 14,.v,.i .i64,.gr 2 13,.v,.v,.v] 132),(1,.grow 14 30),(2,.grow 13 56)],3⟩,1,⟨[(0,.aH [])],[(0,.cells [.gr 1 14,.v,.i .i64,.gr 2 13,.v,.v,.v] 132),(1,.grow 14 30),(2,.grow 13 56)],3⟩⟩).ks)) from(q9 w)):=by
 have k:KH 208 ⟨3,⟨[(0,.ptr 0 0),(1,vI),(2,.v)],[(0,.cells [.gr 1 14,.v,vI,.gr 2 13,.v,.v,.v] 132),(1,.grow 14 30),(2,.grow 13 56)],3⟩,1,⟨[(0,.aH [])],[(0,.cells [.gr 1 14,.v,vI,.gr 2 13,.v,.v,.v] 132),(1,.grow 14 30),(2,.grow 13 56)],3⟩⟩ (BO kU w):=fh Tryz.f208 pn w;have e:BO kU w=q9 w:=by unfold q9 BO;simp only[xf]
 rw[<-e];exact k
theorem adR(w:Nat):K 209 [.v] (.aH [vI,.v,vI]) (Gs w):=fr Tryz.f209 (pa (pa (pa pn (Uj w)) (Ly w)) (xF w)) w
theorem adL(w:Nat):KH 140 ⟨1,⟨[(0,.ptr 0 0)],[(0,.cells [.gr 1 14,.v,vI,.gr 2 13,.v,.v,.v] 132),(1,.grow 14 30),(2,.grow 13 56)],3⟩,1,⟨[(0,vI)],[(0,.cells [.gr 1 14,.v,vI,.gr 2 13,.v,.v,.v] 132),(1,.grow 14 30),(2,.grow 13 56)],3⟩⟩ (Gn w):=fh Tryz.f140 (pa (ph (ph pn (adQ w)) (Ua w)) (adR w)) w (lc 0 [(0,.ptr 0 0),(3,vI)] [(0,.cells [.gr 4 14,.v,vI,.gr 5 13,.v,.v,.v] 132),(4,.grow 14 30),(5,.grow 13 56)] 6 ln)
theorem adM(w:Nat):KH 141 ⟨1,⟨[(0,.ptr 0 0)],[(0,.cells [.gr 1 14,.v,vI,.gr 2 13,.v,.v,.v] 132),(1,.grow 14 30),(2,.grow 13 56)],3⟩,3,⟨[(0,vI)],[(0,.cells [.gr 1 14,.v,vI,.gr 2 13,.v,.v,.v] 132),(1,.grow 14 30),(2,.grow 13 56)],3⟩⟩ (Gp w):=fh Tryz.f141 (pa (pa pn (EP w)) (K6 w)) w
theorem T4(w:Nat):KH 74 ⟨1,⟨[(0,.v)],[],0⟩,0,⟨[(0,.aH [.ptr 0 0,vI])],[(0,.cells [.gr 1 14,.v,vI,.gr 2 13,.v,.v,.v] 132),(1,.grow 14 30),(2,.grow 13 56)],3⟩⟩ (Gg w):=fh Tryz.f74 (ph (ph (ph (ph pn (adI w)) (adJ w)) (adL w)) (adM w)) w ln (λn=>Nat.blt n 100000)
theorem Ez(w:Nat):K 29 [.v] (.aH [.agg [.v],vI,vI]) (vK w):=fr Tryz.f29 (ph pn (T4 w)) w
theorem ads(w:Nat):K 75 [.agg [vI,vI,vI,.v],.agg [vI,vI,vI,.v]] (.b) (Xy w):=fr Tryz.f75 (pa pn (UN w)) w
theorem afZ(w:Nat):K 81 [.v,.v,.fn 75 []] (.b) (OZ w):=fr Tryz.f81 (pa pn (ads w)) w (lc 0 [(1,.v),(2,.fn 75 []),(15,.v),(16,vI),(17,vI)] [] 0 ln)
theorem adu(w:Nat):KH 78 ⟨3,⟨[(0,.agg [vI,.v,.v,.v,.v,.v,.v,.v,.v,.v,vI,vI,vI,.v]),(1,.agg [vI,.v,.v,.v,.v,.v,.v,.v,.v,.v,vI,vI,vI,.v]),(2,.ptr 0 0)],[(0,.cells [.fn 75 []] 138)],1⟩,1,⟨[(0,.b)],[(0,.cells [.fn 75 []] 138)],1⟩⟩ (Gh w):=fh Tryz.f78 (pa (pa (pa pn (EM w)) (afX w)) (afZ w)) w
theorem adt(w:Nat):KH 77 ⟨3,⟨[(0,.v),(1,.v),(2,.fn 78 [.ptr 0 0])],[(0,.cells [.fn 75 []] 138)],1⟩,1,⟨[(0,.b)],[(0,.cells [.fn 75 []] 138)],1⟩⟩ (NJ w):=fh Tryz.f77 (ph pn (adu w)) w (lc 0 [(1,.v),(2,.fn 78 [.ptr 0 0]),(15,.v),(16,vI),(17,vI)] [(0,.cells [.fn 75 []] 138)] 1 ln)
theorem adh(w:Nat):K 30 [.agg [.v],.agg [.v]] (.b) (Ga w):=fr Tryz.f30 (ph pn (adt w)) w
end
noncomputable section
def ahp(w:Nat):RK 406 [vI,vI] (.b):=rr Tryz.f406 pn w
def ahu(w:Nat):RK 460 [vI] (.aH [.v,vI]):=rr Tryz.f460 pn w
def ahv(w:Nat):RK 461 [vI] (.aH [.v,vI]):=rr Tryz.f461 pn w
def ahw(w:Nat):RK 462 [vI,vI] (.aH [.v,vI]):=rr Tryz.f462 pn w
def ahq(w:Nat):RK 407 [vI,vI] (.aH [.v,vI]):=rr Tryz.f407 (pa (pa (pa pn (ahu w).2) (ahv w).2) (ahw w).2) w
def ahe(w:Nat):RK 345 [vI,.agg [vI,vI,vI,.v]] (.b):=rr Tryz.f345 (pa (pa (pa pn (vp w)) (ahp w).2) (ahq w).2) w (lc 0 [(3,.ptr 0 0),(5,.v),(6,vI),(7,vI)] [(0,.cells [vI,vI,vI,.v] 136)] 1 ln)
def ahf(w:Nat):RK 346 [.v] (.b):=rr Tryz.f346 pn w (lc 0 [(0,.v),(3,vI)] [] 0 ln)
def Ba(w:Nat):RK 273 [vI,.v] (.b):=rr Tryz.f273 (pa (pa pn (ahe w).2) (ahf w).2) w (lc 0 [(0,vI),(1,.v),(5,vI)] [] 0 ln)
def aji(w:Nat):Int->Value->Option (Bool):=(Ba w).1
def ahx(w:Nat):RK 472 [.agg [vI,.v,.v,.v,.v,.v,.v,.v]] (vI):=rr Tryz.f472 (pa pn (Ba w).2) w
def Ml(w:Nat):RK 31 [.v] (.v):=rr Tryz.f31 pn w
def aiL(w:Nat):Value->Option (Value):=(Ml w).1
def alm(w:Nat)(rec:Value->Value->Value->Option (Value)):Value->Value->Value->Option (Value):=λa b c=>lp (α:=Nat->Nat->Int->Value->Value->Value->List Value->Option Value) (λ_ _ _ _ _ _ _=>none) (λk l m n o p q r=>au p λs=>bif ak n (Int.ofNat s) then aA n λt=>aI 4 t p λu=>af (List.drop 1 u) λv y=>af y λz a0=>af a0 λa1 a2=>ob (rec v z a1) λa3=>ed 3 a3 λa4 a5=>bif a5.length.beq (a4*3)&&((0+l*3).ble r.length&&Nat.beq 261 261) then bif(l+a4).ble m then bif(0+l*3+a5.length).ble r.length then k (l+a4) m (ag .i64 (n.add 1)) o p q (bh (0+l*3) a5 r) else none else bif aE a4&&(aE l&&(Builtin.nextslicecap (l+a4) m).ble 5000000000) then none else none else none else some (ae l (List.drop 0 r))) w 1 1 0 a b c [a,b,c]
def N1(w:Nat):Value->Value->Value->Option (Value):=lZ (iU (VT.eZ [.agg [.v,.v,.v]])) (alm w) w
theorem Li(w:Nat):K 468 [.agg [.v,.v,.v]] (.v) (N1 w):=Aj (λrec h=>fr Tryz.f468 (pa pn h) w (lc 0 [(1,.ptr 0 0),(3,.sl 1 0),(4,vI)] [(0,.cells [.v,.v,.v] 261),(1,.arr 261)] 2 ln)) w
def VQ(w:Nat):RK 465 [.agg [vI,.v]] (.v):=rr Tryz.f465 (pa pn (Li w)) w (lc 0 [(1,.ptr 0 0),(3,.gr 1 3),(4,vI)] [(0,.cells [vI,.v] 217),(1,.grow 3 261)] 2 ln)
def ajt(w:Nat):Int->Value->Option (Value):=(VQ w).1
def Bb(w:Nat):RK 415 [.agg [.v,.v,.v]] (vI):=rr Tryz.f415 pn w
def B1(w:Nat):Value->Value->Value->Option (Int):=(Bb w).1
def XN(w:Nat):Value->Option (Int):=λa=>au a λb=>bif aj (Int.ofNat b) 0 then some 0 else au a λc=>aA (ag .i64 ((Int.ofNat c).sub 1)) λd=>aI 5 d a λe=>af (List.drop 3 e) λf g=>ar .i64 f λh=>au a λi=>aA (ag .i64 ((Int.ofNat i).sub 1)) λj=>aI 5 j a λk=>af (List.drop 4 k) λl m=>ar .i64 l λn=>some (ag .i64 (h.add n))
theorem ED(w:Nat):K 469 [.v] (vI) (XN w):=fr Tryz.f469 pn w
def VW(w:Nat):RK 487 [vI] (vI):=rr Tryz.f487 pn w
def V1(w:Nat):RK 496 [vI,vI] (vI):=rr Tryz.f496 (pa pn (EO w)) w
def VX(w:Nat):RK 488 [vI,vI] (vI):=rr Tryz.f488 (pa pn (V1 w).2) w
def ajx(w:Nat):Int->Int->Option (Int):=(VX w).1
def ahr(w:Nat):RK 417 [] (.v):=rr Tryz.f417 pn w
def Mt(w:Nat):RK 485 [vI] (.b):=rr Tryz.f485 pn w
def ajv(w:Nat):Int->Option (Bool):=(Mt w).1
def ahA(w:Nat):RK 484 [.v,vI] (.b):=rr Tryz.f484 (pa pn (Mt w).2) w (lc 0 [(0,.v),(1,vI),(5,.ptr 0 0),(6,vI)] [(0,.cells [.v,vI,vI,vI] 293)] 1 ln)
def VP(w:Nat):RK 463 [.v] (.b):=rr Tryz.f463 (pa pn (ahA w).2) w (lc 0 [(0,.v),(3,vI)] [] 0 ln)
def ajs(w:Nat):Value->Option (Bool):=(VP w).1
def N2(w:Nat):Value->Int->Int->Int->Int->Option (Int):=λa b c d e=>lp (α:=Int->Int->Value->Int->Int->Int->Option Int) (λ_ _ _ _ _ _=>none) (λl m n o p q r=>au o λs=>bif ak n (Int.ofNat s) then aA n λt=>aI 2 t o λu=>af (List.drop 0 u) λv y=>ar .i64 v λz=>bif aj z m then some n else l m (ag .i64 (n.add 1)) o p q r else some (-1)) w e 0 a b c d
theorem Lj(w:Nat):K 470 [.agg [.v,vI,vI,vI],vI] (vI) (N2 w):=fr Tryz.f470 pn w (lc 0 [(1,vI),(2,.ptr 0 0),(5,vI)] [(0,.cells [.v,vI,vI,vI] 293)] 1 ln)
def VV(w:Nat):RK 486 [.agg [.v,vI,vI,vI],vI] (.b):=rr Tryz.f486 (pa pn (Lj w)) w
def ajw(w:Nat):Value->Int->Int->Int->Int->Option (Bool):=(VV w).1
def WX(a:Int)(b:Value)(c:Int)(d:Value)(rec:Value->Value->Value->Value->Int->Option (Bool))(e:Value)(f:Value->Int->Value->Value->Value->Value->Int->Int->Int->Option Bool)(g:Value)(h:Value)(i:Int)(j:Int)(k:Int):Option (Bool):=aA a λl=>aI 4 l b λm=>af (List.drop 1 m) λn o=>af o λp q=>af q λr s=>aA c λt=>aI 2 t d λu=>af (List.drop 1 u) λv y=>ar .i64 v λz=>ob (rec n p r e z) λa0=>bif !a0 then some false else f e (ag .i64 (a.add 1)) g b h d i j k
def WW(w:Nat)(rec:Value->Value->Value->Value->Int->Option (Bool))(a:Value)(b:Value)(c:Value)(d:Value)(e:Value)(f:Int)(g:Int)(h:Int):Option (Bool):=lp (α:=Value->Int->Value->Value->Value->Value->Int->Int->Int->Option Bool) (λ_ _ _ _ _ _ _ _ _=>none) (λr s t u v y z a0 a1 a2=>au u λa3=>bif ak t (Int.ofNat a3) then aA t λa4=>aI 4 a4 u λa5=>af a5 λa6 a7=>ar .i64 a6 λa8=>af a7 λa9 b0=>ar .i64 a9 λb1=>af b0 λb2 b3=>ar .i64 b2 λb4=>af b3 λb5 b6=>ob (ajv w a8) λb7=>bif !b7 then some false else ob (ajw w z a0 a1 a2 a8) λb8=>bif b8 then some false else ob (BS w b1 b4 b5) λb9=>bif !b9 then some false else bif ak 0 t then aA (ag .i64 (t.sub 1)) λc0=>aI 4 c0 u λc1=>af (List.drop 0 c1) λc2 c3=>ar .i64 c2 λc4=>bif !ak c4 a8 then some false else r s (ag .i64 (t.add 1)) u v y z a0 a1 a2 else r s (ag .i64 (t.add 1)) u v y z a0 a1 a2 else lp (α:=Value->Int->Value->Value->Value->Value->Int->Int->Int->Option Bool) (λ_ _ _ _ _ _ _ _ _=>none) (λd4 d5 d6 d7 d8 d9 e0 e1 e2 e3=>au d8 λe4=>bif ak d6 (Int.ofNat e4) then aA d6 λe5=>aI 4 e5 d8 λe6=>af (List.drop 0 e6) λe7 e8=>ar .i64 e7 λe9=>ob (N2 w e0 e1 e2 e3 e9) λf0=>bif ak f0 0 then some false else bif ak 0 d6 then aA d6 λf1=>aI 4 f1 d8 λf2=>af (List.drop 0 f2) λf3 f4=>ar .i64 f3 λf5=>aA (ag .i64 (d6.sub 1)) λf6=>aI 4 f6 d8 λf7=>af (List.drop 0 f7) λf8 f9=>ar .i64 f8 λg0=>bif !ak g0 f5 then some false else WX d6 d8 f0 e0 rec d5 d4 d7 d9 e1 e2 e3 else WX d6 d8 f0 e0 rec d5 d4 d7 d9 e1 e2 e3 else some true) w s 0 u v y z a0 a1 a2) w a 0 b c d e f g h
def alj(w:Nat)(rec:Value->Value->Value->Value->Int->Option (Bool)):Value->Value->Value->Value->Int->Option (Bool):=λa b c d e=>aA e λf=>aI 4 f d λg=>af g λh i=>af i λj k=>ar .i64 j λl=>af k λm n=>ar .i64 m λo=>af n λp q=>ar .i64 p λr=>ob (B1 w a b c) λs=>bif ak s 1 then some false else bif ak 65535 s then some false else au c λt=>bif ak 0 (Int.ofNat t) then bif aj l 0 then some false else WW w rec d a b c h l o r else WW w rec d a b c h l o r
def XL(w:Nat):Value->Value->Value->Value->Int->Option (Bool):=lZ (iU (VT.eZ [.agg [.v,.v,.v],.v,.i .i64])) (alj w) w
theorem ad9(w:Nat):K 464 [.agg [.v,.v,.v],.v,vI] (.b) (XL w):=Aj (λrec h=>fr Tryz.f464 (pa (pa (pa (pa (pa (pa pn (Bb w).2) (Mt w).2) (vp w)) (VV w).2) (Lj w)) h) w (lc 0 [(1,.v),(3,.ptr 0 0),(7,.ptr 1 0),(9,vI)] [(0,.cells [.v,.v,.v] 261),(1,.cells [.v,vI,vI,vI] 293)] 2 (lc 2 [(1,.v),(3,.ptr 0 0),(7,.ptr 1 0),(11,vI)] [(0,.cells [.v,.v,.v] 261),(1,.cells [.v,vI,vI,vI] 293)] 2 ln))) w
def Ff(w:Nat):RK 411 [.v,vI,.v] (.v):=rr Tryz.f411 pn w
def BY(w:Nat):Value->Int->Value->Option (Value):=(Ff w).1
def Ms(w:Nat):RK 412 [.v,vI,vI,vI,vI] (.v):=rr Tryz.f412 (pa (pa pn (EC w)) (Ff w).2) w
def BZ(w:Nat):Value->Int->Int->Int->Int->Option (Value):=(Ms w).1
def V2(w:Nat):RK 497 [vI,vI] (.b):=rr Tryz.f497 (pa pn (V1 w).2) w
def ajC(w:Nat):Int->Int->Option (Bool):=(V2 w).1
def W8(a:Int)(b:Int):=(ag .i64 ((ag .i64 ((ag .i64 ((ag .i64 (a.sub (a.tmod b))).add b)).sub 1)).sub (a.tmod b)))
def WV(a:Int):=(aE ([Value.int .u8 a].length/1)&&[Value.int .u8 a].length.beq ([Value.int .u8 a].length/1*1))
def Nx(a:Nat)(b:Value)(c:List Value)(d:Value->Int->Int->Int->List Value->Option Value)(e:Int)(f:Int)(g:Int):Option (Value):=aI 1 a b λh=>af h λi j=>ar .u8 i λk=>bif aE c.length&&(WV k) then d b e f (ag .i64 (g.add 1)) (c++[Value.int .u8 k]) else none
def Xb(w:Nat)(a:Int)(b:Value)(c:Int):Option (Value):=bif ak a 1 then some (ae 0 []) else bif ak 2 a then some (ae 0 []) else lp (α:=Value->Int->Int->Int->List Value->Option Value) (λ_ _ _ _ _=>none) (λi j k l m n=>au j λo=>bif ak m (Int.ofNat o) then bif aj l 1 then au j λp=>au j λq=>bif aj k 0 then none else bif ak m (ag .i64 ((Int.ofNat p).sub ((Int.ofNat q).tmod k))) then bif aj k 0 then none else bif aj k 0 then none else aA (W8 m k) λr=>Nx r j n i k l m else aA m λs=>Nx s j n i k l m else aA m λt=>Nx t j n i k l m else some (ae (n.length/1) n)) w b c a 0 []
def ajD(w:Nat):Value->Int->Int->Option (Value):=λa b c=>ob (vP w b) λd=>bif aj d 0 then bif !aj b 8 then some (ae 0 []) else Xb w c a b else Xb w c a b
theorem aeg(w:Nat):K 499 [.v,vI,vI] (.v) (ajD w):=fr Tryz.f499 (pa pn (AO w)) w (lc 0 [(0,.v),(1,vI),(2,vI),(7,.gr 0 1),(8,vI)] [(0,.grow 1 5)] 1 ln)
def VY(w:Nat):RK 490 [.agg [vI,vI,.v],vI] (.v):=rr Tryz.f490 (pa (pa (pa pn (vp w)) (K8 w)) (aeg w)) w
def ajy(w:Nat):Int->Int->Value->Int->Option (Value):=(VY w).1
def WZ(a:Nat)(b:Value)(c:Value->Int->Int->Int->Int->Int->Int->Option (Int×Bool))(d:Int)(e:Int)(f:Int)(g:Int)(h:Int)(i:Int):Option (Int×Bool):=aI 1 a b λj=>af j λk l=>ar .u8 k λm=>c b d e f (ag .i64 (g.add (ag .i64 (h.mul (ag .i64 m))))) (ag .i64 (Int.mul 256 h)) (ag .i64 (i.add 1))
def XQ(w:Nat):Value->Int->Int->Int->Option (Int×Bool):=λa b c d=>ob (vP w c) λe=>bif aj e 0 then some (0,false) else bif ak d 1 then some (0,false) else bif ak 2 d then some (0,false) else bif ak b 0 then some (0,false) else au a λf=>bif ak (Int.ofNat f) b then some (0,false) else au a λg=>bif ak (ag .i64 ((Int.ofNat g).sub b)) c then some (0,false) else lp (α:=Value->Int->Int->Int->Int->Int->Int->Option (Int×Bool)) (λ_ _ _ _ _ _ _=>none) (λo p q r s t u v=>bif ak v r then bif aj s 2 then aA (ag .i64 ((ag .i64 ((ag .i64 (q.add r)).sub 1)).sub v)) λy=>WZ y p o q r s t u v else aA (ag .i64 (q.add v)) λz=>WZ z p o q r s t u v else some (t,true)) w a b c d 0 1 0
theorem aef(w:Nat):K 498 [.v,vI,vI,vI] (.aH [vI,.b]) (XQ w):=fr Tryz.f498 (pa pn (AO w)) w (lc 0 [(0,.v),(1,vI),(2,vI),(3,vI),(10,vI),(11,vI),(12,vI)] [] 0 ln)
def tY(w:Nat):Value->Int->Int->Int->Option (Int):=λa b c d=>lp (α:=Value->Int->Int->Int->Int->Option Int) (λ_ _ _ _ _=>none) (λj k l m n o=>au k λp=>bif ak o (Int.ofNat p) then aA o λq=>aI 5 q k λr=>af (List.drop 0 r) λs t=>ar .i64 s λu=>bif aj u l then aA o λv=>aI 5 v k λy=>af (List.drop 1 y) λz a0=>ar .i64 z λa1=>bif aj a1 m then aA o λa2=>aI 5 a2 k λa3=>af (List.drop 2 a3) λa4 a5=>ar .i64 a4 λa6=>bif aj a6 n then aA o λa7=>aI 5 a7 k λa8=>af (List.drop 3 a8) λa9 b0=>ar .i64 a9 λb1=>some b1 else j k l m n (ag .i64 (o.add 1)) else j k l m n (ag .i64 (o.add 1)) else j k l m n (ag .i64 (o.add 1)) else some 0) w a b c d 0
theorem Ug(w:Nat):K 414 [.v,vI,vI,vI] (vI) (tY w):=fr Tryz.f414 pn w (lc 0 [(0,.v),(1,vI),(2,vI),(3,vI),(9,vI)] [] 0 ln)
def V0(w:Nat):RK 491 [.agg [vI,vI,vI,vI],vI] (.aH [.v,.b]):=rr Tryz.f491 (pa pn (EC w)) w
def ajA(w:Nat):Int->Int->Int->Int->Int->Option (Value×Bool):=(V0 w).1
def VM(w:Nat):RK 350 [vI] (vI):=rr Tryz.f350 pn w
def VO(w:Nat):RK 419 [vI] (.b):=rr Tryz.f419 pn w
def ahl(w:Nat):RK 354 [vI] (.b):=rr Tryz.f354 (pa pn (VO w).2) w
def ahm(w:Nat):RK 355 [.v] (vI):=rr Tryz.f355 (pa pn (VO w).2) w (lc 0 [(0,.v),(3,vI)] [] 0 ln)
def ahs(w:Nat):RK 418 [vI] (.b):=rr Tryz.f418 pn w
def ahk(w:Nat):RK 353 [.v,.b] (.v):=rr Tryz.f353 (pa pn (ahs w).2) w (lc 0 [(0,.v),(1,.b),(5,.gr 0 3),(6,vI)] [(0,.grow 3 185)] 1 ln)
def aht(w:Nat):RK 459 [.agg [vI,.v,.v,.v,.v,.v,.v,.v,.v,.v,vI,vI,vI,.v]] (.b):=rr Tryz.f459 pn w
def XB(w:Nat):Int->Int->Int->Int->Int->Int->Option (Value×Bool):=λa b c d e f=>lp (α:=Int->Nat->Nat->Int->List Value->List Value->Option (Value×Bool)) (λ_ _ _ _ _ _=>none) (λm n o p q r s=>bif ak q 5 then bif ak 2 q then aA q λt=>bif t.blt o then af (List.drop (0+t*1) r) λu v=>ar .i64 u λy=>ob (BR w y 2 n) λz=>bif !z.2 then some (ae 0 [],false) else ed 1 z.1 λa0 a1=>bif aE s.length&&(aE a0&&a1.length.beq (a0*1)) then m n o p (ag .i64 (q.add 1)) r (s++a1) else none else none else aA q λa2=>bif a2.blt o then af (List.drop (0+a2*1) r) λa3 a4=>ar .i64 a3 λa5=>ob (BR w a5 4 n) λa6=>bif !a6.2 then some (ae 0 [],false) else ed 1 a6.1 λa7 a8=>bif aE s.length&&(aE a7&&a8.length.beq (a7*1)) then m n o p (ag .i64 (q.add 1)) r (s++a8) else none else none else some (ae (s.length/1) s,true)) w f 5 5 0 [Value.int .i64 a,Value.int .i64 b,Value.int .i64 c,Value.int .i64 d,Value.int .i64 e] []
theorem adY(w:Nat):K 272 [.agg [vI,vI,vI,vI,vI],vI] (.aH [.v,.b]) (XB w):=fr Tryz.f272 (pa pn (EC w)) w (lc 0 [(1,vI),(6,.gr 2 1),(7,.sl 1 0),(8,vI)] [(1,.arr 3),(2,.grow 1 5)] 3 ln)
def VI(w:Nat):RK 274 [vI,.v] (.agg [vI,vI,vI,.v]):=rr Tryz.f274 pn w
def XC(w:Nat):Int->Value->Option (Int×Int×Int×Value):=(VI w).1
def VR(w:Nat):RH 466 ⟨5,⟨[(0,.gr 0 5),(1,vI),(2,vI),(3,vI),(4,vI)],[(0,.grow 5 307)],1⟩,0,⟨[(0,.gr 0 5)],[(0,.grow 5 307)],1⟩⟩:=rh Tryz.f466 (pa (pa pn (ED w)) (VW w).2) w
def aju(w:Nat):Int->Int->Int->Int->List Value->Option (List Value):=(VR w).1
def VU(w:Nat):RH 466 ⟨5,⟨[(0,.gr 0 5),(1,vI),(2,vI),(3,vI),(4,vI)],[(0,.grow 5 307)],1⟩,1,⟨[(0,.gr 1 5)],[(1,.grow 5 307)],2⟩⟩:=rh Tryz.f466 (pa (pa pn (ED w)) (VW w).2) w
def N0(w:Nat):Int->Int->Int->Int->List Value->Option (List Value):=(VU w).1
def alk(w:Nat)(rec:Value->Value->Value->Int->List Value->Option (List Value)):Value->Value->Value->Int->List Value->Option (List Value):=λa b c d e=>ob (B1 w a b c) λf=>ob (N0 w 2 d 0 (ag .i64 (Int.add 6 (ag .i64 (Int.mul 12 f)))) e) λg=>lp (α:=Int->Int->List Value->Value->Value->Value->Option (List Value)) (λ_ _ _ _ _ _=>none) (λn o p q r s t=>au r λu=>bif ak p (Int.ofNat u) then aA p λv=>aI 4 v r λy=>af (List.drop 0 (List.drop 1 y)) λz a0=>ar .i64 z λa1=>aA p λa2=>aI 4 a2 r λa3=>af (List.drop 1 (List.drop 1 a3)) λa4 a5=>ar .i64 a4 λa6=>ob (ajx w a1 a6) λa7=>bif ak 0 a7 then aA p λa8=>aI 4 a8 r λa9=>af (List.drop 0 a9) λb0 b1=>ar .i64 b0 λb2=>ob (N0 w 3 o b2 a7 q) λb3=>n o (ag .i64 (p.add 1)) b3 r s t else n o (ag .i64 (p.add 1)) q r s t else lp (α:=Int->Int->Int->List Value->Value->Value->Value->Option (List Value)) (λ_ _ _ _ _ _ _=>none) (λc1 c2 c3 c4 c5 c6 c7 c8=>au c7 λc9=>bif ak c4 (Int.ofNat c9) then aA c4 λd0=>aI 4 d0 c7 λd1=>af (List.drop 1 d1) λd2 d3=>af d3 λd4 d5=>af d5 λd6 d7=>ob (rec d2 d4 d6 c3 c5) λd8=>aA c4 λd9=>aI 4 d9 c7 λe0=>af (List.drop 1 e0) λe1 e2=>af e2 λe3 e4=>af e4 λe5 e6=>ob (N1 w e1 e3 e5) λe7=>au e7 λe8=>c1 c2 (ag .i64 (c3.add (Int.ofNat e8))) (ag .i64 (c4.add 1)) d8 c6 c7 c8 else au c8 λe9=>bif ak 0 (Int.ofNat e9) then au c8 λf0=>ob (N0 w 4 c2 0 (Int.ofNat f0) c5) λf1=>some f1 else some c5) w o (ag .i64 (o.add 1)) 0 q r s t) w d 0 g a b c
def XM(w:Nat):Value->Value->Value->Int->List Value->Option (List Value):=lZ (iU (HT.ti ⟨3,⟨[(0,.gr 0 5),(1,.agg [.v,.v,.v]),(2,.i .i64)],[(0,.grow 5 307)],1⟩,1,⟨[(0,.gr 1 5)],[(1,.grow 5 307)],2⟩⟩).ks) (alk w) w
theorem aea(w:Nat):KH 467 ⟨3,⟨[(0,.gr 0 5),(1,.agg [.v,.v,.v]),(2,vI)],[(0,.grow 5 307)],1⟩,1,⟨[(0,.gr 1 5)],[(1,.grow 5 307)],2⟩⟩ (XM w):=J8 (λrec h=>fh Tryz.f467 (ph (ph (pa (pa (pa pn (Bb w).2) (VX w).2) (Li w)) (VU w).2) h) w (lc 0 [(0,.gr 3 5),(2,vI),(4,.ptr 1 0),(7,vI)] [(3,.grow 5 307),(1,.cells [.v,.v,.v] 261)] 4 (lc 2 [(0,.gr 3 5),(2,vI),(4,.ptr 1 0),(9,vI),(10,vI)] [(3,.grow 5 307),(1,.cells [.v,.v,.v] 261)] 4 ln))) w
def XI(w:Nat):Int->Value->Option (Value×Bool):=λa b=>ob (ajt w a b) λc=>lp (α:=Value->Int->Int->Value->Option (Value×Bool)) (λ_ _ _ _=>none) (λh i j k l=>au i λm=>bif ak j (Int.ofNat m) then aA j λn=>aI 3 n i λo=>af o λp q=>af q λr s=>af s λt u=>ob (B1 w p r t) λv=>bif ak v 1 then some (ae 0 [],false) else aA j λy=>aI 3 y i λz=>af z λa0 a1=>af a1 λa2 a3=>af a3 λa4 a5=>ob (B1 w a0 a2 a4) λa6=>bif ak 65535 a6 then some (ae 0 [],false) else lp (α:=Value->Int->Int->Int->Value->Option (Value×Bool)) (λ_ _ _ _ _=>none) (λb2 b3 b4 b5 b6 b7=>aA b4 λb8=>aI 3 b8 b3 λb9=>af (List.drop 0 b9) λc0 c1=>au c0 λc2=>bif ak b5 (Int.ofNat c2) then aA b4 λc3=>aI 3 c3 b3 λc4=>af (List.drop 0 c4) λc5 c6=>aA b5 λc7=>aI 4 c7 c5 λc8=>af (List.drop 1 c8) λc9 d0=>ar .i64 c9 λd1=>af d0 λd2 d3=>ar .i64 d2 λd4=>af d3 λd5 d6=>ob (BS w d1 d4 d5) λd7=>bif !d7 then some (ae 0 [],false) else b2 b3 b4 (ag .i64 (b5.add 1)) b6 b7 else h b3 (ag .i64 (b4.add 1)) b6 b7) w i j 0 k l else ob (aju w 1 (-1) 0 8 []) λd8=>lp (α:=Int->Int->Int->Value->List Value->Option (Value×Bool)) (λ_ _ _ _ _=>none) (λe4 e5 e6 e7 e8 e9=>au e8 λf0=>bif ak e6 (Int.ofNat f0) then aA e6 λf1=>aI 3 f1 e8 λf2=>af f2 λf3 f4=>af f4 λf5 f6=>af f6 λf7 f8=>ob (XM w f3 f5 f7 e5 e9) λf9=>aA e6 λg0=>aI 3 g0 e8 λg1=>af g1 λg2 g3=>af g3 λg4 g5=>af g5 λg6 g7=>ob (N1 w g2 g4 g6) λg8=>au g8 λg9=>e4 (ag .i64 (e5.add (Int.ofNat g9))) (ag .i64 (e6.add 1)) e7 e8 f9 else ob (XN w (ae (e9.length/5) e9)) λh0=>bif ak 4294967295 h0 then some (ae 0 [],false) else some (ae (e9.length/5) e9,true)) w 0 0 k l d8) w c 0 a b
theorem Uf(w:Nat):K 409 [.agg [vI,.v]] (.aH [.v,.b]) (XI w):=fr Tryz.f409 (ph (ph (pa (pa (pa (pa (pa pn (VQ w).2) (Bb w).2) (vp w)) (Li w)) (ED w)) (VR w).2) (aea w)) w (lc 0 [(1,.ptr 0 0),(4,.v),(5,vI)] [(0,.cells [vI,.v] 217)] 1 (lc 2 [(1,.ptr 0 0),(4,.v),(5,vI),(6,vI)] [(0,.cells [vI,.v] 217)] 1 (lc 4 [(1,.ptr 0 0),(7,.gr 1 5),(8,vI),(9,vI)] [(0,.cells [vI,.v] 217),(1,.grow 5 307)] 2 ln)))
def Fe(w:Nat):RK 410 [.agg [vI,.v]] (vI):=rr Tryz.f410 (pa (pa pn (ED w)) (Uf w)) w
def XJ(w:Nat):Int->Value->Option (Int):=(Fe w).1
def XH(w:Nat):Int->Value->Value->Option (Int):=λa b c=>ob (ajs w c) λd=>bif !d then some 1 else bif ak a 1 then some 1 else bif ak 2 a then some 1 else au b λe=>bif aj (Int.ofNat e) 0 then some 1 else lp (α:=Value->Int->Int->Int->Int->Value->Option Int) (λ_ _ _ _ _ _=>none) (λl m n o p q r=>au r λs=>bif ak p (Int.ofNat s) then bif ak n 0 then some 1 else aA p λt=>aI 3 t r λu=>af u λv y=>af y λz a0=>af a0 λa1 a2=>ob (XL w v z a1 m n) λa3=>bif !a3 then aA n λa4=>aI 4 a4 m λa5=>af (List.drop 3 a5) λa6 a7=>ar .i64 a6 λa8=>l m a8 6 (ag .i64 (p.add 1)) q r else aA n λa9=>aI 4 a9 m λb0=>af (List.drop 3 b0) λb1 b2=>ar .i64 b1 λb3=>l m b3 o (ag .i64 (p.add 1)) q r else bif aj o 0 then ob (XJ w q r) λb4=>bif aj b4 0 then some 7 else some o else some o) w c 0 0 0 a b
theorem ad7(w:Nat):K 408 [.agg [vI,.v],.v] (vI) (XH w):=fr Tryz.f408 (pa (pa (pa pn (VP w).2) (ad9 w)) (Fe w).2) w (lc 0 [(1,.v),(2,.ptr 0 0),(5,vI),(6,vI),(7,vI)] [(0,.cells [vI,.v] 217)] 1 ln)
def Ny(a:Nat)(b:Value)(c:List Value)(d:Value->Int->Int->Int->List Value->Option (List Value))(e:Int)(f:Int)(g:Int):Option (List Value):=aI 1 a b λh=>af h λi j=>ar .u8 i λk=>bif aE c.length&&(WV k) then d b e f (ag .i64 (g.add 1)) (c++[Value.int .u8 k]) else none
def Xd(w:Nat)(a:Int)(b:Value)(c:Int):Option (List Value):=bif ak a 1 then some [] else bif ak 2 a then some [] else lp (α:=Value->Int->Int->Int->List Value->Option (List Value)) (λ_ _ _ _ _=>none) (λi j k l m n=>au j λo=>bif ak m (Int.ofNat o) then bif aj l 1 then au j λp=>au j λq=>bif aj k 0 then none else bif ak m (ag .i64 ((Int.ofNat p).sub ((Int.ofNat q).tmod k))) then bif aj k 0 then none else bif aj k 0 then none else aA (W8 m k) λr=>Ny r j n i k l m else aA m λs=>Ny s j n i k l m else aA m λt=>Ny t j n i k l m else some n) w b c a 0 []
def ajE(w:Nat):Value->Int->Int->Option (List Value):=λa b c=>ob (vP w b) λd=>bif aj d 0 then bif !aj b 8 then some [] else Xd w c a b else Xd w c a b
theorem aeh(w:Nat):KH 499 ⟨3,⟨[(0,.v),(1,vI),(2,vI)],[],0⟩,0,⟨[(0,.gr 0 1)],[(0,.grow 1 5)],1⟩⟩ (ajE w):=fh Tryz.f499 (pa pn (AO w)) w (lc 0 [(0,.v),(1,vI),(2,vI),(7,.gr 0 1),(8,vI)] [(0,.grow 1 5)] 1 ln)
def VZ(w:Nat):RH 490 ⟨2,⟨[(0,.agg [vI,vI,.v]),(1,vI)],[],0⟩,0,⟨[(0,.gr 0 1)],[(0,.grow 1 5)],1⟩⟩:=rh Tryz.f490 (ph (pa (pa pn (vp w)) (K8 w)) (aeh w)) w
def ajz(w:Nat):Int->Int->Value->Int->Option (List Value):=(VZ w).1
def XP(w:Nat):Int->Int->Int->Value->Int->Option (Int×Int×Int×Int×Bool):=λa b c d e=>bif ak a 0 then some (0,0,0,0,false) else bif ak 65535 a then some (0,0,0,0,false) else bif ak e 1 then some (0,0,0,0,false) else bif ak 2 e then some (0,0,0,0,false) else ob (BS w b c d) λf=>bif !f then some (0,0,0,0,false) else ob (ajC w b c) λg=>bif !g then some (0,0,0,0,false) else ob (ajz w b c d e) λh=>lp (α:=Int->Int->Int->Int->Value->Int->Int->Int->Int->List Value->Option (Int×Int×Int×Int×Bool)) (λ_ _ _ _ _ _ _ _ _ _=>none) (λs t u v y z a0 a1 a2 a3 a4=>bif ak (Int.ofNat (a4.length/1)) 4 then bif aE a4.length&&(aE 1&&Nat.beq 1 1) then s t u v y z a0 a1 a2 a3 (a4++[Value.int .u8 0]) else none else ob (XQ w (ae (a4.length/1) a4) 0 4 u) λa5=>some (t,v,y,a5.1,true)) w a e b c d 0 0 0 0 h
theorem aec(w:Nat):K 489 [vI,.agg [vI,vI,.v],vI] (.aH [.agg [vI,vI,vI,vI],.b]) (XP w):=fr Tryz.f489 (ph (pa (pa (pa pn (vp w)) (V2 w).2) (aef w)) (VZ w).2) w (lc 0 [(0,vI),(2,vI),(4,.ptr 0 0),(6,.ptr 1 0),(8,.gr 2 1)] [(0,.cells [vI,vI,.v] 134),(1,.cells [vI,vI,vI,vI] 385),(2,.grow 1 5)] 3 ln)
def WY(a:Int×Int×Int×Int×Bool):=(List.drop 0 [Value.int .i64 a.1,Value.int .i64 a.2.1,Value.int .i64 a.2.2.1,Value.int .i64 a.2.2.2.1])
def W9(a:Int)(b:Int):=(List.drop 0 [Value.int .i64 a,Value.int .i64 4,Value.int .i64 1,Value.int .i64 b])
def Nw(a:Int)(b:Int)(c:Int)(d:Nat):=(List.drop 0 [Value.int .i64 a,Value.int .i64 4,Value.int .i64 1,Value.int .i64 b,Value.int .i64 c,Value.int .i64 4,Value.int .i64 1,Value.int .i64 (Int.ofNat d)])
def WU(w:Nat)(a:Int)(b:List Value)(c:Value->Int->Int->Int->List Value->Option Value)(d:Value)(e:Int)(f:Int):Option (Value):=bif ak a (Int.ofNat (b.length/4)) then lp (α:=Value->Int->Int->Int->Int->Int->List Value->Option Value) (λ_ _ _ _ _ _ _=>none) (λn o p q r s t u=>bif ak t (Int.ofNat (u.length/4)) then aA t λv=>bif Nat.beq 4 4&&(v*4).blt u.length then af (List.drop (0+v*4+0) u) λy z=>ar .i64 y λa0=>aA r λa1=>bif Nat.beq 4 4&&(a1*4).blt u.length then af (List.drop (0+a1*4+0) u) λa2 a3=>ar .i64 a2 λa4=>bif ak a0 a4 then n o p q r (ag .i64 (s.add 1)) (ag .i64 (t.add 1)) u else n o p q r s (ag .i64 (t.add 1)) u else none else none else aA r λa5=>bif Nat.beq 4 4&&(a5*4).blt u.length then af (List.drop (0+a5*4) u) λa6 a7=>ar .i64 a6 λa8=>af a7 λa9 b0=>ar .i64 a9 λb1=>af b0 λb2 b3=>ar .i64 b2 λb4=>af b3 λb5 b6=>ar .i64 b5 λb7=>ob (ajA w a8 b1 b4 b7 p) λb8=>ob (BY w o (ag .i64 ((ag .i64 (q.add 2)).add (ag .i64 (Int.mul 12 s)))) b8.1) λb9=>c b9 p q (ag .i64 (r.add 1)) u else none) w d e f a 0 0 b else some d
def XO(w:Nat):Value->Value->Value->Value->Value->Int->Value->Int->Int->Int->Value->Int->Option (Value):=λa b c d e f g h i j k l=>lp (α:=Value->Value->Int->Value->Int->Int->Value->Value->Value->Value->Int->Int->Int->List Value->Option Value) (λ_ _ _ _ _ _ _ _ _ _ _ _ _ _=>none) (λa2 a3 a4 a5 a6 a7 a8 a9 b0 b1 b2 b3 b4 b5 b6=>au a9 λb7=>bif ak a8 (Int.ofNat b7) then aA a8 λb8=>aI 4 b8 a9 λb9=>af b9 λc0 c1=>ar .i64 c0 λc2=>af c1 λc3 c4=>ar .i64 c3 λc5=>af c4 λc6 c7=>ar .i64 c6 λc8=>af c7 λc9 d0=>ob (XP w c2 c5 c8 c9 a7) λd1=>bif !d1.2.2.2.2 then ob (tY w a4 3 a5 c2) λd2=>ob (ajy w c5 c8 c9 a7) λd3=>bif aj d2 d2 then ob (BY w a3 d2 d3) λd4=>bif aE b6.length&&(aE 1&&(List.take 4 (List.drop 0 [Value.int .i64 c2,Value.int .i64 c5,Value.int .i64 c8,Value.int .i64 d2])).length.beq 4) then a2 d4 a4 a5 a6 a7 (ag .i64 (a8.add 1)) a9 b0 b1 b2 b3 b4 b5 (b6++List.take 4 (List.drop 0 [Value.int .i64 c2,Value.int .i64 c5,Value.int .i64 c8,Value.int .i64 d2])) else none else none else bif aE b6.length&&(aE 1&&(List.take 4 (WY d1)).length.beq 4) then a2 a3 a4 a5 a6 a7 (ag .i64 (a8.add 1)) a9 b0 b1 b2 b3 b4 b5 (b6++List.take 4 (WY d1)) else none else lp (α:=Value->Value->Int->Value->Int->Int->Value->Value->Value->Value->Int->Int->Int->List Value->Option Value) (λ_ _ _ _ _ _ _ _ _ _ _ _ _ _=>none) (λe9 f0 f1 f2 f3 f4 f5 f6 f7 f8 f9 g0 g1 g2 g3=>au f7 λg4=>bif ak f5 (Int.ofNat g4) then aA f5 λg5=>aI 4 g5 f7 λg6=>af (List.drop 0 g6) λg7 g8=>ar .i64 g7 λg9=>aA f5 λh0=>aI 1 h0 f3 λh1=>af h1 λh2 h3=>ar .i64 h2 λh4=>ob (tY w f1 2 h4 0) λh5=>bif aE g3.length&&(aE 1&&(List.take 4 (W9 g9 h5)).length.beq 4) then e9 f0 f1 f2 f3 f4 (ag .i64 (f5.add 1)) f6 f7 f8 f9 g0 g1 g2 (g3++List.take 4 (W9 g9 h5)) else none else au f8 λh6=>bif ak 0 (Int.ofNat h6) then ob (tY w f1 4 f2 0) λh7=>ob (BY w f0 h7 f8) λh8=>au f8 λh9=>bif aE g3.length&&(aE 2&&(List.take 8 (Nw g0 h7 g1 h9)).length.beq 8) then ob (tY w f1 2 f2 0) λi0=>ob (BZ w h8 i0 (Int.ofNat ((g3++List.take 8 (Nw g0 h7 g1 h9)).length/4)) 2 f4) λi1=>lp (α:=Value->Int->Int->Int->List Value->Option Value) (λ_ _ _ _ _=>none) (λi7 i8 i9 j0 j1 j2=>WU w j1 j2 i7 i8 i9 j0) w i1 f4 i0 0 (g3++List.take 8 (Nw g0 h7 g1 h9)) else none else ob (tY w f1 2 f2 0) λj3=>ob (BZ w f0 j3 (Int.ofNat (g3.length/4)) 2 f4) λj4=>lp (α:=Value->Int->Int->Int->List Value->Option Value) (λ_ _ _ _ _=>none) (λk0 k1 k2 k3 k4 k5=>WU w k4 k5 k0 k1 k2 k3) w j4 f4 j3 0 g3) w a3 a4 a5 a6 a7 0 a9 b0 b1 b2 b3 b4 b5 b6) w a b f k l 0 c d e g h i j []
theorem aeb(w:Nat):K 471 [.v,.v,.agg [.v,.v,.v],vI,.agg [.v,vI,vI,vI],.v,vI] (.v) (XO w):=fr Tryz.f471 (pa (pa (pa (pa (pa (pa pn (Ug w)) (VY w).2) (Ff w).2) (Ms w).2) (V0 w).2) (aec w)) w (lc 0 [(0,.v),(1,.v),(3,vI),(5,.v),(6,vI),(9,.ptr 0 0),(11,.ptr 1 0),(15,.gr 2 4),(16,vI)] [(0,.cells [.v,.v,.v] 261),(1,.cells [.v,vI,vI,vI] 293),(2,.grow 4 385)] 3 (lc 2 [(0,.v),(1,.v),(3,vI),(5,.v),(6,vI),(9,.ptr 0 0),(11,.ptr 1 0),(15,.gr 2 4),(20,vI)] [(0,.cells [.v,.v,.v] 261),(1,.cells [.v,vI,vI,vI] 293),(2,.grow 4 385)] 3 (lc 4 [(0,.v),(6,vI),(15,.gr 4 4),(22,vI),(23,vI)] [(4,.grow 4 385)] 5 (lc 6 [(0,.v),(6,vI),(15,.gr 4 4),(22,vI),(23,vI),(24,vI),(25,vI)] [(4,.grow 4 385)] 5 ln))))
def ali(w:Nat)(rec:Value->Value->Value->Value->Value->Int->Value->Int->Int->Option (Value×Int)):Value->Value->Value->Value->Value->Int->Value->Int->Int->Option (Value×Int):=λa b c d e f g h i=>lp (α:=Value->Value->Int->Value->Int->Int->Int->Int->Value->Value->Value->List Value->Option (Value×Int)) (λ_ _ _ _ _ _ _ _ _ _ _ _=>none) (λv y z a0 a1 a2 a3 a4 a5 a6 a7 a8 a9=>au a7 λb0=>bif ak a5 (Int.ofNat b0) then bif aE a9.length&&(aE ([Value.int .i64 a4].length/1)&&[Value.int .i64 a4].length.beq ([Value.int .i64 a4].length/1*1)) then aA a5 λb1=>aI 4 b1 a7 λb2=>af (List.drop 1 b2) λb3 b4=>af b4 λb5 b6=>af b6 λb7 b8=>aA a2 λb9=>aI 4 b9 a1 λc0=>af (List.drop 0 c0) λc1 c2=>aA a2 λc3=>aI 4 c3 a1 λc4=>af c4 λc5 c6=>af c6 λc7 c8=>ar .i64 c7 λc9=>af c8 λd0 d1=>ar .i64 d0 λd2=>af d1 λd3 d4=>ar .i64 d3 λd5=>aA a5 λd6=>aI 4 d6 a7 λd7=>af (List.drop 0 d7) λd8 d9=>ar .i64 d8 λe0=>ob (N2 w c5 c9 d2 d5 e0) λe1=>aA e1 λe2=>aI 2 e2 c1 λe3=>af (List.drop 1 e3) λe4 e5=>ar .i64 e4 λe6=>ob (rec y z b3 b5 b7 a4 a1 e6 a3) λe7=>v e7.1 z a0 a1 a2 a3 e7.2 (ag .i64 (a5.add 1)) a6 a7 a8 (a9++[Value.int .i64 a4]) else none else aA a2 λe8=>aI 4 e8 a1 λe9=>af e9 λf0 f1=>af f1 λf2 f3=>ar .i64 f2 λf4=>af f3 λf5 f6=>ar .i64 f5 λf7=>af f6 λf8 f9=>ar .i64 f8 λg0=>ob (XO w y z a6 a7 a8 a0 f0 f4 f7 g0 (ae (a9.length/1) a9) a3) λg1=>some (g1,a4)) w a b f g h i (ag .i64 (f.add 1)) 0 c d e []
def XK(w:Nat):Value->Value->Value->Value->Value->Int->Value->Int->Int->Option (Value×Int):=lZ (iU (VT.eZ [.v,.v,.agg [.v,.v,.v],.i .i64,.v,.i .i64,.i .i64])) (ali w) w
theorem ad8(w:Nat):K 413 [.v,.v,.agg [.v,.v,.v],vI,.v,vI,vI] (.aH [.v,vI]) (XK w):=Aj (λrec h=>fr Tryz.f413 (pa (pa (pa pn (Lj w)) (aeb w)) h) w (lc 0 [(0,.v),(1,.v),(3,vI),(4,.v),(5,vI),(6,vI),(9,.ptr 0 0),(16,vI),(17,.gr 1 1),(18,vI)] [(0,.cells [.v,.v,.v] 261),(1,.grow 1 3)] 2 ln)) w
def Xe(w:Nat)(a:Value)(b:Int)(c:Value)(d:Value×Bool)(e:Value):Option (Value×Int):=ob (BZ w a 2 42 2 b) λf=>ob (BZ w f 4 8 4 b) λg=>lp (α:=Value->Value->Value->Int->Int->Int->Int->Value->Option (Value×Int)) (λ_ _ _ _ _ _ _ _=>none) (λp q r s t u v y z=>au z λa0=>bif ak v (Int.ofNat a0) then aA v λa1=>aI 3 a1 z λa2=>af a2 λa3 a4=>af a4 λa5 a6=>af a6 λa7 a8=>ob (XK w s r a3 a5 a7 t q u y) λa9=>au z λb0=>bif ak (ag .i64 (v.add 1)) (Int.ofNat b0) then ob (tY w r 2 t 0) λb1=>aA v λb2=>aI 3 b2 z λb3=>af b3 λb4 b5=>af b5 λb6 b7=>af b7 λb8 b9=>ob (B1 w b4 b6 b8) λc0=>ob (tY w r 2 a9.2 0) λc1=>ob (BZ w a9.1 (ag .i64 ((ag .i64 (b1.add 2)).add (ag .i64 (Int.mul 12 c0)))) c1 4 y) λc2=>aA u λc3=>aI 4 c3 q λc4=>af (List.drop 3 c4) λc5 c6=>ar .i64 c5 λc7=>p q r c2 a9.2 c7 (ag .i64 (v.add 1)) y z else aA u λc8=>aI 4 c8 q λc9=>af (List.drop 3 c9) λd0 d1=>ar .i64 d0 λd2=>p q r a9.1 a9.2 d2 (ag .i64 (v.add 1)) y z else some (s,0)) w c d.1 g 0 0 0 b e
def ajq(w:Nat):Int->Value->Value->Option (Value×Int):=λa b c=>ob (XH w a b c) λd=>bif !aj d 0 then some (ae 0 [],d) else ob (XI w a b) λe=>ob (XJ w a b) λf=>aA f λg=>aA f λh=>bif Nat.blt 0 1&&Nat.beq 1 1&&Nat.ble 1 10000&&(g.ble h&&h.ble 1000000000) then bif aj a 2 then ob (BY w (ae g (List.drop 0 (rep h (Value.int .u8 0).cells.toList))) 0 (ae 2 (List.drop 0 [Value.int .u8 77,Value.int .u8 77]))) λi=>Xe w i a c e b else ob (BY w (ae g (List.drop 0 (rep h (Value.int .u8 0).cells.toList))) 0 (ae 2 (List.drop 0 [Value.int .u8 73,Value.int .u8 73]))) λj=>Xe w j a c e b else none
theorem Ud(w:Nat):K 347 [.agg [vI,.v],.v] (.aH [.v,vI]) (ajq w):=fr Tryz.f347 (pa (pa (pa (pa (pa (pa (pa (pa pn (ad7 w)) (Uf w)) (Fe w).2) (Ff w).2) (Ms w).2) (Ug w)) (Bb w).2) (ad8 w)) w (lc 0 [(1,.v),(2,.ptr 0 0),(7,.v),(9,.v),(11,vI),(12,vI),(13,vI)] [(0,.cells [vI,.v] 217)] 4 ln)
def Mr(w:Nat):RK 275 [.agg [vI,.v],.v] (.aH [.v,vI]):=rr Tryz.f275 (pa pn (Ud w)) w
def ajj(w:Nat):Int->Value->Value->Option (Value×Int):=(Mr w).1
def ahi(w:Nat):RK 351 [] (.v):=rr Tryz.f351 pn w
def ahb(w:Nat):RK 277 [.v] (.aH [.v,vI]):=rr Tryz.f277 (pa (pa pn (VM w).2) (ahi w).2) w (lc 0 [(0,.v),(4,vI),(5,.gr 0 1),(6,vI)] [(0,.grow 1 26)] 1 ln)
def ahc(w:Nat):RK 279 [.v] (.b):=rr Tryz.f279 pn w
def VK(w:Nat):RK 280 [.v] (.aH [.v,vI,vI,vI]):=rr Tryz.f280 (pa (pa pn (ahl w).2) (ahm w).2) w (lc 0 [(0,.v),(6,.gr 0 3),(7,vI)] [(0,.grow 3 185)] 1 ln) (λn=>cond (Nat.ble 400000 n) (Nat.blt n 500000) false)
def ahj(w:Nat):RK 352 [.v] (.aH [.v,vI]):=rr Tryz.f352 (pa pn (VK w).2) w (lc 0 [(0,.v),(4,.v),(5,vI),(8,vI),(9,vI)] [] 0 ln)
def VJ(w:Nat):RK 278 [.v] (.b):=rr Tryz.f278 (pa (pa pn (ahk w).2) (ahj w).2) w
def aho(w:Nat):RK 405 [vI,.v] (.aH [.v,vI]):=rr Tryz.f405 (pa (pa pn (Ba w).2) (Mr w).2) w
def Gz(E:Value->Value->Option (Value)->Option (Value))(w:Nat):Value->Option (Value):=λa=>lp (α:=Value->Int->List Value->Option Value) (λ_ _ _=>none) (λe f g h=>au f λi=>bif ak g (Int.ofNat i) then aA g λj=>aI 3 j f λk=>af k λl m=>ar .i64 l λn=>af m λo p=>af p λq r=>bif aE h.length&&(aE 2&&(List.take 2 (List.drop 0 [Value.int .u8 255,Value.int .u8 (ag .u8 n)])).length.beq 2) then bif aj g 0 then e f (ag .i64 (g.add 1)) (h++List.take 2 (List.drop 0 [Value.int .u8 255,Value.int .u8 (ag .u8 n)])) else au f λs=>bif aj g (ag .i64 ((Int.ofNat s).sub 1)) then e f (ag .i64 (g.add 1)) (h++List.take 2 (List.drop 0 [Value.int .u8 255,Value.int .u8 (ag .u8 n)])) else au o λt=>bif aE (h++List.take 2 (List.drop 0 [Value.int .u8 255,Value.int .u8 (ag .u8 n)])).length&&(aE 2&&(List.take 2 (List.drop 0 [Value.int .u8 (ag .u8 (ag .i64 ((ag .i64 ((Int.ofNat t).add 2)).tdiv 256))),Value.int .u8 (ag .u8 ((ag .i64 ((Int.ofNat t).add 2)).tmod 256))])).length.beq 2) then ed 1 o λu v=>bif aE (h++List.take 2 (List.drop 0 [Value.int .u8 255,Value.int .u8 (ag .u8 n)])++List.take 2 (List.drop 0 [Value.int .u8 (ag .u8 (ag .i64 ((ag .i64 ((Int.ofNat t).add 2)).tdiv 256))),Value.int .u8 (ag .u8 ((ag .i64 ((Int.ofNat t).add 2)).tmod 256))])).length&&(aE u&&v.length.beq (u*1)) then E q q (ed 1 q λy z=>bif aE (h++List.take 2 (List.drop 0 [Value.int .u8 255,Value.int .u8 (ag .u8 n)])++List.take 2 (List.drop 0 [Value.int .u8 (ag .u8 (ag .i64 ((ag .i64 ((Int.ofNat t).add 2)).tdiv 256))),Value.int .u8 (ag .u8 ((ag .i64 ((Int.ofNat t).add 2)).tmod 256))])++v).length&&(aE y&&z.length.beq (y*1)) then e f (ag .i64 (g.add 1)) (h++List.take 2 (List.drop 0 [Value.int .u8 255,Value.int .u8 (ag .u8 n)])++List.take 2 (List.drop 0 [Value.int .u8 (ag .u8 (ag .i64 ((ag .i64 ((Int.ofNat t).add 2)).tdiv 256))),Value.int .u8 (ag .u8 ((ag .i64 ((Int.ofNat t).add 2)).tmod 256))])++v++z) else none) else none else none else none else some (ae (h.length/1) h)) w a 0 []
def NX(w:Nat):Value->Option (Value):=Gz (λ_ _ r=>r) w
theorem ad0(w:Nat):cL Tryz.prog 281 [.v] (.v) (NX w):=by
 have k:K 281 [.v] (.v) (Gz kU w):=fr Tryz.f281 pn w (lc 0 [(0,.v),(3,.gr 0 1),(4,vI)] [(0,.grow 1 5)] 1 ln) (λn=>Nat.beq n 200010);have e:Gz kU w=NX w:=by unfold NX Gz;simp only[xf]
 rw[<-e];exact k
def Gr(E:Value->Value->Option (Value×Int)->Option (Value×Int))(w:Nat):Int->Value->Value->Option (Value×Int):=λa b c=>bif ak a 1 then some (ae 0 [],1) else bif ak 2 a then some (ae 0 [],1) else au b λd=>bif ak (Int.ofNat d) 2 then some (ae 0 [],1) else lp (α:=Int->Int->Value->Value->List Value->Option (Value×Int)) (λ_ _ _ _ _=>none) (λj k l m n o=>au m λp=>bif ak k (Int.ofNat p) then aA k λq=>aI 5 q m λr=>af r λs t=>ar .i64 s λu=>af t λv y=>ar .i64 v λz=>af y λa0 a1=>ar .i64 a0 λa2=>af a1 λa3 a4=>ar .i64 a3 λa5=>af a4 λa6 a7=>ar .i64 a6 λa8=>ob (XB w u z a2 a5 a8 l) λa9=>bif !a9.2 then some (ae 0 [],1) else ed 1 a9.1 λb0 b1=>bif aE o.length&&(aE b0&&b1.length.beq (b0*1)) then j (ag .i64 (k.add 1)) l m n (o++b1) else none else ob (aji w 5 n) λb2=>bif !b2 then some (ae 0 [],6) else au m λb3=>bif ak 4096 (Int.ofNat b3) then some (ae 0 [],7) else au m λb4=>ob (OJ w 4 (ae ([Value.int .i64 (Int.ofNat b4)].length/1) [Value.int .i64 (Int.ofNat b4)])) λb5=>ob (XC w 45056 (ae 4 (List.drop 0 [Value.int .u8 48,Value.int .u8 49,Value.int .u8 48,Value.int .u8 48]))) λb6=>bif aj b5.1 b5.1 then bif aj b5.2.1 b5.2.1 then E b5.2.2.1 b5.2.2.1 (bif aj l l then ob (XC w 45058 (ae (o.length/1) o)) λb7=>bif aj b5.1 b5.1 then bif aj b5.2.1 b5.2.1 then E b5.2.2.1 b5.2.2.1 (bif aj l l then au n λb8=>bif ak 0 (Int.ofNat b8) then none else ob (ajj w l (ae 1 [ae 3 (List.drop 0 [Value.int .i64 b6.1,Value.int .i64 b6.2.1,Value.int .i64 b6.2.2.1,b6.2.2.2,Value.int .i64 45057,Value.int .i64 b5.1,Value.int .i64 b5.2.1,b5.2.2.1,Value.int .i64 b7.1,Value.int .i64 b7.2.1,Value.int .i64 b7.2.2.1,b7.2.2.2]),ae 0 [],ae 0 []]) (ae 2 (List.drop 0 [ae 0 [],Value.int .i64 0,Value.int .i64 0,Value.int .i64 1,ae 0 [],Value.int .i64 0,Value.int .i64 0,Value.int .i64 (-1)]))) λb9=>some (b9.1,b9.2) else none) else none else none else none) else none else none) w 0 a b c []
def NQ(w:Nat):Int->Value->Value->Option (Value×Int):=Gr (λ_ _ r=>r) w
theorem T9(w:Nat):cL Tryz.prog 203 [.agg [.i .i64,.v,.v]] (.aH [.v,.i .i64]) (NQ w):=by
 have k:K 203 [.agg [vI,.v,.v]] (.aH [.v,vI]) (Gr kU w):=fr Tryz.f203 (pa (pa (pa (pa (pa pn (adY w)) (Ba w).2) (UF w)) (VI w).2) (Mr w).2) w (lc 0 [(1,.ptr 0 0),(4,.gr 1 1),(5,vI)] [(0,.cells [vI,.v,.v] 103),(1,.grow 1 5)] 2 ln) (λn=>cond (Nat.beq n 200016) true (Nat.beq n 600016));have e:Gr kU w=NQ w:=by unfold NQ Gr;simp only[xf]
 rw[<-e];exact k
def VL(w:Nat):RK 344 [.agg [.v],vI] (.aH [.v,vI]):=rr Tryz.f344 (pa (pa pn (aho w).2) (T9 w)) w (lc 0 [(2,.ptr 0 0),(7,.ptr 2 0),(8,vI)] [(0,.cells [.v] 24),(2,.cells [vI,.gr 3 5,.v] 103),(3,.grow 5 97)] 4 ln)
def aha(w:Nat):RK 210 [.agg [vI,vI,.v]] (.agg [vI,vI,.v]):=rr Tryz.f210 (pa pn (Ml w).2) w
def Mn(w:Nat):RK 148 [.v] (.v):=rr Tryz.f148 (pa pn (aha w).2) w (lc 0 [(0,.v),(3,.gr 0 4),(4,vI)] [(0,.grow 4 136)] 1 ln)
def ajb(w:Nat):Value->Option (Value):=(Mn w).1
def ahy(w:Nat):RK 473 [.v,.agg [vI,vI,vI,.v]] (.v):=rr Tryz.f473 (pa pn (Mn w).2) w (lc 0 [(0,.v),(3,.ptr 0 0),(5,.gr 1 4),(6,vI)] [(0,.cells [vI,vI,vI,.v] 136),(1,.grow 4 136)] 2 (lc 2 [(0,.v),(3,.ptr 0 0),(5,.gr 3 4),(7,vI)] [(0,.cells [vI,vI,vI,.v] 136),(3,.grow 4 136)] 4 ln))
def aln(w:Nat)(rec:Value->Value->Value->Option (Value×Value×Value)):Value->Value->Value->Option (Value×Value×Value):=λa b c=>ob (ajb w a) λd=>ob (aiL w c) λe=>lp (α:=Int->Value->Value->Value->Value->Value->List Value->List Value->List Value->List Value->Option (Value×Value×Value)) (λ_ _ _ _ _ _ _ _ _ _=>none) (λp q r s t u v y z a0 a1=>au s λa2=>bif ak q (Int.ofNat a2) then aA q λa3=>aI 4 a3 s λa4=>af (List.drop 0 a4) λa5 a6=>ar .i64 a5 λa7=>aA q λa8=>aI 4 a8 s λa9=>af (List.drop 1 a9) λb0 b1=>af b1 λb2 b3=>af b3 λb4 b5=>ob (rec b0 b2 b4) λb6=>bif aE a1.length&&(aE 1&&(List.take 4 (List.drop 0 [Value.int .i64 a7,b6.1,b6.2.1,b6.2.2])).length.beq 4) then p (ag .i64 (q.add 1)) r s t u v y z a0 (a1++List.take 4 (List.drop 0 [Value.int .i64 a7,b6.1,b6.2.1,b6.2.2])) else none else some (u,ae (a1.length/4) a1,v)) w 0 a b c d e [] [] [] []
def ajB(w:Nat):Value->Value->Value->Option (Value×Value×Value):=lZ (iU (VT.eZ [.agg [.v,.v,.v]])) (aln w) w
theorem aee(w:Nat):K 492 [.agg [.v,.v,.v]] (.agg [.v,.v,.v]) (ajB w):=Aj (λrec h=>fr Tryz.f492 (pa (pa (pa pn (Mn w).2) (Ml w).2) h) w (lc 0 [(1,.ptr 0 0),(2,.ptr 1 0),(3,.ptr 2 0),(4,vI)] [(0,.cells [.v,.v,.v] 261),(1,.cells [.gr 3 4,.gr 4 4,.gr 5 1] 261),(2,.cells [.v,.gr 6 4,.v] 261),(3,.grow 4 136),(4,.grow 4 346),(5,.grow 1 5),(6,.grow 4 346)] 7 ln)) w
def ahz(w:Nat):RK 474 [.agg [vI,.v]] (.agg [vI,.v]):=rr Tryz.f474 (pa pn (aee w)) w (lc 0 [(1,.ptr 0 0),(2,.ptr 1 0),(3,.ptr 2 0),(4,vI)] [(0,.cells [vI,.v] 217),(1,.cells [vI,.gr 3 3] 217),(2,.cells [vI,.gr 4 3] 217),(3,.grow 3 261),(4,.grow 3 261)] 5 ln)
def VN(w:Nat):RK 416 [.agg [vI,.v,.v,.v,.v,.v,.v,.v]] (.aH [.agg [vI,.v],vI]):=rr Tryz.f416 (pa (pa (pa pn (ahx w).2) (ahy w).2) (ahz w).2) w
def ahg(w:Nat):RK 348 [.agg [vI,.v,.v,.v,.v,.v,.v,.v]] (.aH [vI,vI]):=rr Tryz.f348 (pa (pa pn (Fe w).2) (VN w).2) w
def ahh(w:Nat):RK 349 [.agg [vI,.v,.v,.v,.v,.v,.v,.v]] (.aH [.v,vI]):=rr Tryz.f349 (pa (pa (pa pn (VN w).2) (ahr w).2) (Ud w)) w
def Fc(w:Nat):RK 276 [.agg [vI,.v,.v,.v,.v,.v,.v,.v]] (.aH [.v,vI]):=rr Tryz.f276 (pa (pa pn (ahg w).2) (ahh w).2) w
def ahn(w:Nat):RK 404 [.agg [vI,.v,.v,.v,.v,.v,.v,.v,.v,.v,vI,vI,vI,.v],vI] (.b):=rr Tryz.f404 (pa (pa (pa (pa (pa pn (VM w).2) (VJ w).2) (aht w).2) (Ba w).2) (Fc w).2) w
def VH(w:Nat):RK 204 [.agg [vI,.v,.v,.v,.v,.v,.v,.v,.v,.v,.v,vI,vI]] (.aH [.v,vI]):=rr Tryz.f204 (pa (pa (pa (pa (pa (pa pn (Fc w).2) (ahb w).2) (VJ w).2) (ahc w).2) (VK w).2) (ad0 w)) w (lc 0 [(6,.v),(7,.v),(11,.gr 4 3),(12,vI)] [(4,.grow 3 185)] 5 ln) (λn=>Nat.beq n 500014)
def Mq(w:Nat):RK 271 [.agg [.v],vI] (.agg [vI,.v,.v,.v,.v,.v,.v,.v,.v,.v,.v,vI,vI]):=rr Tryz.f271 (pa (pa (pa pn (VL w).2) (Fc w).2) (VH w).2) w
def ahd(w:Nat):RK 343 [.agg [.v]] (.aH [vI,vI]):=rr Tryz.f343 (pa (pa (pa pn (VL w).2) (ahn w).2) (Mq w).2) w (lc 0 [(1,.ptr 0 0),(4,vI),(5,vI)] [(0,.cells [.v] 24)] 1 (lc 2 [(1,.ptr 0 0),(4,vI),(5,vI),(6,vI)] [(0,.cells [.v] 24)] 1 (lc 4 [(1,.ptr 0 0),(4,vI),(8,vI),(9,vI)] [(0,.cells [.v] 24)] 2 ln)))
def Mo(w:Nat):RK 270 [.agg [.v]] (vI):=rr Tryz.f270 (pa (pa pn (ahd w).2) (Fc w).2) w
def ag8(w:Nat):RK 202 [.agg [.v]] (.v):=rr Tryz.f202 (pa (pa pn (Mo w).2) (Mq w).2) w (lc 0 [(1,.ptr 0 0),(3,.gr 1 13),(4,vI)] [(0,.cells [.v] 24),(1,.grow 13 56)] 2 ln)
def ag7(w:Nat):RK 201 [.agg [.v]] (.aH [.v,vI]):=rr Tryz.f201 (pa (pa pn (Mo w).2) (ag8 w).2) w (lc 0 [(1,.ptr 0 0),(5,.v),(6,.gr 1 5),(7,vI),(8,vI)] [(0,.cells [.v] 24),(1,.grow 5 97)] 2 ln)
def ag9(w:Nat):RH 202 ⟨1,⟨[(0,.agg [.v])],[],0⟩,0,⟨[(0,.gr 0 13)],[(0,.grow 13 56)],1⟩⟩:=rh Tryz.f202 (pa (pa pn (Mo w).2) (Mq w).2) w (lc 0 [(1,.ptr 0 0),(3,.gr 1 13),(4,vI)] [(0,.cells [.v] 24),(1,.grow 13 56)] 2 ln)
def ag5(w:Nat):RK 136 [.agg [.v]] (.aH [.v,vI]):=rr Tryz.f136 (pa (ph (pa (pa pn (T9 w)) (ag7 w).2) (ag9 w).2) (VH w).2) w (lc 0 [(1,.ptr 0 0),(4,.v),(6,.gr 1 13),(7,.gr 2 1),(8,vI)] [(0,.cells [.v] 24),(1,.grow 13 56),(2,.grow 1 26)] 3 ln)
def VF(w:Nat):RK 70 [.agg [.v]] (.aH [.v,vI]):=rr Tryz.f70 (pa pn (ag5 w).2) w (lc 0 [(4,.v),(5,vI),(6,.gr 1 1),(7,vI)] [(1,.grow 1 5)] 2 ln)
def ym(w:Nat):Value->Option (Value×Int):=(VF w).1
end
noncomputable section
def ag4(w:Nat):RK 135 [.v] (.aH [vI,.b]):=rr Tryz.f135 (pa (pa (pa pn (AQ w)) (LA w)) (Ly w)) w (lc 0 [(25,.v),(26,vI),(27,vI)] [] 2 ln)
def ag0(w:Nat):RK 68 [.v,vI,.agg [vI,vI,vI,vI,vI]] (.aH [.v,.b]):=rr Tryz.f68 (pa (pa (pa pn (AQ w)) (Uh w)) (ag4 w).2) w
def Mm(w:Nat):RK 97 [.v,vI] (.aH [vI,.b]):=rr Tryz.f97 (pa pn (EN w)) w
def ai2(w:Nat):Value->Int->Option (Int×Bool):=(Mm w).1
def aiH(w:Nat):Value->Option (Value×Int):=findF w (ai2 w)
theorem adf(w:Nat):cL Tryz.prog 23 [.v] (.aH [.v,.i .i64]) (aiH w):=aaZ w (Mm w).2
def agZ(w:Nat):RK 25 [.v] (.aH [.v,vI]):=rr Tryz.f25 (pa (pa (pa (pa (pa pn (adf w)) (Lq w)) (AQ w)) (TZ w)) (ag0 w).2) w (lc 0 [(0,.v),(4,.v),(6,.ptr 0 0),(7,.ptr 1 0),(8,.gr 2 1),(43,vI),(44,vI)] [(0,.cells [vI,.v,.v,.v,.v,.v,.v,.v,.v,.v,.v,vI,vI] 56),(1,.cells [vI,.v,.v] 103),(2,.grow 1 3)] 3 (lc 2 [(0,.v),(6,.ptr 0 0),(11,.b),(12,.v),(73,.v),(74,vI),(75,vI)] [(0,.cells [vI,.v,.v,.v,.v,.v,.v,.v,.v,.v,.v,vI,vI] 56)] 3 ln))
end
end Lt
end Go.Proofs.YtcfjfbeadhnknaaGreatDoor

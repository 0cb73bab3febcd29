/- Proved: tintypelaw30.LimitsEach returns true for every row of members. Conditions: the package-level variables of the library that the row lists start as the program lays them (the card ties them). -/
import Derived.Test.YtfdojmichbgpiaaGreatDoorCards
import Derived.Test.YtfdojmichbgpiaaGreatDoorTie
import Derived.Deep.DeepHandedRow
import Derived.Deep.DeepWitnessRowRef
import Derived.Lib.LaidTab
import Derived.LaidMore
import Derived.MakeChecks
import Derived.Lib.SmallJoins
import Derived.Test.YtfdojmichbgpiaaGreatDoorRows
import Derived.Test.YtfdojmichbgpiaaGreatDoorQM
namespace Go.Proofs.YtfdojmichbgpiaaGreatDoor
namespace Lt
section
set_option maxRecDepth 100000
def kQ(ms:List bT):List gB:=ms.map λp=>⟨p.attr,0,0,p.fV,p.fW⟩
def kR(ms:List bT)(i:Nat):Except Int (List UInt8):=
 match ms[i]? with
 |none=>.ok []
 |some p=>if i=0 then(if 1<ms.length then mT p.aS.order (kQ ms) p.view else .ok []) else if p.view.length=0 then .ok [] else Am p.aS.order p.view
variable{ms:List bT} {w:Nat}
theorem afx(W:eW w)(hl:ms.length<=600)(o:Int){view:List aI}(hv:VS view):
 lp Vp (Gi w) w (cO ms) ms.length 0 o (az view) []=some (match mT o (kQ ms) view with| .ok b=>(aj b,0)| .error e=>(ae 0 [],e)):=by
 have hb:=W.jP;refine lD (ev:=λi (k:DF)=>k (cO ms) ms.length i o (az view) ((kQ (ms.take i)).flatMap nc)) ms.length ?_ ?_ (by omega)
 ·intro i g hi;have e1:((i:Int)<(ms.length:Int)):=by omega
  have r1:aK ((kQ (ms.take i)).flatMap nc).length=true:=by rw[eJ BX];unfold kQ;simp;omega
  unfold Gi Gu;simp only[bc,e1,ct];rw[show cO ms=aC dP ms from rfl,bW kN hi,r1,cR,aN (by omega) (by omega)];have hp:(kQ (ms.take (i+1))).flatMap nc=(kQ (ms.take i)).flatMap nc++[Value.int IntKind.i64 ms[i].attr,Value.int IntKind.i64 0,Value.int IntKind.i64 0,Value.int IntKind.i64 ms[i].fV,Value.int IntKind.i64 ms[i].fW]:=by unfold kQ;rw[nB hi,jZ,gq];rfl
  rw[hp];rfl
 ·intro g;unfold Gi Gu;simp only[bc,(show¬((ms.length:Int)<(ms.length:Int)) from by omega)];rw[rG,eJ BX,lP _ (by decide)];have:=ahu W o (l:=kQ ms) (by unfold kQ;rw[eD];exact hl) hv;rw[show ae (kQ ms).length ((kQ ms).flatMap nc)=ng (kQ ms) from rfl,this];rfl
variable{i:Nat}
theorem We(W:eW w)(h:∀p∈ms,er p)(hl:ms.length<=600)(hi:i<ms.length):HZ w (cO ms) (i:Int)=some (match kR ms i with| .ok b=>(aj b,0)| .error e=>(ae 0 [],e)):=by
 have hm:=h _ (dL hi);have hlr:∀K:Nat->Option (Value×Int),ax (cO ms) K=K ms.length:=λK=>dw dP ms K;have hlv:∀K:Nat->Option (Value×Int),ax (az ms[i].view) K=K ms[i].view.length:=λK=>dw cx _ K;unfold HZ kR MV;rw[dD hi,ct,show cO ms=aC dP ms from rfl,bW kN hi,na];simp only[bN,cH];rw[show aC dP ms=cO ms from rfl];by_cases h0:i=0
 ·rw[ar h0,show ak (i:Int) 0=true by rw[cD,bV];omega,hlr];by_cases h1:1<ms.length
  ·rw[ar h1,show aq 1 (Int.ofNat ms.length)=true by rw[bc,bV,cu];omega,hlr];exact afx W hl _ hm.vs
  ·rw[ai h1,show aq 1 (Int.ofNat ms.length)=false by rw[bc,fI,cu];omega];rfl
 ·rw[ai h0,show ak (i:Int) 0=false by rw[cD,fI];omega,hlv];by_cases h1:ms[i].view.length=0
  ·rw[h1];rfl
  ·rw[ai h1,show ak (Int.ofNat ms[i].view.length) 0=false by rw[cD,fI,cu];omega,ahv W _ hm.vs];rfl
variable{b:List UInt8}
theorem MF(h:kR ms i=.ok b)(hm:∀p∈ms,er p)(_:ms.length<=600):b.length=0\/(ko.isPrefixOf b=true/\b.length<=65533):=by
 unfold kR at h;split at h
 ·injection h with h;subst h;exact .inl rfl
 rename_i p hp;have hmp:=hm p (qv hp);split at h
 ·split at h
  ·right;obtain⟨r,hb,-,-,-,hbl⟩:=aac h (by have:=hmp.tv.1;omega);exact⟨by rw[hb,uW];exact List.prefix_append _ _,hbl⟩
  ·injection h with h;subst h;exact .inl rfl
 ·split at h
  ·injection h with h;subst h;exact .inl rfl
  ·right;rename_i h0;unfold Am at h;split at h
   ·cases h
   split at h
   ·cases h
   rename_i hr;split at h
   ·cases h
   injection h with h;have hlen:=Ah (Xu (o:=p.aS.order) (by simpa using hr) h0 (by have:=hmp.tv.1;omega));rw[<-h];refine⟨by rw[uW];exact List.prefix_append _ _,?_⟩;rw[aR];have:ko.length=4:=rfl;omega
def nZ(p:bT)(dN:List UInt8):qy:=⟨p.aS,p.cV,p.core,dN,0,0⟩
variable{bC:List UInt8}
theorem RP(hi:i<ms.length)(h:kR ms i=.ok b)(hm:∀p∈ms,er p)(hl:ms.length<=600)(ha:iy ms[i].aS=.ok bC)(hc:nW ms[i].core=true):Dn (nZ ms[i] b) bC:=by have hmp:=hm _ (dL hi);refine⟨ha,?_,by have:=hmp.ic;show ms[i].cV.length<=_;omega,hc,MF h hm hl⟩;have:=hmp.Bn.rows;show qX ms[i].aS 65000;unfold qX at this⊢;omega
def PZ(bC b:List UInt8):Int:=if b.length=0 then 0 else((bC.length+10:Nat):Int)
theorem Wb(W:eW w)(hw:1000000<w)(hi:i<ms.length)(h:kR ms i=.ok b)(hm:∀p∈ms,er p)(hl:ms.length<=600)(ha:iy ms[i].aS=.ok bC)(hc:nW ms[i].core=true):
 wX w (cO ms) (i:Int)=some (ms[i].aS.order,az ms[i].aS.cP,az ms[i].aS.bR,az ms[i].aS.bZ,az ms[i].aS.bp,az ms[i].aS.first,aj ms[i].aS.bQ,aj ms[i].aS.dq,aj ms[i].cV,aj ms[i].core,aj b,PZ bC b,((jB (nZ ms[i] b) bC).length:Int),true):=by
 have hmp:=hm _ (dL hi);have hok:=RP hi h hm hl ha hc;have hic:=hmp.ic;have hco:=hmp.co;have hbl:b.length<=65533:=by rcases MF h hm hl with q|q;omega;exact q.2
 unfold wX;rw[We W hm hl hi,h];simp only[aA];rw[ct,show cO ms=aC dP ms from rfl,bW kN hi,na];simp;rw[(show CB w ms[i].aS.order (az ms[i].aS.cP) (az ms[i].aS.bR) (az ms[i].aS.bZ) (az ms[i].aS.bp) (az ms[i].aS.first) (aj ms[i].aS.bQ) (aj ms[i].aS.dq) (aj ms[i].cV) (aj ms[i].core) (aj b) 0 0=some (aj (jB (nZ ms[i] b) bC),0) from(agx W hok hmp.Bn (by omega) ⟨by show ms[i].core.length<=_;omega,by show ms[i].cV.length<=_;omega,hbl⟩ (by omega) 0 0))];simp;rw[(agC W hok hmp.Bn (by omega) ⟨by show ms[i].core.length<=_;omega,by show ms[i].cV.length<=_;omega,hbl⟩ (by omega))];rfl
variable{e:Int}
theorem ag5(W:eW w)(hi:i<ms.length)(h:kR ms i=.error e)(he:e≠0)(hm:∀p∈ms,er p)(hl:ms.length<=600):
 wX w (cO ms) (i:Int)=some (0,ae 0 [],ae 0 [],ae 0 [],ae 0 [],ae 0 [],ae 0 [],ae 0 [],ae 0 [],ae 0 [],ae 0 [],0,0,false):=by
 unfold wX;rw[We W hm hl hi];simp_all
theorem afy(h:kR ms i=.error e):e≠0:=by
 unfold kR at h;split at h
 ·cases h
 split at h
 ·split at h
  ·unfold mT at h
   repeat' split at h
   all_goals(cases h<;>decide)
  ·cases h
 ·split at h
  ·cases h
  ·unfold Am at h
   repeat' split at h
   all_goals(cases h<;>decide)
def cS(l:List Int):List Value:=l.map λn:Int=>.int .i64 n
theorem VR(n:Int)(st:List Int)(s:Int)(hn:1<=n/\n<=10000000)(hs:0<=s/\s<=4000000000)(hl:st.length<10000):zA w n (cS (st++[s]))=some (false,cS (st++[s]++[s+n])):=by
 have hdrop:List.drop (0+st.length*1) (cS (st++[s]))=[Value.int .i64 s]:=by unfold cS;rw[jZ,List.drop_left' (by simp)];rfl
 unfold zA;rw[(show(cS (st++[s])).length=st.length+1 from by unfold cS;simp),mE,iV,cu,aN (by omega) (by omega),show((st.length+1:Nat):Int) -1=(st.length:Int) by omega,ct,hdrop];simp;rw[VU,ar ⟨by unfold lH;rw[bV];omega,by unfold lH;rw[bV];omega,by unfold lH;rw[bV];omega⟩];have r1:aK (st.length+1)=true:=by simp;omega
 have hap:cS (st++[s])++[Value.int IntKind.i64 (s+n)]=cS (st++[s]++[s+n]):=by unfold cS;simp
 simp_all
theorem ahT(L:List Int)(hL:∀n∈L,1<=n/\n<=3000000)(hl:L.length<=1000)(hw:2000<w):∃st:List Value,lp rn (fa w) w L.length 0 (cS L) (cS [0])=some (-1,cS L,st):=by
 have key:∀(k i v:Nat)(st:List Int)(s:Int),i+k=L.length->k<v->st.length=i->0<=s/\s<=3000000*i->∃st':List Value,lp rn (fa w) v L.length i (cS L) (cS (st++[s]))=some (-1,cS L,st'):=by
  intro k;induction k with
  |zero=>
   intro i v st s hi hv _ _;have e1:¬((i:Int)<(L.length:Int)):=by omega
   rw[ef rn (fa w) (by omega)];unfold fa;simp only[bc,e1,cy,aE];exact⟨_,rfl⟩
  |succ k ih=>
   intro i v st s hi hv hst hs;have hiL:i<L.length:=by omega
   have e1:((i:Int)<(L.length:Int)):=by omega
   have hn:=hL _ (dL hiL);obtain⟨st',hst'⟩:=ih (i+1) (v -1) (st++[s]) (s+L[i]) (by omega) (by omega) (by rw[aR,hst];rfl) (by omega);refine⟨st',?_⟩;rw[ef rn (fa w) (by omega),<-hst'];have hlen:(cS L).length=L.length:=by unfold cS;rw[eD]
   have hdrop:List.drop (0+i*1) (cS L)=.int .i64 L[i]::cS (L.drop (i+1)):=by unfold cS;rw[fg,gM,<-List.map_drop,dG hiL,List.map_cons]
   have e2:i*1<L.length:=by omega
   unfold fa;simp only[bc,e1,bn,ay,ct];rw[hlen];simp only[lU,e2,bn,gY];rw[hdrop];simp only[bN,cH];rw[VR _ st s ⟨hn.1,by omega⟩ ⟨hs.1,by omega⟩ (by omega)];simp only[aA,aE,cR];rw[aN (by omega) (by omega)];rfl
 exact key L.length 0 w [] 0 (by omega) (by omega) rfl ⟨by omega,by omega⟩
theorem af0(L:List Int)(hL:∀n∈L,1<=n/\n<=3000000)(hl:L.length<=1000)(hw:2000<w):∃st:List Value,uH w (cS L)=some (true,cS L,st):=by
 obtain⟨st,h⟩:=ahT L hL hl hw;refine⟨st,?_⟩;have h2:zJ w (cS L) [Value.int .i64 0]=some (-1,cS L,st):=by unfold zJ;rw[(show(cS L).length=L.length from by unfold cS;rw[eD]),mE];exact h
 unfold uH G2;simp_all
end
section
set_option maxRecDepth 100000
def JN(ms:List bT)(i:Nat):Bool:=match kR ms i with| .ok _=>false| .error _=>true
def qY(ms:List bT):Nat->Nat->Int
 |0,_=>-1
 |k+1,i=>if JN ms i=true then(i:Int) else qY ms k (i+1)
theorem Z7(x:qy)(bC:List UInt8):1<=(jB x bC).length:=by unfold jB mc;rw[pf,aR];have:(dF ⟨216,[],[]⟩).length=2:=rfl;omega
variable{i:Nat} {ms:List bT}
theorem PU(h:∀p∈ms,jt p=false)(hi:i<ms.length):∃bC,iy ms[i].aS=.ok bC:=by
 have:=h _ (dL hi);unfold jt at this;cases he:iy ms[i].aS with
 |ok b=>simp
 |error e=>grind
theorem aaa(hi:i<ms.length){b bC:List UInt8}(h:kR ms i=.ok b)(hm:∀p∈ms,er p)(hl:ms.length<=600)(ha:iy ms[i].aS=.ok bC)(hc:nW ms[i].core=true):(jB (nZ ms[i] b) bC).length<=3000000:=by
 have hmp:=hm _ (dL hi);have hok:=RP hi h hm hl ha hc;obtain⟨r,c1,c2,c3,c4,c5,c6⟩:=D9 hok.core;have h1:=RL (bC:=bC) c2 c4;obtain⟨-,-,hl2,-⟩:=AQ hok.app hok.rows;have hbl:b.length<=65533:=by rcases MF h hm hl with q|q;omega;exact q.2
 have hic:=hmp.ic;have hco:=hmp.co;have e1:(nZ ms[i] b).dN.length=b.length:=rfl;have e2:(nZ ms[i] b).cV.length=ms[i].cV.length:=rfl;have e3:(nZ ms[i] b).core.length=ms[i].core.length:=rfl;omega
variable{w:Nat}
theorem ahU(L:List Int)(hL:∀n∈L,1<=n/\n<=3000000)(hl:L.length<=1000)(hw:2000<w):∃r:Int×List Value×List Value,lp rn (fa w) w (L++[0]).length 0 (cS (L++[0])) (cS [0])=some r:=by
 have hll:(L++[0]:List Int).length=L.length+1:=by simp
 have key:∀(k i v:Nat)(st:List Int)(s:Int),i+k=L.length->k+1<v->st.length=i->0<=s/\s<=3000000*i->∃r:Int×List Value×List Value,lp rn (fa w) v (L++[0]).length i (cS (L++[0])) (cS (st++[s]))=some r:=by
  intro k;induction k with
  |zero=>
   intro i v st s hi hv hst hs;have hiL:i<(L++[0]:List Int).length:=by omega
   have e1:((i:Int)<((L++[0]:List Int).length:Int)):=by omega
   have hget:(L++[0]:List Int)[i]=0:=by rw[List.getElem_append_right (by omega)];simp
   have hlen:(cS (L++[0])).length=(L++[0]).length:=by unfold cS;rw[eD]
   have hdrop:List.drop (0+i*1) (cS (L++[0]))=.int .i64 0::cS ((L++[0]).drop (i+1)):=by unfold cS;rw[fg,gM,<-List.map_drop,dG hiL,List.map_cons,hget]
   have e2:i*1<(L++[0]:List Int).length:=by omega
   rw[ef rn (fa w) (by omega)];unfold fa;simp only[bc,e1,bn,ay,ct];rw[hlen];simp only[lU,e2,bn,gY,show Nat.beq 1 1=true from rfl,ay];rw[hdrop];simp only[bN,cH];have h190:∃x,zA w 0 (cS (st++[s]))=some (true,x):=by
    have hlen2:(cS (st++[s])).length=st.length+1:=by unfold cS;simp
    have hdrop2:List.drop (0+st.length*1) (cS (st++[s]))=[Value.int .i64 s]:=by unfold cS;rw[jZ,fg,gM,List.drop_left' (by simp)];rfl
    unfold zA;rw[hlen2,mE,iV,cu,aN (by omega) (by omega),show((st.length+1:Nat):Int) -1=(st.length:Int) by omega,ct];have e1:st.length*1<st.length+1:=by omega
    simp only[lU,e1,bn,gY,show Nat.beq 1 1=true from rfl,ay];rw[hdrop2];simp only[bN,cH];rw[VU,ar ⟨by unfold lH;rw[bV];omega,by unfold lH;rw[bV];omega,by unfold lH;rw[bV];omega⟩];simp only[aA];have r1:aK (st.length+1)=true:=by simp;omega
    rw[r1];simp only[show aq 0 1=true from rfl,xq,mE,gM,kV,show aK 1=true from rfl,kU,ay,cL,aE];exact⟨_,rfl⟩
   obtain⟨x,h190⟩:=h190;rw[h190];exact⟨_,rfl⟩
  |succ k ih=>
   intro i v st s hi hv hst hs;have hiL0:i<L.length:=by omega
   have hiL:i<(L++[0]:List Int).length:=by omega
   have e1:((i:Int)<((L++[0]:List Int).length:Int)):=by omega
   have hget:(L++[0]:List Int)[i]=L[i]:=List.getElem_append_left hiL0;have hn:=hL _ (dL hiL0);obtain⟨r,hr⟩:=ih (i+1) (v -1) (st++[s]) (s+L[i]) (by omega) (by omega) (by rw[aR,hst];rfl) (by omega);refine⟨r,?_⟩;rw[ef rn (fa w) (by omega),<-hr];generalize hg:lp rn (fa w) (v -1)=g;have hlen:(cS (L++[0])).length=(L++[0]).length:=by unfold cS;rw[eD]
   have hdrop:List.drop (0+i*1) (cS (L++[0]))=.int .i64 L[i]::cS ((L++[0]).drop (i+1)):=by unfold cS;rw[fg,gM,<-List.map_drop,dG hiL,List.map_cons,hget]
   have e2:i*1<(L++[0]:List Int).length:=by omega
   unfold fa;simp only[bc,e1,bn,ay,ct];rw[hlen];simp only[lU,e2,bn,gY,show Nat.beq 1 1=true from rfl,ay];rw[hdrop];simp only[bN,cH];rw[VR _ st s ⟨hn.1,by omega⟩ ⟨hs.1,by omega⟩ (by omega)];simp only[aA,aE,cR];rw[aN (by omega) (by omega)];rfl
 exact key L.length 0 w [] 0 (by omega) (by omega) rfl ⟨by omega,by omega⟩
theorem af1(L:List Int)(hL:∀n∈L,1<=n/\n<=3000000)(hl:L.length<=1000)(hw:2000<w):∃r:Bool×List Value×List Value,uH w (cS (L++[0]))=some r:=by
 obtain⟨r,h⟩:=ahU L hL hl hw;have h2:zJ w (cS (L++[0])) [Value.int .i64 0]=some r:=by unfold zJ;rw[(show(cS (L++[0])).length=(L++[0]).length from by unfold cS;rw[eD]),mE];exact h
 unfold uH G2;simp_all;cases(!aq r.fst 0)<;>grind
theorem aaS(W:eW w)(hw:1000000<w)(hm:∀p∈ms,er p)(hl:ms.length<=600)(ha:∀p∈ms,jt p=false)(hc:∀p∈ms,nT p=false):
 ∃c:Value×List Value,G1 w (cO ms) (cO ms) []=some (qY ms ms.length 0,c):=by
 have key:∀(k i v:Nat)(L:List Int),i+k=ms.length->k<v->L.length=i->(∀n∈L,1<=n/\n<=3000000)->∃c:Value×List Value,lp BC (ud w) v (cO ms) ms.length i (cO ms) (cS L)=some (qY ms k i,c):=by
  intro k;induction k with
  |zero=>
   intro i v L hi hv hL _;have e1:¬((i:Int)<(ms.length:Int)):=by omega
   rw[ef BC (ud w) (by omega)];unfold ud;simp only[bc,e1,cy,aE];exact⟨_,rfl⟩
  |succ k ih=>
   intro i v L hi hv hL hL2;have hiL:i<ms.length:=by omega
   have e1:((i:Int)<(ms.length:Int)):=by omega
   have hlen:(cS L).length=i:=by unfold cS;rw[eD,hL]
   have r1:aK i=true:=by simp;omega
   have rr:∀n:Int,(aK (cS L).length&&(aK ([Value.int IntKind.i64 n].length/1)&&[Value.int IntKind.i64 n].length.beq ([Value.int IntKind.i64 n].length/1*1)))=true:=by intro n;rw[hlen,r1];simp
   rw[ef BC (ud w) (by omega)];unfold qY JN;cases hs:kR ms i with
   |error e=>
    have h34:=ag5 W hiL hs (afy hs) hm hl;rw[ar rfl];have h131:∃r:Bool×List Value×List Value,uH w (cS L++[Value.int IntKind.i64 0])=some r:=by obtain⟨st,hst⟩:∃r,uH w (cS (L++[0]))=some r:=af1 L hL2 (by omega) (by omega);refine⟨st,?_⟩;rw[<-hst];unfold cS;rw[jZ];rfl
    obtain⟨r,h131⟩:=h131;unfold ud;simp only[bc,e1,bn,ay,ct];rw[show cO ms=aC dP ms from rfl,bW kN hiL,na];simp only[bN,cH];unfold GN;rw[show aC dP ms=cO ms from rfl,hlen,mE,cu,h34];simp only[aA];rw[<-hlen,rr 0,ay,h131];exact⟨_,rfl⟩
   |ok b=>
    obtain⟨bC,hcam⟩:=PU ha hiL;have hcore:nW ms[i].core=true:=by have:=hc _ (dL hiL);unfold nT at this;simpa using this
    have h34:=Wb W hw hiL hs hm hl hcam hcore;have hsm:=aaa hiL hs hm hl hcam hcore;have hps:=Z7 (nZ ms[i] b) bC;have hL3:∀n∈L++[((jB (nZ ms[i] b) bC).length:Int)],1<=n/\n<=3000000:=by intro n hn;rcases eM.1 hn with hn|hn<;>grind
    obtain⟨st,h131⟩:=af0 (w:=w) _ hL3 (by rw[aR,xq];omega) (by omega);have hap:cS L++[Value.int IntKind.i64 ((jB (nZ ms[i] b) bC).length:Int)]=cS (L++[((jB (nZ ms[i] b) bC).length:Int)]):=by unfold cS;simp
    obtain⟨c,hih⟩:=ih (i+1) (v -1) _ (by omega) (by omega) (by rw[aR,xq];omega) hL3;rw[ai (λq=>by cases q)];refine⟨c,?_⟩;rw[<-hih];generalize hg:lp BC (ud w) (v -1)=g;unfold ud;simp only[bc,e1,bn,ay,ct];rw[show cO ms=aC dP ms from rfl,bW kN hiL,na];simp only[bN,cH];unfold GN;rw[show aC dP ms=cO ms from rfl,hlen,mE,cu,h34];simp only[aA];have rr2:=rr ((jB (nZ ms[i] b) bC).length:Int);rw[hlen] at rr2;rw[rr2,ay,hap,h131];simp only[aA,cL,aE,cR];rw[aN (by omega) (by omega)];rfl
 obtain⟨c,h⟩:=key ms.length 0 w [] (by omega) (by omega) rfl (λn hn=>by cases hn);refine⟨c,?_⟩;unfold G1;exact h
end
section
set_option maxRecDepth 100000
def qF(ms:List bT):Bool:=match ms with
 |[p]=>!decide (p.attr=0/\p.fV=0/\p.fW=0/\p.view.length=0)
 |_=>false
def gw(ms:List bT):Int×Int:=
 if ms.length<1\/1000<ms.length then(1,0)
 else if 0<=db jt ms then(2,db jt ms)
 else if 0<=db nT ms then(4,db nT ms)
 else if 0<=db pE ms then(5,db pE ms)
 else if 0<=db pF ms then(6,db pF ms)
 else if qF ms=true then(7,0)
 else if 0<=qY ms ms.length 0 then(8,qY ms ms.length 0)
 else(0,0)
variable{α:Type} {l:List α} {p:α->Bool}
theorem wi(h:¬0<=db p l):∀x∈l,p x=false:=by
 have h1:db p l<0:=by omega
 rw[yF] at h1
 grind
theorem Z5(l:List α):db (λ_=>false) l=-1:=by
 unfold db
 grind
theorem Kk(h:0<=db p l):∃i:Nat,∃hi:i<l.length,db p l=(i:Int)/\p l[i]=true:=by
 unfold db at h⊢;cases hf:l.findIdx? p with
 |none=>grind
 |some i=>
  rw[List.findIdx?_eq_some_iff_getElem] at hf
  grind
variable{ms:List bT}
theorem ahp(w:Nat)(_:ms.length<=2000):Ic w (cO ms)=some (if ms.length<1\/1000<ms.length then 0 else-1):=by
 have hlr:∀K:Nat->Option Int,ax (cO ms) K=K ms.length:=λK=>dw dP ms K;unfold Ic;rw[hlr,hlr,GH,GH];simp only[aA,bc]
 grind
theorem ahq(w:Nat)(hl:ms.length<=2000)(h1:1<=ms.length):Ig w (cO ms)=some (if qF ms=true then 0 else-1):=by
 have hlr:∀K:Nat->Option Int,ax (cO ms) K=K ms.length:=λK=>dw dP ms K;cases ms with
 |nil=>simp at h1
 |cons p r=>
  unfold Ig;rw[(show∀K:List Value->Option Int,aQ 14 0 (cO (p::r)) K=K (dP p++r.flatMap dP) fromλK=>bW kN (by rw[cQ];omega) K),na];simp;rw[hlr];cases r with
  |nil=>
   rw[(show∀K:Nat->Option Int,ax (az p.view) K=K p.view.length fromλK=>dw cx _ K),GH,GH];unfold qF;by_cases a1:p.attr=0
   case neg=>simp[a1]
   by_cases a2:p.fV=0
   case neg=>simp_all
   by_cases a3:p.fW=0
   case neg=>simp_all
   by_cases a4:p.view.length=0
   ·simp_all
   ·have:(0:Int)<(p.view.length:Int):=by omega
    simp_all
  |cons q r=>rfl
variable{w:Nat}
theorem CV(W:eW w)(hw:1000000<w)(hm:∀p∈ms,er p)(hl:ms.length<=600\/1000<ms.length)(hl2:ms.length<=2000):nu w (cO ms)=some (gw ms):=by
 unfold nu gw Gn Gt;rw[show N8 w=some () from rfl];rw[ahp w hl2];simp only[aA];by_cases h1:ms.length<1\/1000<ms.length
 ·rw[ar h1,ar h1];rfl
 rw[ai h1,ai h1,show(!aq (-1) 0)=false from rfl];have hlt:ms.length<=600:=by omega
 unfold Ox Ni;rw[age W hm hl2];simp only[aA,bc];by_cases h2:0<=db jt ms
 ·rw[ar h2,fR (by omega)];rfl
 rw[ai h2,fS (by omega:db jt ms<0)];unfold Oy Nj;rw[agf W hm hl2];simp only[aA];rw[show db AY ms=-1 from Z5 ms];simp only[show decide ((-1:Int)<0)=true from rfl,aE];unfold Oz Nk;rw[agh W hm hl2];simp only[aA];by_cases h4:0<=db nT ms
 ·rw[ar h4,fR (by omega)];rfl
 rw[ai h4,fS (by omega:db nT ms<0)];unfold OA Nl;rw[agi W hm hl2];simp only[aA];by_cases h5:0<=db pE ms
 ·rw[ar h5,fR (by omega)];rfl
 rw[ai h5,fS (by omega:db pE ms<0)];unfold OB Nn;rw[agj W hm hl2];simp only[aA];by_cases h6:0<=db pF ms
 ·rw[ar h6,fR (by omega)];rfl
 rw[ai h6,fS (by omega:db pF ms<0)];rw[ahq w hl2 (by omega)];simp only[aA];by_cases h7:qF ms=true
 ·rw[ar h7,ar h7];rfl
 rw[ai h7,ai h7];simp only[show decide ((-1:Int)<0)=true from rfl];unfold OC Nh;obtain⟨c,h188⟩:=aaS W hw hm hlt (wi h2) (wi h4);rw[h188];simp only[aA];by_cases h8:0<=qY ms ms.length 0
 ·rw[ar h8,fR (by omega)];rfl
 rw[ai h8,fS (by omega:qY ms ms.length 0<0)];rfl
def pI(ms:List bT):Int:=
 if(gw ms).1 =0 then 0
 else if(gw ms).1 =1 then(if ms.length=0 then 1 else 7)
 else if(gw ms).1 =2 then(match ms[(gw ms).2.toNat]? with|some p=>(match iy p.aS with| .ok _=>0| .error e=>e)|none=>0)
 else if(gw ms).1 =4 then 2
 else if(gw ms).1 =5 then 1
 else if(gw ms).1 =7 then 1
 else if(gw ms).1 =6 then 6
 else 7
theorem No(W:eW w)(hw:1000000<w)(hm:∀p∈ms,er p)(hl:ms.length<=600\/1000<ms.length)(hl2:ms.length<=2000):sK w (cO ms)=some (pI ms):=by
 have hlr:∀K:Nat->Option Int,ax (cO ms) K=K ms.length:=λK=>dw dP ms K;unfold sK pI;rw[CV W hw hm hl hl2];simp only[aA,cD,qI];by_cases h0:(gw ms).1 =0
 ·rw[ar h0,ar h0]
 rw[ai h0,ai h0];by_cases h1:(gw ms).1 =1
 ·rw[ar h1,ar h1,hlr];by_cases hz:ms.length=0<;>grind
 rw[ai h1,ai h1];by_cases h2:(gw ms).1 =2
 ·rw[ar h2,ar h2];have hidx:0<=db jt ms/\(gw ms).2 =db jt ms:=by
   unfold gw at h2⊢;split at h2
   ·exact absurd h2 (by decide)
   rename_i a;rw[ai a];split at h2
   ·rename_i b;rw[ar b];exact⟨b,rfl⟩
   ·exfalso
    repeat' split at h2
    all_goals(simp only at h2;exact absurd h2 (show¬((_:Int)=2) by decide))
  obtain⟨i,hi,he,hb⟩:=Kk hidx.1;rw[hidx.2,he,ct,show cO ms=aC dP ms from rfl,bW kN hi,mB,dD hi];have d0:∀r:List Value,List.drop 0 (dP ms[i]++r)=dP ms[i]++r:=λ_=>rfl;rw[d0,na];simp;rw[Of W (hm _ (dL hi)).Bn];cases iy ms[i].aS<;>rfl
 rw[ai h2,ai h2]
 repeat' split
 all_goals rfl
end
section
set_option maxRecDepth 100000
variable{o:Int} {view:List aI}
theorem aiu(hv:TS view)(hr:dz 5 view=true):gJ (kT o view)<=40000:=by
 obtain⟨h1,h2⟩:=hv;have hV:=Bg view (aD 8+(6+12*bF (.mk view .nil []))) λt ht=>⟨(EW (((zg hr).2) t ht)).2.2.2,h2 t ht⟩;have hN:bF (.mk view .nil [])=view.length:=by show view.length+0+0=_;simp
 have hE:gJ (kT o view)=ck (aD 8+(6+12*bF (.mk view .nil []))) view:=by show ee 8 [.mk view .nil []]=_;simp[ee,bq,eu]
 have e8:aD 8=8:=rfl;omega
theorem aae{l:List gB}(h2:2<=l.length)(hl:l.length<=6)(hv:TS view)(hr:dz 5 view=true):gJ (fX o l view)<=40000:=by
 obtain⟨h1,h2'⟩:=hv;have hm:=(zg hr).2;have hlen:=wC o l;have m3:dW 7 ((16*l.length:Nat):Int) (l.flatMap (fZ o))=true:=by unfold dW;have:(kindOf 7).1 =1:=rfl;rw[hlen];simp_all;omega
 obtain⟨e1,he1⟩:∃e1,bq 8 (km o l)=e1:=⟨_,rfl⟩;have hD:e1<=700:=by
  have hV:=Bg (m:=100) [⟨45056,7,4,[48,49,48,48]⟩,⟨45057,4,1,fj l.length 4⟩,⟨45058,7,((16*l.length:Nat):Int),l.flatMap (fZ o)⟩] (aD 8+(6+12*bF (km o l))) λt ht=>by
   simp at ht;rcases ht with rfl|rfl|rfl
   ·exact⟨(by decide),by simp⟩
   ·exact⟨X3,by simp only[tK];omega⟩
   ·exact⟨m3,by simp_all;omega⟩
  have hN:bF (km o l)=3:=rfl;have e8:aD 8=8:=rfl;have:e1=ck (aD 8+(6+12*bF (km o l))) [⟨45056,7,4,[48,49,48,48]⟩,⟨45057,4,1,fj l.length 4⟩,⟨45058,7,((16*l.length:Nat):Int),l.flatMap (fZ o)⟩]:=by rw[<-he1];simp[km,bq,eu]
  simp_all;omega
 have hT:gJ (fX o l view)=ee e1 (if view.length=0 then[] else[.mk view .nil []]):=by rw[<-he1];rfl
 rw[hT];by_cases h0:view.length=0
 ·rw[ar h0];show e1<=_;omega
 ·rw[ai h0];have hV:=Bg view (aD e1+(6+12*bF (.mk view .nil []))) λt ht=>⟨(EW (hm t ht)).2.2.2,h2' t ht⟩;have hN:bF (.mk view .nil [])=view.length:=by
   show view.length+0+0=_;omega
  have hE:ee e1 [.mk view .nil []]=ck (aD e1+(6+12*bF (.mk view .nil []))) view:=by simp[ee,bq,eu]
  have e8:=vR e1;omega
def oS(p:bT):Bool:=!jt p&&(!nT p&&(!pE p&&!pF p))
variable{p:bT}
theorem tX(h:oS p=true):jt p=false/\nT p=false/\pE p=false/\pF p=false:=by
 unfold oS at h
 grind
theorem ZW(h:jt p=false):p.aS.order=1\/p.aS.order=2:=by
 unfold jt at h;cases he:iy p.aS with
 |error e=>grind
 |ok b=>
  unfold iy at he;split at he
  ·grind
  ·rename_i q;exact(tM (qp.1 q)).1
variable{ms:List bT}
theorem Vr(hm:∀p∈ms,er p)(hl:ms.length<=6)(hg:∀p∈ms,oS p=true)(i:Nat):∃b,kR ms i=.ok b:=by
 unfold kR;split
 ·exact⟨_,rfl⟩
 rename_i p hp;have hpm:=qv hp;obtain⟨g1,g2,g3,g4⟩:=tX (hg p hpm);have ho:=ZW g1;have hv:=(hm p hpm).tv;have hr:dz 5 p.view=true:=by unfold pF at g4;simpa using g4
 split
 ·split
  ·rename_i h1;have hpl:(kQ ms).length=ms.length:=by unfold kQ;rw[eD]
   have hall:(kQ ms).all ou=true:=by rw[jf];intro q hq;obtain⟨y,hy,rfl⟩:=List.mem_map.1 hq;have:=(tX (hg y hy)).2.2.1;unfold pE at this;unfold ou;simp only[Bool.not_eq_false',bV] at this⊢;obtain⟨a,b,c⟩:=this;exact⟨a,by decide,by decide,b,c⟩
   have he:=aae (o:=p.aS.order) (l:=kQ ms) (by omega) (by omega) hv hr;unfold mT;rw[ai (by rintro (q|q);exact q ho;omega),hall,ai (by decide),hr,ai (by decide),ai (by omega),ai (by omega)];exact⟨_,rfl⟩
  ·exact⟨_,rfl⟩
 ·split
  ·exact⟨_,rfl⟩
  ·rename_i h0;have he:=aiu (o:=p.aS.order) hv hr;unfold Am;rw[ai (by rintro (q|q);exact q ho;exact h0 q),hr,ai (by decide),ai (by omega)];exact⟨_,rfl⟩
theorem Vq(h:∀i,∃b,kR ms i=.ok b):∀k i,qY ms k i=-1
 |0,i=>rfl
 |k+1,i=>by obtain⟨b,hb⟩:=h i;unfold qY JN;rw[hb];exact Vq h k (i+1)
theorem EG{α:Type}{p:α->Bool}{l:List α}:(¬0<=db p l)↔∀x∈l,p x=false:=by
 constructor
 ·exact wi
 ·intro h q;obtain⟨i,hi,_,hb⟩:=Kk q
  grind
theorem Ev(hm:∀p∈ms,er p)(h1:1<=ms.length)(hl:ms.length<=6):(gw ms).1 =0↔(∀p∈ms,oS p=true)/\qF ms=false:=by
 unfold gw;rw[ai (by omega)];constructor
 ·intro h;split at h
  ·exact absurd h (by simp)
  rename_i a1;split at h
  ·exact absurd h (by simp)
  rename_i a2;split at h
  ·exact absurd h (by simp)
  rename_i a3;split at h
  ·exact absurd h (by simp)
  rename_i a4;split at h
  ·exact absurd h (by simp)
  rename_i a5;refine⟨λp hp=>?_,by simpa using a5⟩;unfold oS;rw[wi a1 p hp,wi a2 p hp,wi a3 p hp,wi a4 p hp];rfl
 ·rintro ⟨hg,h1⟩
  rw[ai (EG.2 λp hp=>(tX (hg p hp)).1),ai (EG.2 λp hp=>(tX (hg p hp)).2.1),ai (EG.2 λp hp=>(tX (hg p hp)).2.2.1),ai (EG.2 λp hp=>(tX (hg p hp)).2.2.2),h1,ai (by decide),Vq (Vr hm hl hg),ai (by decide)]
theorem Qr(ms:List bT)(h:1<=ms.length):pI ms=0↔(gw ms).1 =0:=by
 unfold pI;constructor
 ·intro hc;split at hc
  ·rename_i q;exact q
  split at hc
  ·rw[ai (by omega)] at hc;cases hc
  split at hc
  ·rename_i h0 h1 h2;exfalso;have hidx:0<=db jt ms/\(gw ms).2 =db jt ms:=by
    unfold gw at h2⊢;split at h2
    ·exact absurd h2 (by decide)
    rename_i a;rw[ai a];split at h2
    ·rename_i b;rw[ar b];exact⟨b,rfl⟩
    ·exfalso
     repeat' split at h2
     all_goals(simp only at h2;exact absurd h2 (show¬((_:Int)=2) by decide))
   obtain⟨i,hi,he,hb⟩:=Kk hidx.1;rw[hidx.2,he,mB,dD hi] at hc;unfold jt at hb;simp only at hc;cases ha:iy ms[i].aS with
   |ok b=>rw[ha] at hb;cases hb
   |error e=>rw[ha] at hc;exact PR ha hc
  repeat' split at hc
  all_goals(exact absurd hc (by decide))
 ·intro h0;rw[ar h0]
def yb:List UInt8:=[255,216,255,218,0,8,1,1,0,0,63,0,7,255,217]
def ov:bT:=⟨⟨2,[⟨274,3,1,[0,1]⟩],[],[],[],[],[],[]⟩,[],yb,0,0,0,[]⟩
theorem agY{w:Nat}(hw:10<=w):N9 w 3 (ae 1 [Value.int IntKind.i64 1])=some (3,1,aj [0,1],true):=by obtain⟨k,rfl⟩:∃k,w=k+10:=⟨w -10,by omega⟩;rfl
end
section
set_option maxRecDepth 100000
variable{w:Nat}
theorem VG(hw:10<=w):rb w=some (2,az [⟨274,3,1,[0,1]⟩],ae 0 [],ae 0 [],ae 0 [],ae 0 [],ae 0 [],ae 0 [],ae 0 [],aj yb,0,0,0,ae 0 []):=by unfold rb;rw[agY hw];rfl
variable{ms:List bT}
theorem zQ(W:eW w)(hw:1000000<w)(hm:∀p∈ms,er p)(hl:ms.length<=600\/1000<ms.length)(hl2:ms.length<=2000)(r i:Int):sQ w (cO ms) r i=some (decide (gw ms=(r,i))&&(decide (pI ms=0)==decide (r=0))):=by
 unfold sQ;rw[CV W hw hm hl hl2,No W hw hm hl hl2];obtain⟨a,b,hab⟩:∃a b,gw ms=(a,b):=⟨_,_,rfl⟩;by_cases h1:a=r
 ·by_cases h2:b=i
  ·simp_all
  simp_all
 simp_all
structure Dm where
 p:bT
 b:List UInt8
 bC:List UInt8
def T8(x:Except Int (List UInt8)):List UInt8:=match x with| .ok b=>b| .error _=>[]
def Ka(ms:List bT)(i:Nat):Dm:=⟨(ms[i]?).getD ov,T8 (kR ms i),T8 (iy ((ms[i]?).getD ov).aS)⟩
def EH(g:Dm):List Value:=[.int .i64 g.p.aS.order,az g.p.aS.cP,az g.p.aS.bR,az g.p.aS.bZ,az g.p.aS.bp,az g.p.aS.first,aj g.p.aS.bQ,aj g.p.aS.dq,aj g.p.cV,aj g.p.core,aj g.b,.int .i64 (PZ g.bC g.b),.int .i64 ((jB (nZ g.p g.b) g.bC).length:Int)]
theorem RN(g:Dm):(EH g).length=13:=rfl
def ub(ms:List bT):List Dm:=(List.range ms.length).map (Ka ms)
structure IL(ms:List bT):Prop where
 mem:∀p∈ms,er p
 le:ms.length<=6
 Kb:∀p∈ms,oS p=true
theorem IL.Z9(F:IL ms){i:Nat}(hi:i<ms.length):∃b bC,kR ms i=.ok b/\iy ms[i].aS=.ok bC/\nW ms[i].core=true/\Ka ms i=⟨ms[i],b,bC⟩:=by
 obtain⟨b,hb⟩:=Vr F.mem F.le F.Kb i;obtain⟨bC,hc⟩:=PU (λp hp=>(tX (F.Kb p hp)).1) hi;refine⟨b,bC,hb,hc,?_,?_⟩
 ·have:=(tX (F.Kb _ (dL hi))).2.1;unfold nT at this
  grind
 ·unfold Ka;rw[dD hi,te,hb,hc];rfl
theorem Zy(hm:∀p∈ms,er p)(hl:ms.length<=6\/1000<ms.length)(h:pI ms=0):IL ms/\1<=ms.length:=by
 by_cases h0:ms.length<1\/1000<ms.length
 ·exfalso;unfold pI at h;rw[(show(gw ms).1 =1 from by unfold gw;rw[ar h0])] at h;omega
 ·have h1:1<=ms.length:=by omega
  have h6:ms.length<=6:=by omega
  have:=(Qr ms h1).1 h;have:=(Ev hm h1 h6).1 this;exact⟨⟨hm,h6,this.1⟩,h1⟩
theorem af4(W:eW w)(hw:1000000<w)(hm:∀p∈ms,er p)(hl:ms.length<=6\/1000<ms.length)(hl2:ms.length<=2000):GP w (cO ms)=some (if pI ms=0 then aC EH (ub ms) else ae 0 []):=by
 have hlr:∀K:Nat->Option Value,ax (cO ms) K=K ms.length:=λK=>dw dP ms K;unfold GP MO;rw[No W hw hm (by omega) hl2];simp only[aA,cD];by_cases hc:pI ms=0
 case neg=>rw[ai hc,fR hc];rfl
 rw[ar hc,fS hc,cL,hlr];obtain⟨F,h1⟩:=Zy hm hl hc;have h6:=F.le;have hil:(ub ms).length=ms.length:=by unfold ub;rw[eD,List.length_range]
 refine lD (ev:=λi (g:Int->Int->Value->List Value->Option Value)=>g ms.length i (cO ms) (((ub ms).take i).flatMap EH)) ms.length ?_ ?_ (by omega)
 ·intro i g hi;obtain⟨b,bC,k1,k2,k3,k4⟩:=F.Z9 hi;have e1:((i:Int)<(ms.length:Int)):=by omega
  have hiI:i<(ub ms).length:=by omega
  have hget:(ub ms)[i]=⟨ms[i],b,bC⟩:=by simp[ub];exact k4
  simp only[bc,e1];rw[Wb W hw hi k1 hm (by omega) k2 k3];have hr1:aK (((ub ms).take i).flatMap EH).length=true:=by rw[eJ RN];simp;omega
  rw[hr1,cR,aN (by omega) (by omega),show(i:Int)+1=((i+1:Nat):Int) by omega,nB hiI,gq,hget];rfl
 ·intro g;have e1:¬((ms.length:Int)<(ms.length:Int)):=by omega
  simp only[bc,e1];rw[gh (by omega),eJ RN,lP _ (by decide)];rfl
theorem BY(a d e:Int)(x:di)(c:List UInt8)(hx:x=ov.aS\/x=⟨1,[],[],[],[],[],[],[]⟩)(hc:c=yb\/c=[]):er ⟨x,[],c,a,d,e,[]⟩:=by
 have t0:TS []:=⟨by decide,λt h=>by cases h⟩;have hcl:c.length<=2000:=by rcases hc with rfl|rfl<;>decide
 rcases hx with rfl|rfl
 ·exact⟨(show TS [⟨274,3,1,[0,1]⟩] from⟨by decide,λt h=>by rw[kC.1 h];decide⟩),t0,t0,t0,t0,t0,(show 0<=2000 by decide),(show 0<=2000 by decide),(show 0<=2000 by decide),hcl⟩
 ·exact⟨t0,t0,t0,t0,t0,t0,(show 0<=2000 by decide),(show 0<=2000 by decide),(show 0<=2000 by decide),hcl⟩
def uo:bT:=⟨ov.aS,[],yb,1,0,0,[]⟩
def Ur:bT:=⟨ov.aS,[],yb,0,-1,0,[]⟩
def Uq:bT:=⟨ov.aS,[],[],0,0,0,[]⟩
def Us:bT:=⟨⟨1,[],[],[],[],[],[],[]⟩,[],yb,0,0,0,[]⟩
theorem ZX:oS ov=true:=by decide+kernel
theorem EY:er ov:=BY 0 0 0 _ _ (.inl rfl) (.inl rfl)
theorem S5:er uo:=BY 1 0 0 _ _ (.inl rfl) (.inl rfl)
theorem ms3:er Ur:=BY 0 (-1) 0 _ _ (.inl rfl) (.inl rfl)
theorem ms4:er Uq:=BY 0 0 0 _ _ (.inl rfl) (.inr rfl)
theorem ms5:er Us:=BY 0 0 0 _ _ (.inr rfl) (.inl rfl)
end
section
set_option maxRecDepth 100000
theorem Zz:gw [uo,uo]=(0,0)/\pI [uo,uo]=0:=by decide+kernel
variable{w:Nat}
theorem ahw(W:eW w)(hw:1000000<w):mv w=some true:=by
 have q1:=zQ W hw (ms:=[]) (λp h=>by cases h) (.inl (by decide)) (by decide) 1 0;have q2:=zQ W hw (ms:=[Us]) (λp h=>by rw[kC.1 h];exact ms5) (.inl (show 1<=600 by decide)) (show 1<=2000 by decide) 2 0;have q3:=zQ W hw (ms:=[uo]) (λp h=>by rw[kC.1 h];exact S5) (.inl (show 1<=600 by decide)) (show 1<=2000 by decide) 7 0;have hm4:∀p∈[uo,uo],er p:=λp h=>by simp at h;rw[h];exact S5
 have q4:=zQ W hw hm4 (.inl (show 2<=600 by decide)) (show 2<=2000 by decide) 0 0;have q5:=zQ W hw (ms:=[ov]) (λp h=>by rw[kC.1 h];exact EY) (.inl (show 1<=600 by decide)) (show 1<=2000 by decide) 0 0;have q6:=zQ W hw (ms:=[ov,Ur,Uq]) (λp h=>by
  simp_all;rcases h with rfl|rfl|rfl
  ·exact EY
  ·exact ms3
  ·exact ms4) (.inl (show 3<=600 by decide)) (show 3<=2000 by decide) 4 2
 have q7:=af4 W hw hm4 (.inl (show 2<=6 by decide)) (show 2<=2000 by decide);rw[ar Zz.2] at q7;have h10:∀v:Value,q9 w v=some v:=λ_=>rfl;have q1:=iq (c:=some true) q1 (by decide);have q2:=iq (c:=some true) q2 (by decide);have q3:=iq (c:=some true) q3 (by decide);have q4:=iq (c:=some true) q4 (by decide);have q5:=iq (c:=some true) q5 (by decide);have q6:=iq (c:=some true) q6 (by decide);unfold mv MI;rw[VG (by omega)];simp_all;refine iq (bK (λz=>ob z _) q1) ?_;simp;refine iq (bK (λz=>ob z _) q2) ?_;simp;refine iq (bK (λz=>ob z _) q3) ?_;simp;refine iq (bK (λz=>ob z _) q4) ?_;simp;refine iq (bK (λz=>ob z _) q5) ?_;simp;refine iq (bK (λz=>ob z _) q6) ?_;simp;refine iq (bK (λz=>ob z _) q7) ?_;simp only[aA];rfl
def mz(l:List aI):Bool:=l.any (λt=>decide (600<t.data.length))||decide (60<l.length)
theorem zP(l:List aI)(hl:l.length<2^63)(hw:l.length<w):nr w (az l)=some (mz l):=by
 have hlr:∀K:Nat->Option Bool,ax (az l) K=K l.length:=λK=>dw cx l K;have key:∀(k i v:Nat),i+k=l.length->k<v->∀(z:Value->Int->Option Bool)(F:(Value->Int->Option Bool)->Value->Int->Option Bool),
  (∀(x3:Value->Int->Option Bool)(x4:Value)(x5:Int),F x3 x4 x5=ax x4 λ(x6:Nat)=>bif aq x5 (Int.ofNat x6) then aG x5 λ(x7:Nat)=>aQ 4 x7 x4 λx8=>ag (List.drop 2 (List.drop 1 x8)) λ(x9:Value)(x10:List Value)=>ax x9 λ(x11:Nat)=>bif aq 600 (Int.ofNat x11) then some true else x3 x4 (ah IntKind.i64 (x5.add 1)) else ax x4 λ(x12:Nat)=>some (aq 60 (Int.ofNat x12)))->
  lp z F v (az l) i=some ((l.drop i).any (λt=>decide (600<t.data.length))||decide (60<l.length)):=by
  intro k;induction k with
  |zero=>
   intro i v hi hv z F hF;have e1:¬((i:Int)<(l.length:Int)):=by omega
   rw[ef z F (by omega),hF,hlr,show l.drop i=[] from xn (by omega)];simp only[bc,cu,e1,cy,aE];rw[hlr,List.any_nil,Bool.false_or]
   congr 1
   rw[fO,bV,bV];omega
  |succ k ih=>
   intro i v hi hv z F hF;have hiL:i<l.length:=by omega
   have e1:((i:Int)<(l.length:Int)):=by omega
   have dd:∀(y:aI)(r:List Value),List.drop 2 (List.drop 1 (cx y++r))=aj y.data::r:=λ_ _=>rfl;rw[ef z F (by omega),hF,hlr];simp only[bc,cu,e1,bn,ay,ct];rw[show az l=aC cx l from rfl,bW gI hiL,dd];simp only[bN];rw[dU,dG hiL,List.any_cons];by_cases h:600<l[i].data.length
   ·have e2:(600:Int)<(l[i].data.length:Int):=by omega
    simp_all
   ·have e2:¬((600:Int)<(l[i].data.length:Int)):=by omega
    simp only[h,e2,cy,aE];have:=ih (i+1) (v -1) (by omega) (by omega) z F hF;rw[cR,aN (by omega) (by omega)];exact this
 exact key l.length 0 w (by omega) hw _ _ (λ_ _ _=>rfl)
theorem Al{l:List aI}(h:mz l=false):TS l:=by unfold mz at h;simp_all;exact⟨by omega,λt ht=>by have:=h.1 t ht;omega⟩
def Ak(p:bT):Bool:=mz p.aS.cP||(mz p.aS.bR||(mz p.aS.bZ||(mz p.aS.bp||(mz p.aS.first||(mz p.view||(decide (2000<p.aS.bQ.length)||(decide (2000<p.aS.dq.length)||(decide (2000<p.cV.length)||decide (2000<p.core.length)))))))))
theorem ais{p:bT}(h:Ak p=false):er p:=by unfold Ak at h;simp_all;obtain⟨a0,a2,a3,a4,a1,av,b1,b2,b3,b4⟩:=h;exact⟨Al a0,Al a2,Al a3,Al a4,Al a1,Al av,by omega,by omega,by omega,by omega⟩
def Dg(ms:List bT):Bool:=decide (6<ms.length/\ms.length<=1000)||(decide (1100<ms.length)||ms.any Ak)
variable{ms:List bT}
theorem air(h:Dg ms=false):(ms.length<=6\/1000<ms.length)/\ms.length<=1100/\∀p∈ms,er p:=by unfold Dg at h;simp at h;exact⟨by omega,by omega,λp hp=>ais (by simpa using h.2.2 p hp)⟩
structure Dk(w:Nat)(ms:List bT):Prop where
 n:ms.length<2^63
 rows:∀p∈ms,∀l∈[p.aS.cP,p.aS.bR,p.aS.bZ,p.aS.bp,p.aS.first,p.view],l.length<2^63/\l.length<w
noncomputable def Df:IX:=(λ(_ _:Int)(_:Value)=>none)
theorem Xs(B:Dk w ms)(hw:ms.length<w):lp Df (uR w) w ms.length 0 (cO ms)=some (ms.any Ak):=by
 have key:∀(k i v:Nat),i+k=ms.length->k<v->lp Df (uR w) v ms.length i (cO ms)=some ((ms.drop i).any Ak):=by
  intro k;induction k with
  |zero=>
   intro i v hi hv;have e1:¬((i:Int)<(ms.length:Int)):=by omega
   rw[ef Df (uR w) (by omega),show ms.drop i=[] from xn (by omega)];unfold uR;simp only[bc,e1,cy,aE];rfl
  |succ k ih=>
   intro i v hi hv;have hiL:i<ms.length:=by omega
   have e1:((i:Int)<(ms.length:Int)):=by omega
   have hb:=B.n;have hB:=B.rows _ (dL hiL);have b0:=hB ms[i].aS.cP (by simp);have b2:=hB ms[i].aS.bR (by simp);have b3:=hB ms[i].aS.bZ (by simp);have b4:=hB ms[i].aS.bp (by simp);have b1:=hB ms[i].aS.first (by simp);have bv:=hB ms[i].view (by simp);have hih:=ih (i+1) (v -1) (by omega) (by omega);rw[ef Df (uR w) (by omega)];generalize hg:lp Df (uR w) (v -1)=g at hih⊢;rw[dG hiL,List.any_cons];unfold uR;simp only[bc,e1,bn,ay,ct];rw[show cO ms=aC dP ms from rfl,bW kN hiL,na];simp only[bN,cH];rw[zP _ b0.1 b0.2,zP _ b2.1 b2.2,zP _ b3.1 b3.2,zP _ b4.1 b4.2,zP _ b1.1 b1.2,zP _ bv.1 bv.2];simp only[aA];unfold Ak;cases mz ms[i].aS.cP
   case true=>rfl
   cases mz ms[i].aS.bR
   case true=>rfl
   cases mz ms[i].aS.bZ
   case true=>rfl
   cases mz ms[i].aS.bp
   case true=>rfl
   cases mz ms[i].aS.first
   case true=>rfl
   cases mz ms[i].view
   case true=>rfl
   simp only[aE,Bool.false_or];rw[dU,dU,dU,dU,cu,cu,cu,cu];have dd:∀n:Nat,decide ((2000:Int)<(n:Int))=decide (2000<n):=by intro n;rw[fO,bV,bV];omega
   rw[dd,dd,dd,dd];cases decide (2000<ms[i].aS.bQ.length)
   case true=>rfl
   cases decide (2000<ms[i].aS.dq.length)
   case true=>rfl
   cases decide (2000<ms[i].cV.length)
   case true=>rfl
   cases decide (2000<ms[i].core.length)
   case true=>rfl
   rw[cR,aN (by omega) (by omega)];exact hih
 exact key ms.length 0 w (by omega) hw
theorem aht(hw:2000<w)(B:Dk w ms):Ie w (cO ms)=some (Dg ms):=by
 have hd:∀k:Nat,aq (k:Int) (Int.ofNat ms.length)=decide (k<ms.length):=by intro k;rw[bc,cu,fO,bV,bV];omega
 have d6:aq 6 (Int.ofNat ms.length)=decide (6<ms.length):=hd 6;have d11:aq 1100 (Int.ofNat ms.length)=decide (1100<ms.length):=hd 1100;unfold Ie Dg;rw[(show∀K:Nat->Option Bool,ax (cO ms) K=K ms.length fromλK=>dw dP ms K),d6,(show aq 1000 (Int.ofNat ms.length)=decide (1000<ms.length) from hd 1000),d11];by_cases h1:6<ms.length
 ·rw[fS h1];by_cases h2:1000<ms.length
  ·have h3:¬(6<ms.length/\ms.length<=1000):=by omega
   rw[fS h2,fR h3];by_cases h4:1100<ms.length
   ·rw[fS h4];rfl
   ·rw[fR h4];exact Xs B (by omega)
  ·have h3:(6<ms.length/\ms.length<=1000):=by omega
   rw[fR h2,fS h3];rfl
 ·have h3:¬(6<ms.length/\ms.length<=1000):=by omega
  have h4:¬(1100<ms.length):=by omega
  rw[fR h1,fR h3,fR h4,aE];exact Xs B (by omega)
end
section
set_option maxRecDepth 100000
theorem ZA{m:bT}(hm:er m):decide ((gw [ov,m]).1 =0)=oS m:=by
 have hms:∀p∈[ov,m],er p:=by
  intro p hp;simp_all;rcases hp with rfl|rfl
  ·exact EY
  grind
 have:=Ev hms (show 1<=2 by decide) (show 2<=6 by decide);rw[fO,bV,this];constructor
 ·grind
 ·intro h;refine⟨λp hp=>?_,rfl⟩;simp_all;rcases hp with rfl|rfl
  ·exact ZX
  grind
theorem ahc{w:Nat}(W:eW w)(hw:1000000<w){ms:List bT}(B:Dk w ms):N7 w (cO ms)=some true:=by
 have hlr:∀K:Nat->Option Bool,ax (cO ms) K=K ms.length:=λK=>dw dP ms K;have h8:=ahw W hw;unfold N7;rw[hlr,aht (by omega) B];simp only[aA];cases hv:Dg ms with
 |true=>rw[ay,h8];rfl
 |false=>
  rw[aE];obtain⟨hl,hl2,hm⟩:=air hv;by_cases h1:ms.length<1
  ·rw[show aq (Int.ofNat ms.length) 1=true by rw[bc,cu,bV];omega,ay,h8];rfl
  rw[show aq (Int.ofNat ms.length) 1=false by rw[bc,cu,fI];omega,aE];by_cases h6:6<ms.length
  ·rw[show aq 6 (Int.ofNat ms.length)=true by rw[bc,cu,bV];omega,ay,h8];rfl
  rw[show aq 6 (Int.ofNat ms.length)=false by rw[bc,cu,fI];omega,aE];have hn6:ms.length<=6:=by omega
  have hrl:(ms.drop 0).reverse.length=ms.length:=by simp
  have hrm:∀p∈ms.reverse,er p:=λp hp=>hm p (List.mem_reverse.1 hp);obtain⟨z,hz⟩:∃z,ak (gw ms).1 0=z:=⟨_,rfl⟩;have hz1:z=(ms.all oS&&!qF ms):=by rw[<-hz,cD,fO,bV,Ev hm (by omega) hn6,bg,jf,sZ]
  have hz2:ak (gw ms.reverse).1 0=z:=by
   rw[hz1,cD,fO,bV,Ev hrm (by rw[List.length_reverse];omega) (by rw[List.length_reverse];omega),bg,jf,sZ];have hb1:qF ms.reverse=qF ms:=by
    rcases ms with _|⟨a,_|⟨b,r⟩⟩
    ·rfl
    ·rfl
    ·have:(a::b::r).reverse.length=r.length+2:=by simp
     rcases h:(a::b::r).reverse with _|⟨x,_|⟨y,q⟩⟩
     ·rw[h] at this;simp at this
     ·rw[h] at this;simp at this
     ·rfl
   rw[hb1];constructor<;>grind
  have hz3:ak (pI ms) 0=z:=by rw[<-hz,cD,cD,fO,bV,bV,Qr ms (by omega)]
  have k9:=CV W hw hm (by omega) (by omega);have k9':=CV W hw hrm (by rw[List.length_reverse];omega) (by rw[List.length_reverse];omega);have k12:=No W hw hm (by omega) (by omega);have hfin:∀q:Bool,z=q->(ob (nu w (cO ms)) λ(x88:Int×Int)=>ob (nu w (ae ((ms.reverse.flatMap dP).length/14) (ms.reverse.flatMap dP))) λ(x89:Int×Int)=>ob (sK w (cO ms)) λ(x90:Int)=>bif !ak x90 0==ak x88.fst 0 then some false else bif ak x88.fst 0==q then bif ak x88.fst 0==ak x89.fst 0 then ob (mv w) λ(x91:Bool)=>some x91 else bif ak x88.fst 8 then ob (mv w) λ(x92:Bool)=>some x92 else bif ak x89.fst 8 then ob (mv w) λ(x93:Bool)=>some x93 else some false else bif ak x88.fst 8 then bif ak x88.fst 0==ak x89.fst 0 then ob (mv w) λ(x94:Bool)=>some x94 else bif ak x88.fst 8 then ob (mv w) λ(x95:Bool)=>some x95 else bif ak x89.fst 8 then ob (mv w) λ(x96:Bool)=>some x96 else some false else some false)=some true:=by intro q hq;rw[eJ kN,lP _ (by decide),k9];simp only[aA];rw[show ae ms.reverse.length (ms.reverse.flatMap dP)=cO ms.reverse from rfl,k9'];simp only[aA];rw[k12];simp only[aA];rw[hz,hz2,hz3,<-hq,h8];cases z<;>rfl
  rw[cu,iV,aN (by omega) (by omega)];have main:lp Ky (BA w) w ms.length true ((ms.length:Int) -1) (cO ms) []=some true:=by
   have hlt:ms.length<w:=by omega
   refine iq ?h0 (lD (z:=Ky) (F:=BA w) (r:=some true) (w:=w) (λk (g:Dr)=>g ms.length ((ms.drop (ms.length -k)).all oS) ((ms.length:Int) -1 -k) (cO ms) ((ms.drop (ms.length -k)).reverse.flatMap dP)) ms.length ?hs ?he hlt)
   rotate_left
   ·intro k g hk;obtain⟨i,hi⟩:∃i,ms.length -(k+1)=i:=⟨_,rfl⟩;have hil:i<ms.length:=by omega
    have hik:ms.length -k=i+1:=by omega
    have hmi:=hm _ (dL hil);have e1:¬((ms.length:Int) -1 -(k:Int)<0):=by omega
    have h9:=CV W hw (ms:=[ov,ms[i]]) (λp hp=>by
     simp only[cj,jh,jj] at hp;rcases hp with rfl|rfl
     ·exact EY
     ·exact hmi) (.inl (show 2<=600 by decide)) (show 2<=2000 by decide)
    have hg:=ZA hmi;rw[hi,hik,dG hil,List.all_cons,List.reverse_cons,gq];unfold BA zo uC zk;simp only[bc,e1,cy,fu,ay];rw[show(ms.length:Int) -1 -(k:Int)=(i:Int) by omega,ct,show cO ms=aC dP ms from rfl,bW kN hil,na];simp only[bN,cH];rw[VG (by omega)];simp only[aA];rw[show∀v:Value,q9 w v=some v fromλ_=>rfl];simp only[aA];refine iq (bK (λy=>ob y _) h9) ?_;simp only[aA,cD];rw[hg];have hr1:aK (((ms.drop (i+1)).reverse.flatMap dP)).length=true:=by rw[eJ kN,List.length_reverse,dZ];simp;omega
    rw[hr1,iV,aN (by omega) (by omega),show(i:Int) -1=(ms.length:Int) -1 -((k+1:Nat):Int) by omega];have hmc:[ms[i]].flatMap dP=dP ms[i]:=by simp
    rw[hmc];cases(ms.drop (i+1)).all oS
    ·rw[Bool.and_false];rfl
    ·rw[gY];rfl
   ·intro g;have e1:((ms.length:Int) -1 -(ms.length:Int)<0):=by omega
    have h0:0<ms.length:=by omega
    rw[Nat.sub_self,eL];unfold BA zo uC zk;simp only[bc,e1,bn,cL,aE];have x0:∀K:List Value->Option Bool,aQ 14 0 (cO ms) K=K (dP ms[0]++(ms.drop 1).flatMap dP):=λK=>bW (f:=dP) kN (l:=ms) (m:=0) h0 K;rw[x0,na];simp only[bN,cH];have hlv:∀K:Nat->Option Bool,ax (az ms[0].view) K=K ms[0].view.length:=λK=>dw cx _ K;by_cases hn:ms.length=1
    ·have hb1:qF ms=!decide (ms[0].attr=0/\ms[0].fV=0/\ms[0].fW=0/\ms[0].view.length=0):=by
      rcases ms with _|⟨a,_|⟨b,r⟩⟩
      ·simp at hn
      ·rfl
      ·simp at hn
     rw[hb1,Bool.not_not] at hz1;rw[show ak (ms.length:Int) 1=true by rw[cD,bV];omega,ay];cases ha:ms.all oS with
     |false=>rw[ha,uT] at hz1;rw[aE];exact hfin false hz1
     |true=>
      rw[ha,fP] at hz1;rw[ay];by_cases a1:ms[0].attr=0
      case neg=>rw[show ak ms[0].attr 0=false by rw[cD,fI];exact a1,aE];exact hfin false (by rw[hz1,fR (λq=>a1 q.1)])
      rw[show ak ms[0].attr 0=true by rw[cD,bV];exact a1,ay];by_cases a2:ms[0].fV=0
      case neg=>rw[show ak ms[0].fV 0=false by rw[cD,fI];exact a2,aE];exact hfin false (by rw[hz1,fR (λq=>a2 q.2.1)])
      rw[show ak ms[0].fV 0=true by rw[cD,bV];exact a2,ay];by_cases a3:ms[0].fW=0
      case neg=>rw[show ak ms[0].fW 0=false by rw[cD,fI];exact a3,aE];exact hfin false (by rw[hz1,fR (λq=>a3 q.2.2.1)])
      rw[show ak ms[0].fW 0=true by rw[cD,bV];exact a3,ay,hlv];refine hfin _ ?_;rw[hz1,cD,cu,fO,bV,bV];constructor
      ·intro q;omega
      ·intro q;exact⟨a1,a2,a3,by omega⟩
    ·have hb1:qF ms=false:=by
      rcases ms with _|⟨a,_|⟨b,r⟩⟩
      ·rfl
      ·simp at hn
      ·rfl
     rw[hb1,fu,gY] at hz1;rw[show ak (ms.length:Int) 1=false by rw[cD,fI];omega,aE];exact hfin _ hz1
   ·have hd0:ms.drop (ms.length -0)=[]:=xn (by omega);simp only[hd0];rw[show(ms.length:Int) -1 -((0:Nat):Int)=(ms.length:Int) -1 by omega];rfl
  exact main
end
section
set_option maxRecDepth 100000
end
section
open Go.Shelf Go.RowKit Go.Lib Go.ChangeShapes Go.WideShapes Go.Deep
theorem Qk:Tryz.prog.cellsOf 73=4:=by kernel_rfl
theorem vM:Tryz.prog.cellsOf 3=1:=by kernel_rfl
theorem Yv:Tryz.prog.cellsOf 5=1:=by kernel_rfl
theorem Yw:Tryz.prog.cellsOf 68=3:=by kernel_rfl
theorem A9:Tryz.prog.cellsOf 28=1:=by kernel_rfl
theorem xV:Tryz.prog.cellsOf 27=1:=by kernel_rfl
theorem Yt:Tryz.prog.cellsOf 30=8:=by kernel_rfl
theorem Qj:Tryz.prog.cellsOf 32=14:=by kernel_rfl
theorem Yu:Tryz.prog.cellsOf 22=1:=by kernel_rfl
theorem Ys:Tryz.prog.cellsOf 24=1:=by kernel_rfl
section
variable{H:Type} {enc:TypeId×Value->H} {w:World} {base:Nat} {spare:Nat->Bool} {held:Bool}
variable{cs:List Value} {fs:Array Field} {fuel k:Nat} {t:TypeId} {x:DataW H×List MemPlace}
theorem iU(ht:Tryz.prog.underlying t=some (.struct fs))(h:DataW.trod enc Tryz.prog w base spare held fuel t cs=some x)(i:Nat)(f:Field)(hf:fs[i]? =some f)(hk:Tryz.prog.cellsOf f.type=k):
 ∃n y,DataW.trod enc Tryz.prog w base spare held n f.type ((cs.drop f.offset).take k)=some y:=by
 obtain⟨xs,n,_,_,_,hl,hat⟩:=DataW.trod_struct ht h;have hi:i<fs.size:=(lL.1 hf).1;subst hk;exact⟨n,_,(hat i f hf).trans (dD (by omega))⟩
theorem lenOf(ht:Tryz.prog.underlying t=some (.struct fs))(h:DataW.trod enc Tryz.prog w base spare held fuel t cs=some x)(hk:Tryz.prog.cellsOf t=k):cs.length=k:=by obtain⟨_,_,_,_,hl,_⟩:=DataW.trod_struct ht h;rw[hl,hk]
theorem wG(h:DataW.trod enc Tryz.prog w base spare held fuel 3 cs=some x):∃n,cs=[.int .i64 n]:=by obtain⟨n,e,_⟩:=DataW.trod_int Tryz.underlying3 h;exact⟨n,e⟩
theorem aeS(h:DataW.trod enc Tryz.prog w base spare held fuel 5 cs=some x):∃b:UInt8,aP (λb i=>fc w b i) (pH b) cs:=by
 obtain⟨n,rfl,_,q⟩:=DataW.trod_int Tryz.underlying5 h;have hq:0<=n/\n<=255:=by unfold Lit.wf at q;rw[bg] at q;exact⟨qw q.1,qw q.2⟩
 refine⟨UInt8.ofNat n.toNat,?_⟩;have e:pH (UInt8.ofNat n.toNat)=[.int .u8 n]:=by
  unfold pH aX;have:((UInt8.ofNat n.toNat).toNat:Int)=n:=by rw[xw];omega
  rw[this]
 rw[e];exact .cons (.int _ _) .nil
theorem B7(h:DataW.trod enc Tryz.prog w base spare held fuel 28 cs=some x):∃(l:List UInt8)(v:Value),cs=[v]/\bj (λb i=>fc w b i) (aj l) v/\l.length<=maxLen:=
 O9 pH Tryz.underlying28 Yv (by decide) (λ_ _ _ h=>aeS h) h
set_option maxRecDepth 20000 in
theorem aeU(h:DataW.trod enc Tryz.prog w base spare held fuel 73 cs=some x):∃t:aI,aP (λb i=>fc w b i) (cx t) cs:=by
 have hl:=lenOf Tryz.underlying73 h Qk
 match cs,hl with
 |[a,b,c,d],_=>obtain⟨_,_,h0⟩:=iU Tryz.underlying73 h 0 _ rfl vM;obtain⟨_,_,h1⟩:=iU Tryz.underlying73 h 1 _ rfl Yw;obtain⟨_,_,h2⟩:=iU Tryz.underlying68 h1 0 _ rfl vM;obtain⟨_,_,h3⟩:=iU Tryz.underlying68 h1 1 _ rfl vM;obtain⟨_,_,h4⟩:=iU Tryz.underlying68 h1 2 _ rfl A9;obtain⟨n0,e0⟩:=wG h0;obtain⟨n1,e1⟩:=wG h2;obtain⟨n2,e2⟩:=wG h3;obtain⟨l,v,e3,L,_⟩:=B7 h4;have e0:[a]=[.int .i64 n0]:=e0;have e1:[b]=[.int .i64 n1]:=e1;have e2:[c]=[.int .i64 n2]:=e2;have e3:[d]=[v]:=e3;cases e0;cases e1;cases e2;cases e3;exact⟨⟨n0,n1,n2,l⟩,.cons (.int _ _) (.cons (.int _ _) (.cons (.int _ _) (.cons L .nil)))⟩
theorem zd(h:DataW.trod enc Tryz.prog w base spare held fuel 27 cs=some x):∃(l:List aI)(v:Value),cs=[v]/\bj (λb i=>fc w b i) (az l) v/\l.length<=maxLen:=
 O9 cx Tryz.underlying27 Qk (by decide) (λ_ _ _ h=>aeU h) h
def Ay(p:bT):Prop:=∀l∈[p.aS.cP,p.aS.bR,p.aS.bZ,p.aS.bp,p.aS.first,p.view],l.length<=maxLen
set_option maxRecDepth 20000 in
theorem aeT(h:DataW.trod enc Tryz.prog w base spare held fuel 32 cs=some x):∃p:{p:bT//Ay p},aP (λb i=>fc w b i) (dP p.1) cs:=by
 have hl:=lenOf Tryz.underlying32 h Qj
 match cs,hl with
 |[a0,a1,a2,a3,a4,a5,a6,a7,a8,a9,a10,a11,a12,a13],_=>obtain⟨_,_,hE⟩:=iU Tryz.underlying32 h 0 _ rfl Yt;obtain⟨_,_,h0⟩:=iU Tryz.underlying30 hE 0 _ rfl vM;obtain⟨_,_,h1⟩:=iU Tryz.underlying30 hE 1 _ rfl xV;obtain⟨_,_,h2⟩:=iU Tryz.underlying30 hE 2 _ rfl xV;obtain⟨_,_,h3⟩:=iU Tryz.underlying30 hE 3 _ rfl xV;obtain⟨_,_,h4⟩:=iU Tryz.underlying30 hE 4 _ rfl xV;obtain⟨_,_,h5⟩:=iU Tryz.underlying30 hE 5 _ rfl xV;obtain⟨_,_,h6⟩:=iU Tryz.underlying30 hE 6 _ rfl A9;obtain⟨_,_,h7⟩:=iU Tryz.underlying30 hE 7 _ rfl A9;obtain⟨_,_,h8⟩:=iU Tryz.underlying32 h 1 _ rfl A9;obtain⟨_,_,h9⟩:=iU Tryz.underlying32 h 2 _ rfl A9;obtain⟨_,_,h10⟩:=iU Tryz.underlying32 h 3 _ rfl vM;obtain⟨_,_,h11⟩:=iU Tryz.underlying32 h 4 _ rfl vM;obtain⟨_,_,h12⟩:=iU Tryz.underlying32 h 5 _ rfl vM;obtain⟨_,_,h13⟩:=iU Tryz.underlying32 h 6 _ rfl xV;obtain⟨n0,e0⟩:=wG h0;obtain⟨l1,v1,e1,L1,m1⟩:=zd h1;obtain⟨l2,v2,e2,L2,m2⟩:=zd h2;obtain⟨l3,v3,e3,L3,m3⟩:=zd h3;obtain⟨l4,v4,e4,L4,m4⟩:=zd h4;obtain⟨l5,v5,e5,L5,m5⟩:=zd h5;obtain⟨l6,v6,e6,L6,_⟩:=B7 h6;obtain⟨l7,v7,e7,L7,_⟩:=B7 h7;obtain⟨l8,v8,e8,L8,_⟩:=B7 h8;obtain⟨l9,v9,e9,L9,_⟩:=B7 h9;obtain⟨n10,e10⟩:=wG h10;obtain⟨n11,e11⟩:=wG h11;obtain⟨n12,e12⟩:=wG h12;obtain⟨l13,v13,e13,L13,m13⟩:=zd h13;have e0:[a0]=[.int .i64 n0]:=e0;have e1:[a1]=[v1]:=e1;have e2:[a2]=[v2]:=e2;have e3:[a3]=[v3]:=e3;have e4:[a4]=[v4]:=e4;have e5:[a5]=[v5]:=e5;have e6:[a6]=[v6]:=e6;have e7:[a7]=[v7]:=e7;have e8:[a8]=[v8]:=e8;have e9:[a9]=[v9]:=e9;have e10:[a10]=[.int .i64 n10]:=e10;have e11:[a11]=[.int .i64 n11]:=e11;have e12:[a12]=[.int .i64 n12]:=e12;have e13:[a13]=[v13]:=e13;cases e0;cases e1;cases e2;cases e3;cases e4;cases e5;cases e6;cases e7;cases e8;cases e9;cases e10;cases e11;cases e12;cases e13;refine⟨⟨⟨⟨n0,l1,l2,l3,l4,l5,l6,l7⟩,l8,l9,n10,n11,n12,l13⟩,λl hl=>?_⟩,.cons (.int _ _) (.cons L1 (.cons L2 (.cons L3 (.cons L4 (.cons L5 (.cons L6 (.cons L7 (.cons L8 (.cons L9 (.cons (.int _ _) (.cons (.int _ _) (.cons (.int _ _) (.cons L13 .nil)))))))))))))⟩;simp only[cj,jh,jj] at hl;rcases hl with rfl|rfl|rfl|rfl|rfl|rfl<;>assumption
set_option maxRecDepth 20000 in
theorem aeR(h:DataW.trod enc Tryz.prog w base spare held fuel 24 cs=some x):∃(ms:List bT)(v:Value),cs=[v]/\bj (λb i=>fc w b i) (cO ms) v/\ms.length<=maxLen/\∀p∈ms,Ay p:=by
 have hl:=lenOf Tryz.underlying24 h Ys
 match cs,hl with
 |[a],_=>
  obtain⟨_,_,h0⟩:=iU Tryz.underlying24 h 0 _ rfl Yu;obtain⟨l,v,e,L,hm⟩:=O9 (λp:{p:bT//Ay p}=>dP p.1) Tryz.underlying22 Qj (by decide) (λ_ _ _ h=>aeT h) h0;have e:[a]=[v]:=e;cases e;refine⟨l.map (·.1),a,rfl,?_,by simpa using hm,λp hp=>?_⟩
  ·have:cO (l.map (·.1))=aC (λp:{p:bT//Ay p}=>dP p.1) l:=by
    unfold cO aC;rw[eD,List.flatMap_map]
   rw[this];exact L
  ·obtain⟨q,_,rfl⟩:=List.mem_map.1 hp;exact q.2
end
end
section
open Go.Shelf Go.RowKit Go.Lib Go.ChangeShapes Go.WideShapes Go.Deep
theorem X4(ms:List bT)(hn:ms.length<=maxLen)(hr:∀p∈ms,Ay p):Dk (maxLen+1) ms:=
 ⟨Nat.lt_succ_of_le hn,λp hp l hl=>⟨Nat.lt_succ_of_le (hr p hp l hl),Nat.lt_succ_of_le (hr p hp l hl)⟩⟩
theorem Yf{f:FuncId}{Sh:Value->Option Bool}(ok:dI Tryz.prog f [.agg [.v]] .b Sh){W:World}{ms:List bT}{v:Value}(L:bj (λb i=>fc W b i) (cO ms) v)(e:Sh (cO ms)=some true)(hp:aY (cO ms)/\bB [cO ms]=true):
 Calls Tryz.prog f #[.agg #[v]] W λe W'=>e=.returned (.bool true)/\RowKit.Below W.heap.size W W':=by
 obtain⟨_,pv,f2,f3⟩:=ok [.v (cO ms)] true e (λx hx=>by simp at hx;rw[hx];exact hp) _ rfl;have f2:some (Value.bool true,([]:List bo))=some (pv,[]):=f2;cases f2;exact P8 f3 (m:=λb i=>fc W b i) (λ_ _ _ h=>h) (.cons (.agg (.cons L .nil)) .nil)
end
section
open Go.ChangeShapes Go.WideShapes Go.ChangeAt Go.RowKit Go.Joins Go.Deep
open YtfdojmichbgpiaaGreatDoor
theorem Aw{α:Type}{f:α->List Value}(h:∀x,bO (f x)):∀l:List α,bO (l.flatMap f)
 |[]=>⟨(λ_ h=>by cases h),rfl⟩
 |x::l=>⟨λy hy=>(eM.1 hy).elim ((h x).1 y) ((Aw h l).1 y),qV _ _ (h x).2 (Aw h l).2⟩
theorem Qc(l:List UInt8):aY (aj l):=(fq (Aw (λb=>⟨λx hx=>by rw[kC.1 hx];exact .int _ _,rfl⟩) l)).1
theorem aia(l:List aI):aY (az l):=(fq (Aw (λt=>⟨λx hx=>by
 simp only[cx,cj,jh,jj] at hx;rcases hx with rfl|rfl|rfl|rfl
 ·exact .int _ _
 ·exact .int _ _
 ·exact .int _ _
 ·exact Qc _,rfl⟩) l)).1
theorem abk(l:List bT):aY (cO l)/\bB [cO l]=true:=fq (Aw (λp=>⟨λx hx=>by simp only[dP,cj,jh,jj] at hx;rcases hx with rfl|rfl|rfl|rfl|rfl|rfl|rfl|rfl|rfl|rfl|rfl|rfl|rfl|rfl;all_goals first|exact .int _ _|exact aia _|exact Qc _,rfl⟩) l)
theorem own:ownKnob Tryz.prog.godebug=none:=by kernel_rfl
theorem laidOut:laidOutB Tryz.prog=true:=by kernel_rfl
theorem wok:eW (maxLen+1):=⟨Z0 (by decide),by decide⟩
set_option maxRecDepth 100000 in
theorem YL(H:Type)(enc:TypeId×Value->H)(W:World)(base:Nat)(args:Array Value)(ds gs:List (DataW H))(before:List MemPlace)
 (hval:∀(j:Nat) t v,Tryz.f3.params[j]? =some t->args[j]? =some v->Value.okWide Tryz.prog W .any base t v)
 (hW:DataW.Whole enc Tryz.prog Tryz.f3.params.toList Rows.limitsEachSpec.vars false W args.toList ds gs before):
 Calls Tryz.prog 3 args W λe W'=>∃v,e=.returned v/\Rows.limitsEachSpec.post enc Tryz.prog Tryz.f3 false true false false W args v W':=by
 have hW':=hW;obtain⟨p,q,hA0,hV,rfl,hfz,hnd⟩:=hW;have hA:DataW.TrodAll enc Tryz.prog W 0 (λ_=>true) true Tryz.f3.params.toList args.toList ds p:=hA0;rw[Tryz.params3] at hA hval;obtain⟨v1,vs1,d1,ds1,p1,q1,hargs,rfl,rfl,h1,r1⟩:=trodAll_cons hA;obtain⟨rfl,rfl,rfl⟩:=trodAll_nil r1;obtain rfl:args=#[v1]:=by cases args;simp_all
 obtain⟨rfl,rfl⟩:=trodVars_none hV;have k1:=h1;have lt1:∀x∈p1,x.block<W.heap.size:=by obtain⟨m,hm⟩:=k1;exact DataW.trod_lt m _ _ _ hm
 obtain⟨D,rfl,_⟩:=okWide_struct Tryz.underlying24 (hval 0 24 v1 rfl rfl);obtain⟨fuel,hf⟩:=h1;obtain⟨ms,v,e,L,hn,hr⟩:=aeR hf;have hD:D=#[v]:=by
  have:D.toList=[v]:=by simpa[Value.cells] using e
  cases D;simp_all
 subst hD;clear hA0;refine(Yf (ok3 (maxLen+1)) L (ahc wok (by decide) (X4 ms hn hr)) (abk ms)).mono λe W' ⟨he,bel⟩=>?_;subst he;exact⟨_,rfl,_,_,_,[],_,[],hW',trodAll_mk1 (shut_bool Tryz.underlying4 _),(trodAll_cons_mk (Below.trod laidOut (by kernel_rfl) (qw (by kernel_rfl)) k1 bel lt1) trodAll_mk0),rfl,Below.frame bel _,λh=>by cases h⟩
end
section
open Go.ChangeShapes Go.WideShapes Go.ChangeAt Go.RowKit Go.Joins Go.Deep
open YtfdojmichbgpiaaGreatDoor
def Jj:Array Value:=#[.agg #[.slice none 0 0]]
def aaG:List (String×DataW Unit):=Rows.limitsEachRow.laid
theorem Y3(os:Os)(args:Array Value):laidMetH Tryz.prog aaG ((World.doorLaid Tryz.prog 400 os).forCall (λ_ _=>0) ⟨#[],args,[]⟩).memory:=
 laidMetH_of_parts3 (fuel:=8) (laidMet_of_run' 8 (by kernel_rfl) (by kernel_rfl)) (by kernel_rfl) (by kernel_rfl)
theorem aeV(os:Os){H:Type}(enc:TypeId×Value->H):∃places,DataW.whole enc Tryz.prog ((World.doorLaid Tryz.prog 400 os).forCall (λ_ _=>0) ⟨#[],Jj,[]⟩).memory Tryz.f3.params.toList Rows.limitsEachSpec.vars false Jj.toList 8=some ([.agg [.nil]],[],places):=
 ⟨[],by kernel_rfl⟩
set_option maxRecDepth 100000 in
theorem aaT(os:Os)(started:os.Started)(H:Type)(enc:TypeId×Value->H)(F:Stop.Interp):
 ReturnsInHanded {} Tryz.checked os 3 .any ((OpenSpec.ofChange Rows.limitsEachSpec).preRow enc Tryz.prog Tryz.f3 Rows.limitsEachRow.domain false Rows.limitsEachRow.laid) (((OpenSpec.ofChange Rows.limitsEachSpec).at F).post enc Tryz.prog Tryz.f3 false true false false):=by
 obtain⟨places,hx⟩:=aeV os enc;refine returnsInHanded_of_row (C:=Tryz.checked) (s:=OpenSpec.ofChange Rows.limitsEachSpec) own started (by kernel_rfl) Tryz.func3
  (witness_row_atRef (enc:=enc) (C:=Tryz.checked) false (World.doorLaid Tryz.prog 400 os) Jj rfl (by kernel_rfl) (by kernel_rfl) (by kernel_rfl)
   (OpenSpec.preRow_of_cond 8 hx (by kernel_rfl) (λk hk=>by cases hk) (by kernel_rfl) (Y3 os _))) ?_
 intro W base args ds gs before hval hW _ _ _ hL hsh _;exact YL H enc W base args ds gs before hval hW
end
end Lt
section
namespace lawEach
open Go.Proofs.YtfdojmichbgpiaaGreatDoor
theorem aat:(Rows.limitsEachRow.inPlace==Tryz.prog.inPlace 3)=true:=by kernel_rfl
end lawEach
end
section
namespace lawEach
open Go.Proofs.YtfdojmichbgpiaaGreatDoor
theorem aau:(Rows.limitsEachRow.unfollowed==Tryz.prog.unfollowed 3)=true:=by kernel_rfl
end lawEach
end
section
namespace lawEach
open Go.Proofs.YtfdojmichbgpiaaGreatDoor
theorem aav:(Rows.limitsEachRow.recurses==Tryz.prog.recurses 3)=true:=by kernel_rfl
end lawEach
end
section
namespace lawEach
open Go.Proofs.YtfdojmichbgpiaaGreatDoor
theorem aaw:(Rows.limitsEachRow.named==Tryz.prog.varsNamed 3)=true:=by kernel_rfl
end lawEach
end
section
namespace lawEach
open Go.Proofs.YtfdojmichbgpiaaGreatDoor
theorem aaA:Tryz.pinned.checked.prog.mainIs=some (Rows.limitsEachCard.stood.harness.1,Rows.limitsEachCard.stood.harness.2.toList):=by kernel_rfl
end lawEach
end
section
namespace lawEach
open Go.Proofs.YtfdojmichbgpiaaGreatDoor
theorem ZV{P:Program}(h:(P.funcs.toList.all λfn=>!fn.goes)=true){c:OpenClaim}(hs:c.start=.entering):false=c.goesBy P:=by
 have h1:∀fn∈P.funcs.toList,fn.goes=false:=by intro fn hf;have:=jf.1 h fn hf;simpa using this
 have h2:P.funcs.any Func.goes=false:=by rw[<-Array.any_toList];rw[List.any_eq_false];intro fn hf;rw[h1 fn hf];exact Bool.false_ne_true
 have h3:∀f,P.goes f=false:=by
  intro f;unfold Program.goes;rw[h2,Bool.and_false,Bool.or_false];rw[List.any_eq_false];intro g _ hg;cases hf:P.funcs[g]? with
  |none=>rw[hf] at hg;cases hg
  |some fn=>
   rw[hf] at hg;have h4:fn∈P.funcs.toList:=by have:=Array.mem_of_getElem? hf;simpa using this
   have h5:fn.goes=true:=hg;rw[h1 fn h4] at h5;cases h5
 unfold OpenClaim.goesBy Program.goesAt Program.goesFrom;rw[hs];cases P.funcNamed c.func with
 |none=>rfl
 |some f=>show false=(P.goes f||false);rw[h3 f];rfl
theorem aaB:(Tryz.prog.funcs.toList.all λfn=>!fn.goes)=true:=by kernel_rfl
theorem aay:false=Rows.limitsEachRow.goesBy Tryz.pinned.checked.prog:=ZV aaB rfl
end lawEach
end
section
namespace lawEach
open Go.Proofs.YtfdojmichbgpiaaGreatDoor
theorem aaz:true=Tryz.pinned.checked.prog.looks []:=by kernel_rfl
theorem aaC:Rows.limitsEachRow.wfByText (OpenSpec.ofChange Rows.limitsEachSpec)=true:=by kernel_rfl
end lawEach
end
section
open Go.Proofs.YtfdojmichbgpiaaGreatDoor
section
namespace lawEach
open Go.ChangeShapes Go.WideShapes Go.ChangeAt Go.RowKit Go.Joins Go.Deep
theorem aaD{P:Program}{f:FuncId}{fn:Func}{s:ChangeSpec}{c:OpenClaim}
 (h1:(c.wf (OpenSpec.ofChange s)&&laidOutB P&&mapsRowed P&&fn.params.all (P.readableRec ·)&&namedTie P c.named s.vars&&(c.stops==[])&&(P.stops==[])&&(c.knobs==[])&&(P.stopKnobs==[]))=true)
 (h2:(c.inPlace==P.inPlace f)=true) (h3:(c.unfollowed==P.unfollowed f)=true) (h4:(c.recurses==P.recurses f)=true) (h5:(c.named==P.varsNamed f)=true)
 (h:∀b:Bool,b=true->(b&&(c.maps==(fn.params.toList++s.plain.varTypes P).any (P.mapsRec ·))&&(c.ifaces==(fn.params.toList++s.plain.varTypes P).any (P.ifacesRec ·))&&(c.mapsOut==P.mapsAmong fn.resultTypes.toList)&&
 (c.loops==(fn.params.toList++s.plain.varTypes P).any (P.loopsFrom ·))&&(c.wideKeys==(fn.params.toList++s.plain.varTypes P++fn.resultTypes.toList).any (P.wideKeysFrom ·))&&
 s.vars.all (P.varReadable ·)&&fn.resultTypes.all (λt=>P.readableRec t&&decide (t<P.types.size))&&(c.ifacesOut==fn.resultTypes.toList.any (P.ifacesRec ·))&&(c.loopsOut==fn.resultTypes.toList.any (P.loopsFrom ·))&&(c.plainKeys==P.plainKeys)&&c.shortTexts.isNone&&P.stopsHeard&&P.mayEnter&&(c.lifted==P.liftsFinal)&&(P.make==some c.make)&&(c.kinds==(if c.domain.isEmpty then[] else fn.params.toList.map λt=>match P.underlying t with|some (.int k)=>some k|_=>none))&&(c.pinned==c.pinnedBy)&&
 (c.veiled==(fn.params.toList++s.plain.varTypes P++fn.resultTypes.toList).any (P.veiledRec ·))&&c.veiledFits P fn.params.toList (fn.params.toList++s.plain.varTypes P++fn.resultTypes.toList))=true):joinedFacts P f fn s c=true:=by
 unfold joinedFacts;rw[h1,h2,h3,h4,h5];exact h _ rfl
theorem aax:(Rows.limitsEachRow.wf (OpenSpec.ofChange Rows.limitsEachSpec)&&laidOutB Tryz.prog&&mapsRowed Tryz.prog&&Tryz.f3.params.all (Tryz.prog.readableRec ·)&&namedTie Tryz.prog Rows.limitsEachRow.named Rows.limitsEachSpec.vars&&(Rows.limitsEachRow.stops==[])&&(Tryz.prog.stops==[])&&(Rows.limitsEachRow.knobs==[])&&(Tryz.prog.stopKnobs==[]))=true:=by kernel_rfl
set_option maxRecDepth 100000 in
set_option maxHeartbeats 4000000 in
theorem said:Rows.LimitsEachSaid:=
 OpenClaim.holds_of_cond 3 Tryz.f3 rfl rfl rfl rfl rfl rfl rfl ⟨rfl,rfl,rfl,rfl,rfl⟩ rfl rfl rfl rfl rfl (by as_aux_lemma=>kernel_rfl) Tryz.func3 (aaD aax aat aau aav aaw (λb hb=>by as_aux_lemma=>(subst hb;kernel_rfl)))
  (qw (by as_aux_lemma=>kernel_rfl)) (by unfold Func.isWrapper;first|(rw[ar (by decide+kernel)];kernel_rfl)|(rw[ai (by decide+kernel)];exact⟨rfl,rfl⟩))
  (λos started H enc _ F=>by rw[OpenClaim.pre_eq_preRow];exact Lt.aaT os started H enc F)
end lawEach
end
section
namespace lawEach
open Go.ChangeShapes Go.WideShapes Go.ChangeAt Go.RowKit Go.Joins Go.Deep
theorem plain(f:FuncId)(fn:Func)(hf:Tryz.pinned.checked.prog.funcNamed "tintype/tintypelaw30.LimitsEach"=some f)(hfn:Tryz.pinned.checked.prog.funcs[f]? =some fn):
 true=Tryz.pinned.checked.prog.looks []/\∀(j:Nat) t,fn.params[j]? =some t->Tryz.pinned.checked.prog.wantsStandIn t=false:=by
 obtain rfl:f=3:=bu ((show Tryz.prog.funcNamed "tintype/tintypelaw30.LimitsEach"=some 3 by kernel_rfl).symm.trans hf)|>.symm;obtain rfl:fn=Tryz.f3:=(bu (Tryz.func3.symm.trans hfn)).symm;refine⟨aaz,λj t ht=>?_⟩;rw[Tryz.params3] at ht;have h3:t=24:=by have:=Array.mem_of_getElem? ht;simpa using this
 subst h3;exact(show Tryz.prog.wantsStandIn 24=false by kernel_rfl)
theorem card:Rows.LimitsEachCardSaid:=
 Claim7.holds_tied_plain_at .later [] _ _ _ _ said (λ_ h=>by cases h) aaC (λ_ h=>by cases h) limitsEach_row_tie rfl ⟨rfl,rfl⟩ aaA rfl plain aay
end lawEach
end
end
end Go.Proofs.YtfdojmichbgpiaaGreatDoor

import Derived.Deep.Slices
import Derived.Deep.Fields
import Derived.OpenShut
import Derived.ProofKit
import Derived.ChangeSame
import Derived.Test.YtcfjfbeadhnknaaGreatDoorCards
import Derived.Test.YtcfjfbeadhnknaaGreatDoorTie
import Derived.Deep.DeepHandedRow
import Derived.Deep.DeepWitnessRowRef
import Derived.Lib.LaidTab
import Derived.LaidMore
import Derived.MakeChecks
import Derived.Lib.SmallJoins
import Derived.Test.YtcfjfbeadhnknaaGreatDoorTH
namespace Go.Proofs.YtcfjfbeadhnknaaGreatDoor
set_option linter.unusedVariables false
set_option linter.unusedSimpArgs false
set_option linter.unusedSectionVars false
set_option linter.constructorNameAsVariable false
set_option maxRecDepth 100000
set_option maxHeartbeats 2000000
namespace Lt
section
set_option linter.unusedVariables false
set_option linter.unusedSimpArgs false
set_option linter.unusedSectionVars false
set_option linter.constructorNameAsVariable false
def fm(p:cy):List Value:=[.int .i64 p.attr,.int .i64 p.size,.int .i64 p.at_,.int .i64 p.fA,.int .i64 p.fC]
theorem nv(p:cy):(fm p).length=5:=rfl
def eW(l:List cy):Value:=aA fm l
theorem Aw{w:Nat}(hw:8<=w)(n:Int){o:Int}(ho:o=1\/o=2):ig w n 4 o=some (if 0<=n/\n<4294967296 then(ag (aW n.toNat 4 o),true) else(ae 0 [],false)):=by
 rw[rN hw,au (by rcases ho with rfl|rfl<;>rfl),show(4:Int).toNat=4 from rfl,KA]
 grind
theorem u0{w:Nat}(hw:8<=w)(n:Int){o:Int}(ho:o=1\/o=2):ig w n 2 o=some (if 0<=n/\n<65536 then(ag (aW n.toNat 2 o),true) else(ae 0 [],false)):=by
 rw[rN hw,au (by rcases ho with rfl|rfl<;>rfl),show(2:Int).toNat=2 from rfl,show o7 n 2 o=if 0<=n/\n<65536 then some (aW n.toNat 2 o) else none from rfl]
 grind
theorem Eg(l:List UInt8)(hl:l.length<=100):(aG l.length&&(l.map aV).length.beq (l.length*1))=true:=by
 rw[(show aG l.length=true from by simp;omega),cH,gA,mQ];rfl
theorem Eh(X:List Value)(l:List UInt8)(hX:X.length<=100)(hl:l.length<=100):(aG X.length&&(aG l.length&&(l.map aV).length.beq (l.length*1)))=true:=by
 rw[(show aG X.length=true from by simp;omega),Eg l hl];rfl
theorem Fk{w:Nat}(hw:8<=w)(p:cy){o:Int}(ho:o=1\/o=2):Be w p.attr p.size p.at_ p.fA p.fC o=some (if jT p=true then(ag (dG o p),true) else(ae 0 [],false)):=by
 unfold Be Bj kN
 simp only[az]
 unfold jT
 rw[Aw hw _ ho]
 by_cases h1:0<=p.attr/\p.attr<4294967296
 case neg=>
  rw[ai h1,ai (by simp only[bZ];exactλq=>h1 q.1)]
  rfl
 rw[au h1]
 simp only[az,aC]
 rw[gV,gR,Eg _ (by rw[er];omega),Aw hw _ ho]
 by_cases h2:0<=p.size/\p.size<4294967296
 case neg=>
  rw[ai h2,ai (by simp only[bZ];exactλq=>h2 q.2.1)]
  rfl
 rw[au h2]
 simp only[az,aC]
 rw[gV,gR,Eh _ _ (by simp[er]) (by rw[er];omega),Aw hw _ ho]
 by_cases h3:0<=p.at_/\p.at_<4294967296
 case neg=>
  rw[ai h3,ai (by simp only[bZ];exactλq=>h3 q.2.2.1)]
  rfl
 rw[au h3]
 simp only[az,aC]
 rw[gV,gR,Eh _ _ (by simp[er]) (by rw[er];omega),u0 hw _ ho]
 by_cases h4:0<=p.fA/\p.fA<65536
 case neg=>
  rw[ai h4,ai (by simp only[bZ];exactλq=>h4 q.2.2.2.1)]
  rfl
 rw[au h4]
 simp only[az,aC]
 rw[gV,gR,Eh _ _ (by simp[er]) (by rw[er];omega),u0 hw _ ho]
 by_cases h5:0<=p.fC/\p.fC<65536
 case neg=>
  rw[ai h5,ai (by simp only[bZ];exactλq=>h5 q.2.2.2.2)]
  rfl
 rw[au h5,au (by rw[bZ];exact⟨h1,h2,h3,h4,h5⟩)]
 simp only[az,aC]
 rw[gV,gR,Eh _ _ (by simp[er]) (by rw[er];omega)]
 congr 2
 rw[nP]
 unfold dG
 simp
theorem ae3{w:Nat}(hw:100<w)(n:Nat)(hn:n<4294967296):Fl w 4 (ae 1 [Value.int IntKind.i64 (n:Int)])=some (4,1,ag (ee n 4),true):=by
 unfold Fl LD
 rw[xN,show kindOf 4=(4,4,1) from rfl]
 simp
 have h211:FH w 4 (ae 1 [Value.int IntKind.i64 (n:Int)]) 4 4 1=some (4,1,true,(ee n 4).map aV):=by
  unfold FH
  have hl:∀K:Nat->Option (Int×Int×Bool×List Value),aq (ae 1 [Value.int IntKind.i64 (n:Int)]) K=K 1:=λ_=>rfl
  rw[hl,hl,dQ _ _ (by omega),show ak 0 (Int.ofNat 1)=true from rfl,show(0:Int)=((0:Nat):Int) from rfl,bP,(show∀K:List Value->Option (Int×Int×Bool×List Value),aO 1 0 (ae 1 [Value.int IntKind.i64 (n:Int)]) K=K [Value.int IntKind.i64 (n:Int)] fromλ_=>rfl)]
  simp only[bh,bQ]
  have h212:FI w 4 4 1 (n:Int)=some (ag (ee n 4),true):=by
   unfold FI LH
   rw[Aw (by omega) _ (.inr rfl),au (by omega)]
   rfl
  rw[h212]
  simp only[az]
  rw[gV,gR,gA,oK,aB,dQ _ _ (by omega),show ah IntKind.i64 (Int.add ((0:Nat):Int) 1)=1 from rfl,show ak 1 (Int.ofNat 1)=false from rfl,aC,fU,cH,kE,<-nP]
  rfl
 rw[h211]
 simp
 rw[nP]
def VS(view:List aI):Prop:=view.length<=9000/\∀t∈view,t.data.length<=9000
theorem ahj{w:Nat}(W:dM w){o:Int}(ho:o=1\/o=2){view:List aI}(hv:VS view)(hr:cV 5 view=true)(h0:view.length≠0):oF w 10000 nL o (lD o view).dO:=by
 have hl:=hv.1
 refine NN W Wr (afq (by have:=W.kg;omega)) (by decide) (λs hs=>?_) ho (by simp[lD]) (by simp[lD]) (λd hd'=>?_) (by simp[lD,kJ,fX,jM]) (by simp[lD,iK,dE,iA]) (We hr h0 (by omega))
 ·have:s=0:=by simp[nL] at hs;omega
  rw[this];decide
 ·simp[lD] at hd'
  subst hd'
  exact⟨by omega,by show 0<=_;omega,by show 0<=_;omega,λt ht=>by have:=hv.2 t ht;omega,trivial⟩
theorem agv{w:Nat}(W:dM w)(o:Int){view:List aI}(hv:VS view):Gx w o (ay view)=some (match yv o view with| .ok b=>(ag b,0)| .error e=>(ae 0 [],e)):=by
 have hb:=W.kg
 have hl:=hv.1
 have hlen:∀K:Nat->Option (Value×Int),aq (ay view) K=K view.length:=λK=>cd cq view K
 unfold Gx yv LA
 by_cases ho:o=1\/o=2
 case neg=>
  rw[au (.inl ho)]
  rw[(show aj o 1=false from by rw[cu,gJ];exactλq=>ho (.inl q)),(show aj o 2=false from by rw[cu,gJ];exactλq=>ho (.inr q))]
  rfl
 have hrest:(aq (ay view) λ(x2:Nat)=>bif aj (Int.ofNat x2) 0 then some (ae 0 [],1) else ob (oq w 5 (ay view)) λ(x3:Bool)=>bif !x3 then some (ae 0 [],6) else ob (Fo w) λx4=>ob (vl w o (ae 1 (List.drop 0 [ay view,ae 0 [],ae 0 []])) x4) λx5=>some (x5.fst,x5.snd))=some (match(if¬(o=1\/o=2)\/view.length=0 then .error 1 else if cV 5 view=false then .error 6 else if 65533<4+gP (lD o view) then .error 7 else .ok (gy++ed (lD o view) nL):Except Int (List UInt8)) with| .ok b=>(ag b,0)| .error e=>(ae 0 [],e)):=by
  rw[hlen]
  by_cases h0:view.length=0
  ·rw[au (.inr h0),h0]
   rfl
  have e1:aj (Int.ofNat view.length) 0=false:=by rw[cu,gJ,cm];omega
  rw[ai (by intro q;rcases q with q|q;exact q ho;exact h0 q),e1,rO (by omega) 5 view (by omega) (λt ht=>by have:=hv.2 t ht;omega) (by omega)]
  cases hr:cV 5 view with
  |false=>rfl
  |true=>
   have T:=ahj W ho hv hr h0
   have e2:Fo w=some (cf nL):=rfl
   rw[e2]
   simp only[az,aC]
   have e3:ae 1 (List.drop 0 [ay view,ae 0 [],ae 0 []])=cU (lD o view).dO:=by
    show _=ae 1 (cZ (.mk view .nil [])++[])
    rfl
   rw[e3,(UU T),show(⟨o,(lD o view).dO⟩:mj)=lD o view from rfl]
   by_cases h7:65533<4+gP (lD o view)
   ·rw[au h7,au h7];rfl
   ·rw[ai h7,ai h7];rfl
 rcases ho with rfl|rfl<;>simp_all
end
section
set_option linter.unusedVariables false
set_option linter.unusedSimpArgs false
set_option linter.unusedSectionVars false
set_option linter.constructorNameAsVariable false
structure aZ where
 aF:dr
 cj:List UInt8
 core:List UInt8
 attr:Int
 fA:Int
 fC:Int
 view:List aI
def fQ(p:aZ):List Value:=[.int .i64 p.aF.order,ay p.aF.ct,ay p.aF.bI,ay p.aF.bN,ay p.aF.bn,ay p.aF.first,ag p.aF.bH,ag p.aF.cP,ag p.cj,ag p.core,.int .i64 p.attr,.int .i64 p.fA,.int .i64 p.fC,ay p.view]
theorem nY(p:aZ):(fQ p).length=14:=rfl
def cR(l:List aZ):Value:=aA fQ l
theorem oW(p:aZ)(r:List Value):fQ p++r=.int .i64 p.aF.order::ay p.aF.ct::ay p.aF.bI::ay p.aF.bN::ay p.aF.bn::ay p.aF.first::ag p.aF.bH::ag p.aF.cP::ag p.cj::ag p.core::.int .i64 p.attr::.int .i64 p.fA::.int .i64 p.fC::ay p.view::r:=rfl
def TS(l:List aI):Prop:=l.length<=60/\∀t∈l,t.data.length<=600
structure eZ(p:aZ):Prop where
 t0:TS p.aF.ct
 t2:TS p.aF.bI
 t3:TS p.aF.bN
 t4:TS p.aF.bn
 t1:TS p.aF.first
 tv:TS p.view
 ZT:p.aF.bH.length<=2000
 th:p.aF.cP.length<=2000
 ic:p.cj.length<=2000
 co:p.core.length<=2000
theorem eZ.uz{p:aZ}(h:eZ p):jI p.aF 9000:=by
 obtain⟨⟨a0,b0⟩,⟨a2,b2⟩,⟨a3,b3⟩,⟨a4,b4⟩,⟨a1,b1⟩,-,m1,m2,-,-⟩:=h
 exact⟨⟨by omega,by omega,by omega,by omega,by omega⟩,λt ht=>by have:=b0 t ht;omega,λt ht=>by have:=b2 t ht;omega,λt ht=>by have:=b3 t ht;omega,λt ht=>by have:=b4 t ht;omega,λt ht=>by have:=b1 t ht;omega,by omega,by omega⟩
theorem eZ.vs{p:aZ}(h:eZ p):VS p.view:=⟨by have:=h.tv.1;omega,λt ht=>by have:=h.tv.2 t ht;omega⟩
def jL(p:aZ):Bool:=match iI p.aF with| .ok _=>false| .error _=>true
def yR(_:aZ):Bool:=false
def nM(p:aZ):Bool:=!mZ p.core
def oJ(p:aZ):Bool:=!decide ((0<=p.attr/\p.attr<4294967296)/\(0<=p.fA/\p.fA<65536)/\(0<=p.fC/\p.fC<65536))
def nN(p:aZ):Bool:=!cV 5 p.view
theorem Oo{x:dr}{e:Int}(h:iI x=.error e):e≠0:=by
 unfold iI at h
 grind
theorem aeU{w:Nat}(W:dM w){p:aZ}(h:eZ p)(a b c:Int)(v x y:Value):E8 w p.aF.order (ay p.aF.ct) (ay p.aF.bI) (ay p.aF.bN) (ay p.aF.bn) (ay p.aF.first) (ag p.aF.bH) (ag p.aF.cP) x y a b c v=some (jL p):=by
 unfold E8 jL
 rw[M8 W h.uz]
 cases he:iI p.aF with
 |ok b=>rfl
 |error e=>
  have:=Oo he
  simp_all
theorem aeV{w:Nat}(W:dM w){p:aZ}(h:eZ p)(o a b c:Int)(v x1 x2 x3 x4 x5 x6 x7 y:Value):E9 w o x1 x2 x3 x4 x5 x6 x7 (ag p.cj) y a b c v=some (yR p):=by
 have hi:=h.ic
 unfold E9 yR
 rw[cJ,cm,Vq w _ (by omega)]
 simp only[az,aT]
 have:wC p.cj.length<=1:=by unfold wC;omega
 rw[fe (by omega)]
theorem aeW{w:Nat}(W:dM w){p:aZ}(h:eZ p)(o a b c:Int)(v x1 x2 x3 x4 x5 x6 x7 x8:Value):Fa w o x1 x2 x3 x4 x5 x6 x7 x8 (ag p.core) a b c v=some (nM p):=by
 have hb:=W.kg
 have hi:=h.co
 unfold Fa nM
 rw[Ni _ (by omega) (by omega)]
 rfl
theorem aeX{w:Nat}(W:dM w)(p:aZ)(o:Int)(v x1 x2 x3 x4 x5 x6 x7 x8 x9:Value):Fb w o x1 x2 x3 x4 x5 x6 x7 x8 x9 p.attr p.fA p.fC v=some (oJ p):=by
 have hb:=W.kg
 unfold Fb oJ
 rw[Aw (by omega) _ (.inr rfl),u0 (by omega) _ (.inr rfl),u0 (by omega) _ (.inr rfl)]
 by_cases h1:0<=p.attr/\p.attr<4294967296
 ·by_cases h2:0<=p.fA/\p.fA<65536
  ·by_cases h3:0<=p.fC/\p.fC<65536
   ·simp_all
   ·simp[h3]
  ·simp[h2]
 ·simp[h1]
theorem aeY{w:Nat}(W:dM w){p:aZ}(h:eZ p)(o a b c:Int)(x1 x2 x3 x4 x5 x6 x7 x8 x9:Value):Fc w o x1 x2 x3 x4 x5 x6 x7 x8 x9 a b c (ay p.view)=some (nN p):=by
 have hb:=W.kg
 obtain⟨a1,b1⟩:=h.tv
 unfold Fc nN
 rw[rO (by omega) 5 p.view (by omega) (λt ht=>by have:=b1 t ht;omega) (by omega)]
 rfl
theorem aff{w:Nat}(W:dM w){l:List aZ}(h:∀p∈l,eZ p)(hl:l.length<=2000):Mu w (cR l)=some (db jL l):=by
 have hb:=W.kg
 refine mB l jL (ev:=λi (g:Value->Int->Int->Option Int)=>g (aA fQ l) l.length i) ?_ ?_ (by omega)
 ·intro i g hi
  simp_all
  rw[bu nY hi,oW]
  simp
  rw[aeU W (h _ (cM hi)),aM (by omega) (by omega)]
  simp
 simp
theorem afg{w:Nat}(W:dM w){l:List aZ}(h:∀p∈l,eZ p)(hl:l.length<=2000):Mv w (cR l)=some (db yR l):=by
 have hb:=W.kg
 refine mB l yR (ev:=λi (g:Value->Int->Int->Option Int)=>g (aA fQ l) l.length i) ?_ ?_ (by omega)
 ·intro i g hi
  simp_all
  rw[bu nY hi,oW]
  simp
  rw[aeV W (h _ (cM hi)),aM (by omega) (by omega)]
  simp
 simp
theorem afh{w:Nat}(W:dM w){l:List aZ}(h:∀p∈l,eZ p)(hl:l.length<=2000):Mw w (cR l)=some (db nM l):=by
 have hb:=W.kg
 refine mB l nM (ev:=λi (g:Value->Int->Int->Option Int)=>g (aA fQ l) l.length i) ?_ ?_ (by omega)
 ·intro i g hi
  simp_all
  rw[bu nY hi,oW]
  simp
  rw[aeW W (h _ (cM hi)),aM (by omega) (by omega)]
  simp
 simp
theorem afi{w:Nat}(W:dM w){l:List aZ}(h:∀p∈l,eZ p)(hl:l.length<=2000):Mx w (cR l)=some (db oJ l):=by
 have hb:=W.kg
 refine mB l oJ (ev:=λi (g:Value->Int->Int->Option Int)=>g (aA fQ l) l.length i) ?_ ?_ (by omega)
 ·intro i g hi
  simp_all
  rw[bu nY hi,oW]
  simp
  rw[aeX W,aM (by omega) (by omega)]
  simp
 simp
theorem afj{w:Nat}(W:dM w){l:List aZ}(h:∀p∈l,eZ p)(hl:l.length<=2000):My w (cR l)=some (db nN l):=by
 have hb:=W.kg
 refine mB l nN (ev:=λi (g:Value->Int->Int->Option Int)=>g (aA fQ l) l.length i) ?_ ?_ (by omega)
 ·intro i g hi
  simp_all
  rw[bu nY hi,oW]
  simp
  rw[aeY W (h _ (cM hi)),aM (by omega) (by omega)]
  simp
 simp
end
section
set_option linter.unusedVariables false
set_option linter.unusedSimpArgs false
set_option linter.unusedSectionVars false
set_option linter.constructorNameAsVariable false
end
section
set_option linter.unusedVariables false
set_option linter.unusedSimpArgs false
set_option linter.unusedSectionVars false
set_option linter.constructorNameAsVariable false
noncomputable def QE(w:Nat)(x0:Int)(x1 x3 x5 x7:Value):Option (Int×Value×Value×Bool):=
 ob (kv w 45058 7 x3 x5 x7) λ(x78:Value×Value×Value×Value)=>ob (kv w 45057 4 x78.snd.fst x78.snd.snd.fst x78.snd.snd.snd) λ(x79:Value×Value×Value×Value)=>ob (jB w x79.fst 0 4 2) λ(x80:Int×Bool)=>bif !x80.snd then some (0,ae 0 [],ae 0 [],false) else bif ak x80.fst 2 then some (0,ae 0 [],ae 0 [],false) else aq x78.fst λ(x81:Nat)=>bif !aj (Int.ofNat x81) (ah IntKind.i64 (Int.mul 16 x80.fst)) then some (0,ae 0 [],ae 0 [],false) else ob (kv w 45057 4 x79.snd.fst x79.snd.snd.fst x79.snd.snd.snd) λ(x82:Value×Value×Value×Value)=>aq x82.fst λ(x83:Nat)=>bif !aj (Int.ofNat x83) 4 then some (0,ae 0 [],ae 0 [],false) else ob (kv w 45056 7 x82.snd.fst x82.snd.snd.fst x82.snd.snd.snd) λ(x84:Value×Value×Value×Value)=>dN 1 x84.fst λ(x85:Nat)(x86:List Value)=>ob (pw x86) λ(x87:List Int)=>bif !mm (mkStr x87).data.toList (ByteArray.mk #[48,49,48,48]).data.toList then some (0,ae 0 [],ae 0 [],false) else lp Jh (zG w) w x78.fst 0 x0 x1 0 (ae 0 []) x0 (ae 0 []) [] []
theorem JC{w:Nat}(hw:5<=w)(b:List UInt8)(hb:b.length<2^50){o:Int}(ho:o=1\/o=2)(p s:Nat)(hs:s=2\/s=4)(hp:p+s<=b.length):jB w (ag b) (p:Int) (s:Int) o=some ((cc b p s o:Int),true):=by
 have:=wM (l:=b) (p:=p) (s:=s) (order:=o) (by omega) ho (by omega)
 unfold cc
 rw[A9 hw b (by omega) _ _ _ (by omega),this]
 simp
theorem aeT{w:Nat}(hw:5<=w)(b:List UInt8)(hb:b.length<2^50){o:Int}(ho:o=1\/o=2)(p:Nat)(hp:p+16<=b.length):Ba w (ag b) (p:Int) o=some ((nu b p o).attr,(nu b p o).size,(nu b p o).at_,(nu b p o).fA,(nu b p o).fC):=by
 have n4:∀q:Nat,q+4<=b.length->jB w (ag b) (q:Int) 4 o=some ((cc b q 4 o:Int),true):=λq hq=>JC hw b hb ho q 4 (.inr rfl) hq
 have n2:∀q:Nat,q+2<=b.length->jB w (ag b) (q:Int) 2 o=some ((cc b q 2 o:Int),true):=λq hq=>JC hw b hb ho q 2 (.inl rfl) hq
 unfold Ba Bj kN
 simp only[az,bT]
 rw[aM (n:=(p:Int)+4) (by omega) (by omega),aM (n:=(p:Int)+4+4) (by omega) (by omega),aM (n:=(p:Int)+4+4+4) (by omega) (by omega),aM (n:=(p:Int)+4+4+4+2) (by omega) (by omega)]
 rw[show(p:Int)+4+4+4+2=((p+14:Nat):Int) by omega,show(p:Int)+4+4+4=((p+12:Nat):Int) by omega,show(p:Int)+4+4=((p+8:Nat):Int) by omega,show(p:Int)+4=((p+4:Nat):Int) by omega]
 rw[n4 p (by omega),n4 (p+4) (by omega),n4 (p+8) (by omega),n2 (p+12) (by omega),n2 (p+14) (by omega)]
 simp only[az]
 rfl
theorem Ko(b:List UInt8)(o:Int):∀(n p:Nat),(placesOf b o p n).length=n
 |0,_=>rfl
 |n+1,p=>by show(placesOf b o (p+16) n).length+1=n+1;rw[Ko]
theorem Th(b:List UInt8)(o:Int):∀(n p i:Nat)(h:i<(placesOf b o p n).length),(placesOf b o p n)[i]=nu b (p+16*i) o
 |0,_,i,h=>absurd h (Nat.not_lt_zero _)
 |n+1,p,0,h=>rfl
 |n+1,p,i+1,h=>by
  show(placesOf b o (p+16) n)[i]'(by simpa[placesOf] using h)=_
  rw[Th b o n (p+16) i]
  congr 1
  omega
def vN:List aS->List aI->List aI
 |[],v=>v
 | .mk tags _ _::r,_=>vN r tags
theorem Y0{w:Nat}(ds:List aS)(hw:ds.length<w)(hl:ds.length<1000)(o x0:Int)(a:Value)(P:List cy)(c:List Value)(v:List aI):
 lp QH Dh w (aA cZ ds) ds.length 0 x0 a o (ay v) c (P.flatMap fm)=some (o,eW P,ay (vN ds v),true):=by
 refine np (σ:=List aI) (ev:=λi s (k:Cb)=>k (aA cZ ds) ds.length i x0 a o (ay s) c (P.flatMap fm)) (Inv:=λi s=>vN (ds.drop i) s=vN ds v) ds.length v ?_ ?_ ?_ hw
 ·rw[eS]
 ·intro i g s hi hI
  rw[dk hi] at hI
  have e1:((i:Int)<(ds.length:Int)):=by omega
  obtain⟨⟨tags,subs,blob⟩,hd⟩:∃d,ds[i]=d:=⟨_,rfl⟩
  rw[hd] at hI
  refine⟨tags,hI,?_⟩
  unfold Dh xy
  simp only[aT,e1,bd,aB,bP]
  rw[bu kX hi,hd,za]
  simp only[bh,bT]
  rw[aM (by omega) (by omega)]
  rfl
 ·intro g s hI
  rw[qQ,vN] at hI
  subst hI
  have e1:¬((ds.length:Int)<(ds.length:Int)):=by omega
  unfold Dh xy
  simp only[aT,e1,bM,aC]
  rw[dH nv,jG _ (by decide)]
  rfl
theorem Y1{w:Nat}{d:List UInt8}{n:Nat}(hd:d.length=16*n)(hn:n<10000){o:Int}(ho:o=1\/o=2)(D0:aS)(ds:List aS)(hl:ds.length<900)(hw:200000<w)(x0:Int)(a b:Value)(c:List Value)(v:List aI)(y:Int):
 ∃q:Unit,lp Jh (zG w) w (ag d) 0 o (cU (D0::ds)) x0 a o (ay v) c []=some (o,eW (placesOf d o 0 n),ay (vN ds v),true):=by
 refine⟨(),?_⟩
 refine ia (ev:=λi (k:Ca)=>k (ag d) ((16*i:Nat):Int) o (cU (D0::ds)) x0 a o (ay v) c (((placesOf d o 0 n).take i).flatMap fm)) n ?_ ?_ (by omega)
 ·intro i g hi
  have e1:(((16*i:Nat):Int)<(d.length:Int)):=by omega
  have hiP:i<(placesOf d o 0 n).length:=by rw[Ko];exact hi
  unfold zG te
  rw[cJ]
  simp only[aT,cm,e1,bd,aB]
  rw[aeT (by omega) d (by omega) ho (16*i) (by omega)]
  simp only[az]
  have hr1:aG (((placesOf d o 0 n).take i).flatMap fm).length=true:=by
   rw[dH nv,dI];simp;omega
  have hpc:fm (placesOf d o 0 n)[i]=[.int .i64 (nu d (16*i) o).attr,.int .i64 (nu d (16*i) o).size,.int .i64 (nu d (16*i) o).at_,.int .i64 (nu d (16*i) o).fA,.int .i64 (nu d (16*i) o).fC]:=by
   rw[Th,gI];rfl
  rw[hr1,bT,aM (by omega) (by omega),show((16*i:Nat):Int)+16=((16*(i+1):Nat):Int) by omega,iN hiP,fw,show[(placesOf d o 0 n)[i]].flatMap fm=fm (placesOf d o 0 n)[i] from by simp,hpc]
  rfl
 ·intro g
  have e1:¬(((16*n:Nat):Int)<(d.length:Int)):=by omega
  unfold zG te
  rw[cJ]
  simp only[aT,cm,e1,bM,aC]
  rw[show cU (D0::ds)=aA cZ (D0::ds) from rfl,cd]
  have e2:1<=(D0::ds).length:=by rw[bY];omega
  simp only[gC,aK,e2,bd,jF,aB]
  rw[sE kX _ (aK _),List.drop_succ_cons,eS,eE (by rw[bY];omega),cd,eE (by rw[Ko];omega)]
  exact Y0 ds (by omega) (by omega) o x0 a _ c v
def gW(o:Int)(l:List cy):List aI:=[⟨45056,7,4,[48,49,48,48]⟩,⟨45057,4,1,ee l.length 4⟩,⟨45058,7,((16*l.length:Nat):Int),l.flatMap (dG o)⟩]
theorem QG{w:Nat}(hw:200000<w){o:Int}(ho:o=1\/o=2){l:List cy}(h2:2<=l.length)(hl:16*l.length<=65536)(hp:∀p∈l,jT p=true)(D0:aS)(ds:List aS)(hds:ds.length<900)(y z:Value):
 QE w o (cU (D0::ds)) (ay (gW o l)) y z=some (o,eW l,ay (vN ds []),true):=by
 have hlen:(l.flatMap (dG o)).length=16*l.length:=o6 o l
 have hd:∀t∈gW o l,t.data.length<=1000000000:=by
  intro t ht
  simp only[gW,cQ,mP,mS] at ht
  rcases ht with rfl|rfl|rfl
  ·simp
  ·simp only[oK];omega
  ·simp only[hlen];omega
 have hr:fI (gW o l)=true:=by simp[gW,fI]
 have hL:(gW o l).length=3:=rfl
 have f1:=E6 (w:=w) (gW o l) 45058 hr (by rw[hL];omega) (by rw[hL];omega) hd
 have f2:=E6 (w:=w) (gW o l) 45057 hr (by rw[hL];omega) (by rw[hL];omega) hd
 have f3:=E6 (w:=w) (gW o l) 45056 hr (by rw[hL];omega) (by rw[hL];omega) hd
 rw[show iB (gW o l) 45058=some ⟨45058,7,((16*l.length:Nat):Int),l.flatMap (dG o)⟩ from rfl] at f1
 rw[show iB (gW o l) 45057=some ⟨45057,4,1,ee l.length 4⟩ from rfl] at f2
 rw[show iB (gW o l) 45056=some ⟨45056,7,4,[48,49,48,48]⟩ from rfl] at f3
 have g1:∀a b:Value,kv w 45058 7 (ay (gW o l)) a b=some (ag (l.flatMap (dG o)),ay (gW o l),a,b):=by
  intro a b
  unfold kv
  rw[f1]
  rfl
 have g2:∀a b:Value,kv w 45057 4 (ay (gW o l)) a b=some (ag (ee l.length 4),ay (gW o l),a,b):=by
  intro a b
  unfold kv
  rw[f2]
  rfl
 have g3:∀a b:Value,kv w 45056 7 (ay (gW o l)) a b=some (ag [48,49,48,48],ay (gW o l),a,b):=by
  intro a b
  unfold kv
  rw[f3]
  rfl
 have hn:jB w (ag (ee l.length 4)) 0 4 2=some ((l.length:Int),true):=by
  have:=JC (w:=w) (by omega) (ee l.length 4) (by rw[oK];omega) (.inr rfl) 0 4 (.inr rfl) (by rw[oK];omega)
  rw[nq (b:=ee l.length 4) (pre:=[]) (post:=[]) (n:=l.length) (p:=0) (s:=4) (order:=2) (by simp[aW]) rfl (.inr (.inr rfl)) (.inr rfl) (by omega)] at this
  exact this
 obtain⟨-,h6⟩:=Y1 (w:=w) (d:=l.flatMap (dG o)) (n:=l.length) hlen (by omega) ho D0 ds hds hw 0 (ae 0 []) (ae 0 []) [] [] 0
 have hpl:placesOf (l.flatMap (dG o)) o 0 l.length=l:=Km ho l [] [] 0 (by simp) rfl hp
 rw[hpl] at h6
 unfold QE
 rw[g1]
 simp only[az]
 rw[g2]
 simp only[az]
 rw[hn]
 simp only[az,bO,aC]
 rw[show ak (l.length:Int) 2=false by rw[aT,gJ];omega,aC,cJ,nU,aM (by omega) (by omega),show aj (Int.ofNat (l.flatMap (dG o)).length) (16*(l.length:Int))=true by rw[cu,bZ,cm,hlen];omega,bO,aC,g2]
 simp only[az]
 rw[cJ,oK,show(!aj (Int.ofNat 4) 4)=false from rfl,aC,g3]
 simp only[az]
 rw[gV,gR,BY]
 simp only[az]
 rw[Du,show(!mm [48,49,48,48] (ByteArray.mk #[48,49,48,48]).data.toList)=false from rfl,aC]
 exact h6
theorem agp{w:Nat}(hw:200000<w){o:Int}(ho:o=1\/o=2){l:List cy}(h2:2<=l.length)(hl:16*l.length<=65536)(hp:∀p∈l,jT p=true){view:List aI}(hv:VS view)(hr:cV 5 view=true):
 BE w o (cU (cI o l view).dO)=some (o,eW l,ay view,true):=by
 have hvl:=hv.1
 have e0:∀(ds:List aS)(K:List Value->Option (Int×Value×Value×Bool)),aO 3 0 (cU (eK o l::ds)) K=K (cZ (eK o l)++ds.flatMap cZ):=λds K=>bu kX (l:=eK o l::ds) (m:=0) (by rw[bY];omega) K
 have e1:cZ (eK o l)=[ay (gW o l),ae 0 [],ae 0 []]:=by unfold eK;rw[wE];rfl
 have e2:∀(ds:List aS)(K:Nat->Option (Int×Value×Value×Bool)),aq (cU (eK o l::ds)) K=K (eK o l::ds).length:=λds K=>cd cZ _ K
 have e3:∀(K:Nat->Option (Int×Value×Value×Bool)),aq (ay (gW o l)) K=K 3:=λK=>cd cq _ K
 unfold cI
 by_cases h0:view.length=0
 ·rw[au h0]
  have hve:view=[]:=qS.1 h0
  have ht:=QG hw ho h2 hl hp (eK o l) [] (by show 0<900;omega) (ae 0 []) (ae 0 [])
  unfold BE te xy
  rw[e0,e1]
  simp only[fo,bh]
  rw[e3,show(!aj (Int.ofNat 3) 3)=false from rfl,aC,e2,show ak 1 (Int.ofNat [eK o l].length)=false from rfl,aC,hve]
  exact ht
 ·rw[ai h0]
  have ht:=QG hw ho h2 hl hp (eK o l) [.mk view .nil []] (by show 1<900;omega) (ae 0 []) (ae 0 [])
  have x1:∀(K:List Value->Option (Int×Value×Value×Bool)),aO 3 1 (cU (eK o l::[.mk view .nil []])) K=K (cZ (.mk view .nil [])++[]):=λK=>bu kX (l:=eK o l::[.mk view .nil []]) (m:=1) (by show 1<2;omega) K
  unfold BE te xy
  rw[e0,e1]
  simp only[fo,bh]
  rw[e3,show(!aj (Int.ofNat 3) 3)=false from rfl,aC,e2,show ak 1 (Int.ofNat [eK o l,.mk view .nil []].length)=true from rfl,aB,x1,wE]
  simp only[fo,eS,bh]
  rw[rO (by omega) 5 view (by omega) (λt ht=>by have:=hv.2 t ht;omega) (by omega),hr]
  simp only[az,bO,aC]
  exact ht
theorem FY{w:Nat}(W:dM w)(hw:800000<w){o:Int}{l:List cy}{view:List aI}{b:List UInt8}(h:gL o l view=.ok b)(hv:VS view)(hS:(eY (cI o l view)).length<100000000):vv w (ag b)=some (o,eW l,ay view,0):=by
 have hvl:=hv.1
 have ho:(o=1\/o=2)/\2<=l.length/\16*l.length<=65536/\(∀p∈l,jT p=true)/\cV 5 view=true:=by
  unfold gL at h
  split at h
  ·cases h
  rename_i h1
  split at h
  ·cases h
  rename_i h2
  split at h
  ·cases h
  rename_i h3
  split at h
  ·cases h
  rename_i h4
  refine⟨by omega,by omega,by omega,λp hp=>iq.1 (by simpa using h2) p hp,by simpa using h3⟩
 obtain⟨r,hb,hr,hwk,-,hbl⟩:=Dc h (by omega)
 have hp:gy.isPrefixOf b=true:=by rw[hb,qe];exact rY _ _
 have hl4:b.length=r.length+4:=by rw[hb,aR];have:gy.length=4:=rfl;omega
 have h117:=Mc (w:=w) (b:=r) (sh:=fq) (by omega) (by omega) CD (λs hs=>by
  have:s=0\/s=1:=by simp[fq] at hs;omega
  rcases this with rfl|rfl<;>decide) (by decide) (by decide) (MF (by omega)) (o:=o) (ds:=(cI o l view).dO) (S:=eY (cI o l view)) hS hwk
 have h62:vA w (ag b) (cf fq)=some (o,cU (cI o l view).dO,aA bR (eY (cI o l view)),0):=by
  have e1:¬((65533:Int)<(b.length:Int)):=by omega
  have e2:¬((b.length:Int)<(4:Int)):=by omega
  have e3:4<=b.length:=by omega
  have h116:xG w (ag b)=some true:=by
   unfold xG AN
   have:ae 4 (List.drop 0 [Value.int IntKind.u8 77,Value.int IntKind.u8 80,Value.int IntKind.u8 70,Value.int IntKind.u8 0])=ag gy:=rfl
   rw[this,A3,hp]
   rfl
  unfold vA
  rw[cJ]
  simp only[aT,cm,e1,bM,aC]
  rw[cJ]
  simp only[e2,bM,aC]
  rw[h116]
  simp only[az,bO,aC]
  rw[cJ]
  simp only[gC,aK,e3,bd,jF,aB]
  rw[mu _ (aK _),eE (by rw[eu];omega),show b.drop 4=r by rw[hb];rfl,h117]
  rfl
 unfold vv
 rw[show tI w=some (cf fq) from rfl]
 simp only[az]
 rw[h62]
 simp only[az]
 rw[show(!aj 0 0)=false from rfl,aC,agp (by omega) ho.1 ho.2.1 ho.2.2.1 ho.2.2.2.1 hv ho.2.2.2.2]
 rfl
end
section
set_option linter.unusedVariables false
set_option linter.unusedSimpArgs false
set_option linter.unusedSectionVars false
set_option linter.constructorNameAsVariable false
noncomputable def QC(w:Nat)(x0:Int)(x1 x2:Value):Option (Value×Int):=
 aq x1 λ(x48:Nat)=>bif ak (Int.ofNat x48) 2 then some (ae 0 [],1) else aq x1 λ(x49:Nat)=>lp qw (nj w) w x1 (Int.ofNat x49) 0 x0 x1 x2 []
theorem Qk{w:Nat}(W:dM w){o:Int}(ho:o=1\/o=2){l:List cy}(h2:2<=l.length)(hl:l.length<=600){view:List aI}(hv:VS view)(hr:cV 5 view=true):oF w 10000 fq o (cI o l view).dO:=by
 have hvl:=hv.1
 have hdirs:∀d∈(cI o l view).dO,d=eK o l\/(d=.mk view .nil []/\view.length≠0):=by
  intro d hd
  rcases cQ.1 hd with rfl|hd
  ·exact .inl rfl
  ·split at hd
   ·cases hd
   ·rename_i h0;exact .inr ⟨oB.1 hd,h0⟩
 have hlen2:(cI o l view).dO.length<=2:=by
  unfold cI
  split<;>simp
 refine NN W CD (MF (by have:=W.kg;omega)) (by decide) (λs hs=>?_) ho (by simp[cI]) (by omega) (λd hd=>?_) ?_ ?_ (Qi ⟨by omega,by omega⟩ hr (by omega))
 ·have:s=0\/s=1:=by simp[fq] at hs;omega
  rcases this with rfl|rfl<;>decide
 ·rcases hdirs d hd with rfl|⟨rfl,_⟩
  ·refine⟨by show 3<=_;omega,by show 0<=_;omega,by show 0<=_;omega,λt ht=>?_,trivial⟩
   simp_all
   rcases ht with rfl|rfl|rfl
   ·simp
   ·simp only[oK];omega
   ·simp only[(o6 o l)];omega
  ·exact⟨by omega,by show 0<=_;omega,by show 0<=_;omega,λt ht=>by have:=hv.2 t ht;omega,trivial⟩
 ·unfold cI eK
  split<;>simp[kJ,fX,jM]
 ·unfold cI eK
  split<;>simp[iK,dE,iA]
theorem YZ{w:Nat}(W:dM w){o:Int}(ho:o=1\/o=2){l:List cy}(h2:2<=l.length)(hl:l.length<=600){view:List aI}(hv:VS view):
 lp qw (nj w) w (eW l) l.length 0 o (eW l) (ay view) []=some (match gL o l view with| .ok b=>(ag b,0)| .error e=>(ae 0 [],e)):=by
 have hb:=W.kg
 have hvl:=hv.1
 have hlen:∀i,((l.take i).flatMap (dG o)).length=16*(l.take i).length:=λi=>o6 o _
 have h1n:¬(¬(o=1\/o=2)\/l.length<2):=by
  rintro (q|q)
  ·exact q ho
  ·omega
 have hall:∀(k i v:Nat),i+k=l.length->k<v->l.all jT=true->lp qw (nj w) v (eW l) l.length i o (eW l) (ay view) (((l.take i).flatMap (dG o)).map aV)=some (match gL o l view with| .ok b=>(ag b,0)| .error e=>(ae 0 [],e)):=by
  intro k
  induction k with
  |zero=>
   intro i v hi hv2 ha
   have e1:¬((i:Int)<(l.length:Int)):=by omega
   have htk:l.take i=l:=eE (by omega)
   have hpl:(l.flatMap (dG o)).length=16*l.length:=o6 o l
   rw[dQ qw (nj w) (by omega),htk]
   unfold nj vf ve vh
   simp only[aT,e1,bM,aC]
   rw[rO (by omega) 5 view (by omega) (λt ht=>by have:=hv.2 t ht;omega) (by omega)]
   simp only[az]
   unfold gL
   rw[ai h1n,ha,ai (by decide:¬(true=false))]
   cases hr:cV 5 view with
   |false=>rfl
   |true=>
    have T:=Qk W ho h2 hl hv hr
    have h150:=UU T
    rw[show(⟨o,(cI o l view).dO⟩:mj)=cI o l view from rfl] at h150
    rw[ai (by decide:¬(true=false)),ai (by omega:¬(65536<16*l.length))]
    simp only[bO,aC,cH,kE,cm]
    have e2:¬((65536:Int)<((l.flatMap (dG o)).length:Int)):=by omega
    simp only[e2,bM,aC]
    rw[show eW l=aA fm l from rfl,cd]
    rw[show[Value.int IntKind.i64 (l.length:Int)].length=1 from rfl,ae3 (by omega) l.length (by omega)]
    simp only[az]
    rw[show ay view=aA cq view from rfl,cd,show tI w=some (cf fq) from rfl]
    simp only[az]
    have hd0:ae 3 [Value.int IntKind.i64 45056,Value.int IntKind.i64 7,Value.int IntKind.i64 4,ae 4 (List.drop 0 [Value.int IntKind.u8 48,Value.int IntKind.u8 49,Value.int IntKind.u8 48,Value.int IntKind.u8 48]),Value.int IntKind.i64 45057,Value.int IntKind.i64 4,Value.int IntKind.i64 1,ag (ee l.length 4),Value.int IntKind.i64 45058,Value.int IntKind.i64 7,Value.int IntKind.i64 ((l.flatMap (dG o)).length:Int),ae (l.flatMap (dG o)).length ((l.flatMap (dG o)).map aV)]=ay (gW o l):=by
     unfold gW
     rw[<-nP,hpl]
     rfl
    rw[hd0]
    have hdc:cZ (eK o l)=[ay (gW o l),ae 0 [],ae 0 []]:=by unfold eK;rw[wE];rfl
    have fin:(ob (vl w o (cU (cI o l view).dO) (cf fq)) λ(x45:Value×Int)=>some (x45.fst,x45.snd))=some (match(if 65533<4+gP (cI o l view) then .error 7 else .ok (gy++ed (cI o l view) fq):Except Int (List UInt8)) with| .ok b=>(ag b,0)| .error e=>(ae 0 [],e)):=by
     rw[h150]
     by_cases h7:65533<4+gP (cI o l view)
     ·rw[au h7,au h7];rfl
     ·rw[ai h7,ai h7];rfl
    by_cases h0:view.length=0
    ·have e3:¬((0:Int)<((view.length:Nat):Int)):=by omega
     simp only[e3,bM,aC]
     have hdd:ae 1 [ay (gW o l),ae 0 [],ae 0 []]=cU (cI o l view).dO:=by
      unfold cI
      rw[au h0]
      show _=ae 1 (cZ (eK o l)++[])
      rw[hdc]
      rfl
     rw[hdd]
     exact fin
    ·have e3:((0:Int)<((view.length:Nat):Int)):=by omega
     simp only[e3,bd,aB]
     have hdd:ae ((List.take 3 (List.drop 0 [ay (gW o l),ae 0 [],ae 0 []])++List.take 3 (List.drop 0 [aA cq view,ae 0 [],ae 0 []])).length/3) (List.take 3 (List.drop 0 [ay (gW o l),ae 0 [],ae 0 []])++List.take 3 (List.drop 0 [aA cq view,ae 0 [],ae 0 []]))=cU (cI o l view).dO:=by
      unfold cI
      rw[ai h0]
      show _=ae 2 (cZ (eK o l)++(cZ (.mk view .nil [])++[]))
      rw[hdc,wE,show(List.take 3 (List.drop 0 [ay (gW o l),ae 0 [],ae 0 []])++List.take 3 (List.drop 0 [aA cq view,ae 0 [],ae 0 []])).length=6 from rfl]
      rfl
     rw[hdd]
     exact fin
  |succ k ih=>
   intro i v hi hv2 ha
   have hiL:i<l.length:=by omega
   have e1:((i:Int)<(l.length:Int)):=by omega
   have hp:=iq.1 ha _ (cM hiL)
   have:=ih (i+1) (v -1) (by omega) (by omega) ha
   rw[dQ qw (nj w) (by omega),<-this]
   generalize hg:lp qw (nj w) (v -1)=g
   have tg:∀(y:cy)(r:List Value),fm y++r=.int .i64 y.attr::.int .i64 y.size::.int .i64 y.at_::.int .i64 y.fA::.int .i64 y.fC::r:=λ_ _=>rfl
   unfold nj vf ve vh
   simp only[aT,e1,bd,aB,bP]
   rw[show eW l=aA fm l from rfl,bu nv hiL,tg]
   simp only[bh,bQ]
   rw[Fk (by omega) l[i] ho,au hp]
   simp only[az,bO,aC]
   rw[gV,gR]
   have r1:aG (List.map aV ((l.take i).flatMap (dG o))).length=true:=by
    rw[cH,hlen,dI];simp;omega
   rw[r1,Eg _ (by rw[D6];omega),jF,aB,bT,aM (by omega) (by omega),iN hiL,fw,gq,show[l[i]].flatMap (dG o)=dG o l[i] by simp]
   rfl
 cases ha:l.all jT with
 |true=>exact hall l.length 0 w (by omega) (by omega) ha
 |false=>
  have hbad:∀(k i v:Nat),i+k=l.length->k<v->(l.drop i).all jT=false->lp qw (nj w) v (eW l) l.length i o (eW l) (ay view) (((l.take i).flatMap (dG o)).map aV)=some (ae 0 [],1):=by
   intro k
   induction k with
   |zero=>
    intro i v hi hv2 h
    rw[show l.drop i=[] from vQ (by omega)] at h
    cases h
   |succ k ih=>
    intro i v hi hv2 h
    have hiL:i<l.length:=by omega
    have e1:((i:Int)<(l.length:Int)):=by omega
    rw[dk hiL,List.all_cons] at h
    have tg:∀(y:cy)(r:List Value),fm y++r=.int .i64 y.attr::.int .i64 y.size::.int .i64 y.at_::.int .i64 y.fA::.int .i64 y.fC::r:=λ_ _=>rfl
    rw[dQ qw (nj w) (by omega)]
    cases hp:jT l[i] with
    |false=>
     unfold nj vf ve vh
     simp only[aT,e1,bd,aB,bP]
     rw[show eW l=aA fm l from rfl,bu nv hiL,tg]
     simp only[bh,bQ]
     rw[Fk (by omega) l[i] ho,hp]
     rfl
    |true=>
     rw[hp,eD] at h
     have:=ih (i+1) (v -1) (by omega) (by omega) h
     rw[<-this]
     generalize hg:lp qw (nj w) (v -1)=g
     unfold nj vf ve vh
     simp only[aT,e1,bd,aB,bP]
     rw[show eW l=aA fm l from rfl,bu nv hiL,tg]
     simp only[bh,bQ]
     rw[Fk (by omega) l[i] ho,au hp]
     simp only[az,bO,aC]
     rw[gV,gR]
     have r1:aG (List.map aV ((l.take i).flatMap (dG o))).length=true:=by
      rw[cH,hlen,dI];simp;omega
     rw[r1,Eg _ (by rw[D6];omega),jF,aB,bT,aM (by omega) (by omega),iN hiL,fw,gq,show[l[i]].flatMap (dG o)=dG o l[i] by simp]
     rfl
  have:=hbad l.length 0 w (by omega) (by omega) (by rw[eS];exact ha)
  unfold gL
  rw[ai h1n,ha,au rfl]
  exact this
theorem Vp{w:Nat}(W:dM w)(o:Int){l:List cy}(hl:l.length<=600){view:List aI}(hv:VS view):BG w o (eW l) (ay view)=some (match gL o l view with| .ok b=>(ag b,0)| .error e=>(ae 0 [],e)):=by
 by_cases ho:o=1\/o=2
 case neg=>
  unfold BG gL vf ve vh
  rw[au (.inl ho),(show aj o 1=false from by rw[cu,gJ];exactλq=>ho (.inl q)),(show aj o 2=false from by rw[cu,gJ];exactλq=>ho (.inr q))]
  rfl
 have hrest:QC w o (eW l) (ay view)=some (match gL o l view with| .ok b=>(ag b,0)| .error e=>(ae 0 [],e)):=by
  unfold QC
  rw[(show∀K:Nat->Option (Value×Int),aq (eW l) K=K l.length fromλK=>cd fm l K)]
  by_cases h2:l.length<2
  ·have e1:ak (Int.ofNat l.length) 2=true:=by rw[aT,bZ,cm];omega
   unfold gL
   rw[au (.inr h2),e1]
   rfl
  ·have e1:ak (Int.ofNat l.length) 2=false:=by rw[aT,gJ,cm];omega
   rw[e1]
   exact YZ W ho (by omega) hl hv
 rcases ho with rfl|rfl<;>exact hrest
end
section
set_option linter.unusedVariables false
set_option linter.unusedSimpArgs false
set_option linter.unusedSectionVars false
set_option linter.constructorNameAsVariable false
def gT(ms:List aZ):List cy:=ms.map λp=>⟨p.attr,0,0,p.fA,p.fC⟩
def jV(ms:List aZ)(i:Nat):Except Int (List UInt8):=
 match ms[i]? with
 |none=>.ok []
 |some p=>if i=0 then(if 1<ms.length then gL p.aF.order (gT ms) p.view else .ok []) else if p.view.length=0 then .ok [] else yv p.aF.order p.view
theorem ael{w:Nat}(W:dM w){ms:List aZ}(hl:ms.length<=600)(o:Int){view:List aI}(hv:VS view):
 lp Uq (Eu w) w (cR ms) ms.length 0 o (ay view) []=some (match gL o (gT ms) view with| .ok b=>(ag b,0)| .error e=>(ae 0 [],e)):=by
 have hb:=W.kg
 refine ia (ev:=λi (k:Cr)=>k (cR ms) ms.length i o (ay view) ((gT (ms.take i)).flatMap fm)) ms.length ?_ ?_ (by omega)
 ·intro i g hi
  have e1:((i:Int)<(ms.length:Int)):=by omega
  have r1:aG ((gT (ms.take i)).flatMap fm).length=true:=by
   rw[dH nv];unfold gT;simp;omega
  unfold Eu EG
  simp only[aT,e1,bP]
  rw[show cR ms=aA fQ ms from rfl,bu nY hi,r1,bT,aM (by omega) (by omega)]
  have hp:(gT (ms.take (i+1))).flatMap fm=(gT (ms.take i)).flatMap fm++[Value.int IntKind.i64 ms[i].attr,Value.int IntKind.i64 0,Value.int IntKind.i64 0,Value.int IntKind.i64 ms[i].fA,Value.int IntKind.i64 ms[i].fC]:=by
   unfold gT
   rw[iN hi,gq,fw]
   rfl
  rw[hp]
  rfl
 ·intro g
  unfold Eu EG
  simp only[aT,(show¬((ms.length:Int)<(ms.length:Int)) from by omega)]
  rw[qT,dH nv,jG _ (by decide)]
  have:=Vp W o (l:=gT ms) (by unfold gT;rw[cH];exact hl) hv
  rw[show ae (gT ms).length ((gT ms).flatMap fm)=eW (gT ms) from rfl,this]
  rfl
theorem Vk{w:Nat}(W:dM w){ms:List aZ}(h:∀p∈ms,eZ p)(hl:ms.length<=600){i:Nat}(hi:i<ms.length):Gj w (cR ms) (i:Int)=some (match jV ms i with| .ok b=>(ag b,0)| .error e=>(ae 0 [],e)):=by
 have hm:=h _ (cM hi)
 have hlr:∀K:Nat->Option (Value×Int),aq (cR ms) K=K ms.length:=λK=>cd fQ ms K
 have hlv:∀K:Nat->Option (Value×Int),aq (ay ms[i].view) K=K ms[i].view.length:=λK=>cd cq _ K
 unfold Gj jV LG
 rw[cW hi,bP,show cR ms=aA fQ ms from rfl,bu nY hi,oW]
 simp only[bh,bQ]
 rw[show aA fQ ms=cR ms from rfl]
 by_cases h0:i=0
 ·rw[au h0,show aj (i:Int) 0=true by rw[cu,bZ];omega,hlr]
  by_cases h1:1<ms.length
  ·rw[au h1,show ak 1 (Int.ofNat ms.length)=true by rw[aT,bZ,cm];omega,hlr]
   exact ael W hl _ hm.vs
  ·rw[ai h1,show ak 1 (Int.ofNat ms.length)=false by rw[aT,gJ,cm];omega]
   rfl
 ·rw[ai h0,show aj (i:Int) 0=false by rw[cu,gJ];omega,hlv]
  by_cases h1:ms[i].view.length=0
  ·rw[h1]
   rfl
  ·rw[ai h1,show aj (Int.ofNat ms[i].view.length) 0=false by rw[cu,gJ,cm];omega,agv W _ hm.vs]
   rfl
theorem Lo{ms:List aZ}{i:Nat}{b:List UInt8}(h:jV ms i=.ok b)(hm:∀p∈ms,eZ p)(hl:ms.length<=600):b.length=0\/(gy.isPrefixOf b=true/\b.length<=65533):=by
 unfold jV at h
 split at h
 ·injection h with h;subst h;exact .inl rfl
 rename_i p hp
 have hmp:=hm p (nD hp)
 split at h
 ·split at h
  ·right
   obtain⟨r,hb,-,-,-,hbl⟩:=Dc h (by have:=hmp.tv.1;omega)
   exact⟨by rw[hb,qe];exact rY _ _,hbl⟩
  ·injection h with h;subst h;exact .inl rfl
 ·split at h
  ·injection h with h;subst h;exact .inl rfl
  ·right
   rename_i h0
   unfold yv at h
   split at h
   ·cases h
   split at h
   ·cases h
   rename_i hr
   split at h
   ·cases h
   injection h with h
   have hlen:=yj (We (o:=p.aF.order) (by simpa using hr) h0 (by have:=hmp.tv.1;omega))
   rw[<-h]
   refine⟨by rw[qe];exact rY _ _,?_⟩
   rw[aR]
   have:gy.length=4:=rfl
   omega
def fG(p:aZ)(cn:List UInt8):mU:=⟨p.aF,p.cj,p.core,cn,0,0⟩
theorem Ja{ms:List aZ}{i:Nat}(hi:i<ms.length){b aL:List UInt8}(h:jV ms i=.ok b)(hm:∀p∈ms,eZ p)(hl:ms.length<=600)(ha:iI ms[i].aF=.ok aL)(hc:mZ ms[i].core=true):we (fG ms[i] b) aL:=by
 have hmp:=hm _ (cM hi)
 refine⟨ha,?_,by have:=hmp.ic;show ms[i].cj.length<=_;omega,hc,Lo h hm hl⟩
 have:=hmp.uz.rows
 show qC ms[i].aF 65000
 unfold qC at this⊢
 omega
def jK(aL b:List UInt8):Int:=if b.length=0 then 0 else((aL.length+10:Nat):Int)
theorem Nb{w:Nat}(W:dM w)(hw:1000000<w){ms:List aZ}{i:Nat}(hi:i<ms.length){b aL:List UInt8}(h:jV ms i=.ok b)(hm:∀p∈ms,eZ p)(hl:ms.length<=600)(ha:iI ms[i].aF=.ok aL)(hc:mZ ms[i].core=true):
 tG w (cR ms) (i:Int)=some (ms[i].aF.order,ay ms[i].aF.ct,ay ms[i].aF.bI,ay ms[i].aF.bN,ay ms[i].aF.bn,ay ms[i].aF.first,ag ms[i].aF.bH,ag ms[i].aF.cP,ag ms[i].cj,ag ms[i].core,ag b,jK aL b,((eJ (fG ms[i] b) aL).length:Int),true):=by
 have hmp:=hm _ (cM hi)
 have hok:=Ja hi h hm hl ha hc
 have hic:=hmp.ic
 have hco:=hmp.co
 have hbl:b.length<=65533:=by rcases Lo h hm hl with q|q;omega;exact q.2
 unfold tG
 rw[Vk W hm hl hi,h]
 simp only[az]
 rw[bP,show cR ms=aA fQ ms from rfl,bu nY hi,oW]
 simp
 rw[(show xP w ms[i].aF.order (ay ms[i].aF.ct) (ay ms[i].aF.bI) (ay ms[i].aF.bN) (ay ms[i].aF.bn) (ay ms[i].aF.first) (ag ms[i].aF.bH) (ag ms[i].aF.cP) (ag ms[i].cj) (ag ms[i].core) (ag b) 0 0=some (ag (eJ (fG ms[i] b) aL),0) from(U6 W hok hmp.uz (by omega) ⟨by show ms[i].core.length<=_;omega,by show ms[i].cj.length<=_;omega,hbl⟩ (by omega) 0 0))]
 simp
 rw[(afB W hok hmp.uz (by omega) ⟨by show ms[i].core.length<=_;omega,by show ms[i].cj.length<=_;omega,hbl⟩ (by omega))]
 rfl
theorem af5{w:Nat}(W:dM w){ms:List aZ}{i:Nat}(hi:i<ms.length){e:Int}(h:jV ms i=.error e)(he:e≠0)(hm:∀p∈ms,eZ p)(hl:ms.length<=600):
 tG w (cR ms) (i:Int)=some (0,ae 0 [],ae 0 [],ae 0 [],ae 0 [],ae 0 [],ae 0 [],ae 0 [],ae 0 [],ae 0 [],ae 0 [],0,0,false):=by
 unfold tG
 rw[Vk W hm hl hi]
 simp_all
theorem aem{ms:List aZ}{i:Nat}{e:Int}(h:jV ms i=.error e):e≠0:=by
 unfold jV at h
 split at h
 ·cases h
 split at h
 ·split at h
  ·unfold gL at h
   repeat' split at h
   all_goals(cases h<;>decide)
  ·cases h
 ·split at h
  ·cases h
  ·unfold yv at h
   repeat' split at h
   all_goals(cases h<;>decide)
def bD(l:List Int):List Value:=l.map λn:Int=>.int .i64 n
theorem MB{w:Nat}(n:Int)(st:List Int)(s:Int)(hn:1<=n/\n<=10000000)(hs:0<=s/\s<=4000000000)(hl:st.length<10000):vo w n (bD (st++[s]))=some (false,bD (st++[s]++[s+n])):=by
 have hdrop:List.drop (0+st.length*1) (bD (st++[s]))=[Value.int .i64 s]:=by
  unfold bD
  rw[gq,List.drop_left' (by simp)]
  rfl
 unfold vo
 rw[(show(bD (st++[s])).length=st.length+1 from by unfold bD;simp),kE,jg,cm,aM (by omega) (by omega),show((st.length+1:Nat):Int) -1=(st.length:Int) by omega,bP,hdrop]
 simp
 rw[U0,au ⟨by unfold lW;rw[bZ];omega,by unfold lW;rw[bZ];omega,by unfold lW;rw[bZ];omega⟩]
 have r1:aG (st.length+1)=true:=by simp;omega
 have hap:bD (st++[s])++[Value.int IntKind.i64 (s+n)]=bD (st++[s]++[s+n]):=by unfold bD;simp
 simp_all
theorem agP{w:Nat}(L:List Int)(hL:∀n∈L,1<=n/\n<=3000000)(hl:L.length<=1000)(hw:2000<w):∃st:List Value,lp qJ (gk w) w L.length 0 (bD L) (bD [0])=some (-1,bD L,st):=by
 have key:∀(k i v:Nat)(st:List Int)(s:Int),i+k=L.length->k<v->st.length=i->0<=s/\s<=3000000*i->∃st':List Value,lp qJ (gk w) v L.length i (bD L) (bD (st++[s]))=some (-1,bD L,st'):=by
  intro k
  induction k with
  |zero=>
   intro i v st s hi hv _ _
   have e1:¬((i:Int)<(L.length:Int)):=by omega
   rw[dQ qJ (gk w) (by omega)]
   unfold gk
   simp only[aT,e1,bM,aC]
   exact⟨_,rfl⟩
  |succ k ih=>
   intro i v st s hi hv hst hs
   have hiL:i<L.length:=by omega
   have e1:((i:Int)<(L.length:Int)):=by omega
   have hn:=hL _ (cM hiL)
   obtain⟨st',hst'⟩:=ih (i+1) (v -1) (st++[s]) (s+L[i]) (by omega) (by omega) (by rw[aR,hst];rfl) (by omega)
   refine⟨st',?_⟩
   rw[dQ qJ (gk w) (by omega),<-hst']
   have hlen:(bD L).length=L.length:=by unfold bD;rw[cH]
   have hdrop:List.drop (0+i*1) (bD L)=.int .i64 L[i]::bD (L.drop (i+1)):=by
    unfold bD
    rw[gI,gA,<-List.map_drop,dk hiL,iF]
   have e2:i*1<L.length:=by omega
   unfold gk
   simp only[aT,e1,bd,aB,bP]
   rw[hlen]
   simp only[mn,e2,bd,jZ,aB]
   rw[hdrop]
   simp only[bh,bQ]
   rw[MB _ st s ⟨hn.1,by omega⟩ ⟨hs.1,by omega⟩ (by omega)]
   simp only[az,aC,bT]
   rw[aM (by omega) (by omega)]
   rfl
 exact key L.length 0 w [] 0 (by omega) (by omega) rfl ⟨by omega,by omega⟩
theorem ae0{w:Nat}(L:List Int)(hL:∀n∈L,1<=n/\n<=3000000)(hl:L.length<=1000)(hw:2000<w):∃st:List Value,tz w (bD L)=some (true,bD L,st):=by
 obtain⟨st,h⟩:=agP L hL hl hw
 refine⟨st,?_⟩
 have h2:xR w (bD L) [Value.int .i64 0]=some (-1,bD L,st):=by
  unfold xR
  rw[(show(bD L).length=L.length from by unfold bD;rw[cH]),kE]
  exact h
 unfold tz Fy
 simp_all
end
section
set_option linter.unusedVariables false
set_option linter.unusedSimpArgs false
set_option linter.unusedSectionVars false
set_option linter.constructorNameAsVariable false
def Iw(ms:List aZ)(i:Nat):Bool:=match jV ms i with| .ok _=>false| .error _=>true
def qE(ms:List aZ):Nat->Nat->Int
 |0,_=>-1
 |k+1,i=>if Iw ms i=true then(i:Int) else qE ms k (i+1)
theorem Qe(x:mU)(aL:List UInt8):1<=(eJ x aL).length:=by
 unfold eJ jf
 rw[kA,aR]
 have:(cL ⟨216,[],[]⟩).length=2:=rfl
 omega
theorem Ot{ms:List aZ}(h:∀p∈ms,jL p=false){i:Nat}(hi:i<ms.length):∃aL,iI ms[i].aF=.ok aL:=by
 have:=h _ (cM hi)
 unfold jL at this
 cases he:iI ms[i].aF with
 |ok b=>simp
 |error e=>grind
theorem Qf{ms:List aZ}{i:Nat}(hi:i<ms.length){b aL:List UInt8}(h:jV ms i=.ok b)(hm:∀p∈ms,eZ p)(hl:ms.length<=600)(ha:iI ms[i].aF=.ok aL)(hc:mZ ms[i].core=true):(eJ (fG ms[i] b) aL).length<=3000000:=by
 have hmp:=hm _ (cM hi)
 have hok:=Ja hi h hm hl ha hc
 obtain⟨r,c1,c2,c3,c4,c5,c6⟩:=CI hok.core
 have h1:=Qd (aL:=aL) c2 c4
 obtain⟨-,-,hl2,-⟩:=yM hok.app hok.rows
 have hbl:b.length<=65533:=by rcases Lo h hm hl with q|q;omega;exact q.2
 have hic:=hmp.ic
 have hco:=hmp.co
 have e1:(fG ms[i] b).cn.length=b.length:=rfl
 have e2:(fG ms[i] b).cj.length=ms[i].cj.length:=rfl
 have e3:(fG ms[i] b).core.length=ms[i].core.length:=rfl
 omega
theorem agQ{w:Nat}(L:List Int)(hL:∀n∈L,1<=n/\n<=3000000)(hl:L.length<=1000)(hw:2000<w):∃r:Int×List Value×List Value,lp qJ (gk w) w (L++[0]).length 0 (bD (L++[0])) (bD [0])=some r:=by
 have hll:(L++[0]:List Int).length=L.length+1:=by simp
 have key:∀(k i v:Nat)(st:List Int)(s:Int),i+k=L.length->k+1<v->st.length=i->0<=s/\s<=3000000*i->∃r:Int×List Value×List Value,lp qJ (gk w) v (L++[0]).length i (bD (L++[0])) (bD (st++[s]))=some r:=by
  intro k
  induction k with
  |zero=>
   intro i v st s hi hv hst hs
   have hiL:i<(L++[0]:List Int).length:=by omega
   have e1:((i:Int)<((L++[0]:List Int).length:Int)):=by omega
   have hget:(L++[0]:List Int)[i]=0:=by
    rw[List.getElem_append_right (by omega)]
    simp
   have hlen:(bD (L++[0])).length=(L++[0]).length:=by unfold bD;rw[cH]
   have hdrop:List.drop (0+i*1) (bD (L++[0]))=.int .i64 0::bD ((L++[0]).drop (i+1)):=by
    unfold bD
    rw[gI,gA,<-List.map_drop,dk hiL,iF,hget]
   have e2:i*1<(L++[0]:List Int).length:=by omega
   rw[dQ qJ (gk w) (by omega)]
   unfold gk
   simp only[aT,e1,bd,aB,bP]
   rw[hlen]
   simp only[mn,e2,bd,jZ,show Nat.beq 1 1=true from rfl,aB]
   rw[hdrop]
   simp only[bh,bQ]
   have h190:∃x,vo w 0 (bD (st++[s]))=some (true,x):=by
    have hlen2:(bD (st++[s])).length=st.length+1:=by unfold bD;simp
    have hdrop2:List.drop (0+st.length*1) (bD (st++[s]))=[Value.int .i64 s]:=by
     unfold bD
     rw[gq,gI,gA,List.drop_left' (by simp)]
     rfl
    unfold vo
    rw[hlen2,kE,jg,cm,aM (by omega) (by omega),show((st.length+1:Nat):Int) -1=(st.length:Int) by omega,bP]
    have e1:st.length*1<st.length+1:=by omega
    simp only[mn,e1,bd,jZ,show Nat.beq 1 1=true from rfl,aB]
    rw[hdrop2]
    simp only[bh,bQ]
    rw[U0,au ⟨by unfold lW;rw[bZ];omega,by unfold lW;rw[bZ];omega,by unfold lW;rw[bZ];omega⟩]
    simp only[az]
    have r1:aG (st.length+1)=true:=by simp;omega
    rw[r1]
    simp only[show ak 0 1=true from rfl,vT,kE,gA,mQ,show aG 1=true from rfl,jF,aB,bO,aC]
    exact⟨_,rfl⟩
   obtain⟨x,h190⟩:=h190
   rw[h190]
   exact⟨_,rfl⟩
  |succ k ih=>
   intro i v st s hi hv hst hs
   have hiL0:i<L.length:=by omega
   have hiL:i<(L++[0]:List Int).length:=by omega
   have e1:((i:Int)<((L++[0]:List Int).length:Int)):=by omega
   have hget:(L++[0]:List Int)[i]=L[i]:=List.getElem_append_left hiL0
   have hn:=hL _ (cM hiL0)
   obtain⟨r,hr⟩:=ih (i+1) (v -1) (st++[s]) (s+L[i]) (by omega) (by omega) (by rw[aR,hst];rfl) (by omega)
   refine⟨r,?_⟩
   rw[dQ qJ (gk w) (by omega),<-hr]
   generalize hg:lp qJ (gk w) (v -1)=g
   have hlen:(bD (L++[0])).length=(L++[0]).length:=by unfold bD;rw[cH]
   have hdrop:List.drop (0+i*1) (bD (L++[0]))=.int .i64 L[i]::bD ((L++[0]).drop (i+1)):=by
    unfold bD
    rw[gI,gA,<-List.map_drop,dk hiL,iF,hget]
   have e2:i*1<(L++[0]:List Int).length:=by omega
   unfold gk
   simp only[aT,e1,bd,aB,bP]
   rw[hlen]
   simp only[mn,e2,bd,jZ,show Nat.beq 1 1=true from rfl,aB]
   rw[hdrop]
   simp only[bh,bQ]
   rw[MB _ st s ⟨hn.1,by omega⟩ ⟨hs.1,by omega⟩ (by omega)]
   simp only[az,aC,bT]
   rw[aM (by omega) (by omega)]
   rfl
 exact key L.length 0 w [] 0 (by omega) (by omega) rfl ⟨by omega,by omega⟩
theorem ae1{w:Nat}(L:List Int)(hL:∀n∈L,1<=n/\n<=3000000)(hl:L.length<=1000)(hw:2000<w):∃r:Bool×List Value×List Value,tz w (bD (L++[0]))=some r:=by
 obtain⟨r,h⟩:=agQ L hL hl hw
 have h2:xR w (bD (L++[0])) [Value.int .i64 0]=some r:=by
  unfold xR
  rw[(show(bD (L++[0])).length=(L++[0]).length from by unfold bD;rw[cH]),kE]
  exact h
 unfold tz Fy
 simp_all
 cases(!ak r.fst 0)<;>grind
theorem Zy{w:Nat}(W:dM w)(hw:1000000<w){ms:List aZ}(hm:∀p∈ms,eZ p)(hl:ms.length<=600)(ha:∀p∈ms,jL p=false)(hc:∀p∈ms,nM p=false):
 ∃c:Value×List Value,Fx w (cR ms) (cR ms) []=some (qE ms ms.length 0,c):=by
 have key:∀(k i v:Nat)(L:List Int),i+k=ms.length->k<v->L.length=i->(∀n∈L,1<=n/\n<=3000000)->∃c:Value×List Value,lp zP (sQ w) v (cR ms) ms.length i (cR ms) (bD L)=some (qE ms k i,c):=by
  intro k
  induction k with
  |zero=>
   intro i v L hi hv hL _
   have e1:¬((i:Int)<(ms.length:Int)):=by omega
   rw[dQ zP (sQ w) (by omega)]
   unfold sQ
   simp only[aT,e1,bM,aC]
   exact⟨_,rfl⟩
  |succ k ih=>
   intro i v L hi hv hL hL2
   have hiL:i<ms.length:=by omega
   have e1:((i:Int)<(ms.length:Int)):=by omega
   have hlen:(bD L).length=i:=by unfold bD;rw[cH,hL]
   have r1:aG i=true:=by simp;omega
   have rr:∀n:Int,(aG (bD L).length&&(aG ([Value.int IntKind.i64 n].length/1)&&[Value.int IntKind.i64 n].length.beq ([Value.int IntKind.i64 n].length/1*1)))=true:=by
    intro n
    rw[hlen,r1]
    simp
   rw[dQ zP (sQ w) (by omega)]
   unfold qE Iw
   cases hs:jV ms i with
   |error e=>
    have h34:=af5 W hiL hs (aem hs) hm hl
    rw[au rfl]
    have h131:∃r:Bool×List Value×List Value,tz w (bD L++[Value.int IntKind.i64 0])=some r:=by
     obtain⟨st,hst⟩:∃r,tz w (bD (L++[0]))=some r:=ae1 L hL2 (by omega) (by omega)
     refine⟨st,?_⟩
     rw[<-hst]
     unfold bD
     rw[gq]
     rfl
    obtain⟨r,h131⟩:=h131
    unfold sQ
    simp only[aT,e1,bd,aB,bP]
    rw[show cR ms=aA fQ ms from rfl,bu nY hiL,oW]
    simp only[bh,bQ]
    unfold Ff
    rw[show aA fQ ms=cR ms from rfl,hlen,kE,cm,h34]
    simp only[az]
    rw[<-hlen,rr 0,aB,h131]
    exact⟨_,rfl⟩
   |ok b=>
    obtain⟨aL,hcam⟩:=Ot ha hiL
    have hcore:mZ ms[i].core=true:=by
     have:=hc _ (cM hiL)
     unfold nM at this
     simpa using this
    have h34:=Nb W hw hiL hs hm hl hcam hcore
    have hsm:=Qf hiL hs hm hl hcam hcore
    have hps:=Qe (fG ms[i] b) aL
    have hL3:∀n∈L++[((eJ (fG ms[i] b) aL).length:Int)],1<=n/\n<=3000000:=by
     intro n hn
     rcases fK.1 hn with hn|hn<;>grind
    obtain⟨st,h131⟩:=ae0 (w:=w) _ hL3 (by rw[aR,vT];omega) (by omega)
    have hap:bD L++[Value.int IntKind.i64 ((eJ (fG ms[i] b) aL).length:Int)]=bD (L++[((eJ (fG ms[i] b) aL).length:Int)]):=by unfold bD;simp
    obtain⟨c,hih⟩:=ih (i+1) (v -1) _ (by omega) (by omega) (by rw[aR,vT];omega) hL3
    rw[ai (λq=>by cases q)]
    refine⟨c,?_⟩
    rw[<-hih]
    generalize hg:lp zP (sQ w) (v -1)=g
    unfold sQ
    simp only[aT,e1,bd,aB,bP]
    rw[show cR ms=aA fQ ms from rfl,bu nY hiL,oW]
    simp only[bh,bQ]
    unfold Ff
    rw[show aA fQ ms=cR ms from rfl,hlen,kE,cm,h34]
    simp only[az]
    have rr2:=rr ((eJ (fG ms[i] b) aL).length:Int)
    rw[hlen] at rr2
    rw[rr2,aB,hap,h131]
    simp only[az,bO,aC,bT]
    rw[aM (by omega) (by omega)]
    rfl
 obtain⟨c,h⟩:=key ms.length 0 w [] (by omega) (by omega) rfl (λn hn=>by cases hn)
 refine⟨c,?_⟩
 unfold Fx
 exact h
end
section
set_option linter.unusedVariables false
set_option linter.unusedSimpArgs false
set_option linter.unusedSectionVars false
set_option linter.constructorNameAsVariable false
def yS(ms:List aZ):Bool:=match ms with
 |[p]=>!decide (p.attr=0/\p.fA=0/\p.fC=0/\p.view.length=0)
 |_=>false
def iU(ms:List aZ):Int×Int:=
 if ms.length<1\/1000<ms.length then(1,0)
 else if 0<=db jL ms then(2,db jL ms)
 else if 0<=db nM ms then(4,db nM ms)
 else if 0<=db oJ ms then(5,db oJ ms)
 else if 0<=db nN ms then(6,db nN ms)
 else if yS ms=true then(7,0)
 else if 0<=qE ms ms.length 0 then(8,qE ms ms.length 0)
 else(0,0)
theorem uI{α:Type}{p:α->Bool}{l:List α}(h:¬0<=db p l):∀x∈l,p x=false:=by
 have h1:db p l<0:=by omega
 rw[wR] at h1
 grind
theorem Yw{α:Type}(l:List α):db (λ_=>false) l=-1:=by
 unfold db
 grind
theorem I5{α:Type}{p:α->Bool}{l:List α}(h:0<=db p l):∃i:Nat,∃hi:i<l.length,db p l=(i:Int)/\p l[i]=true:=by
 unfold db at h⊢
 cases hf:l.findIdx? p with
 |none=>grind
 |some i=>
  rw[List.findIdx?_eq_some_iff_getElem] at hf
  grind
theorem agq(w:Nat){ms:List aZ}(hl:ms.length<=2000):Gt w (cR ms)=some (if ms.length<1\/1000<ms.length then 0 else-1):=by
 have hlr:∀K:Nat->Option Int,aq (cR ms) K=K ms.length:=λK=>cd fQ ms K
 unfold Gt
 rw[hlr,hlr,E7,E7]
 simp only[az,aT]
 grind
theorem agr(w:Nat){ms:List aZ}(hl:ms.length<=2000)(h1:1<=ms.length):Gu w (cR ms)=some (if yS ms=true then 0 else-1):=by
 have hlr:∀K:Nat->Option Int,aq (cR ms) K=K ms.length:=λK=>cd fQ ms K
 cases ms with
 |nil=>simp at h1
 |cons p r=>
  unfold Gu
  rw[(show∀K:List Value->Option Int,aO 14 0 (cR (p::r)) K=K (fQ p++r.flatMap fQ) fromλK=>bu nY (by rw[bY];omega) K),oW]
  simp
  rw[hlr]
  cases r with
  |nil=>
   rw[(show∀K:Nat->Option Int,aq (ay p.view) K=K p.view.length fromλK=>cd cq _ K),E7,E7]
   unfold yS
   by_cases a1:p.attr=0
   case neg=>simp[a1]
   by_cases a2:p.fA=0
   case neg=>simp_all
   by_cases a3:p.fC=0
   case neg=>simp_all
   by_cases a4:p.view.length=0
   ·simp_all
   ·have:(0:Int)<(p.view.length:Int):=by omega
    simp_all
  |cons q r=>
   rfl
theorem agw{w:Nat}(W:dM w)(hw:1000000<w){ms:List aZ}(hm:∀p∈ms,eZ p)(hl:ms.length<=600\/1000<ms.length)(hl2:ms.length<=2000):Gy w (cR ms)=some (iU ms):=by
 unfold Gy iU EA EF
 rw[show MY w=some () from rfl]
 rw[agq w hl2]
 simp only[az]
 by_cases h1:ms.length<1\/1000<ms.length
 ·rw[au h1,au h1]
  rfl
 rw[ai h1,ai h1,show(!ak (-1) 0)=false from rfl]
 have hlt:ms.length<=600:=by omega
 unfold No Me
 rw[aff W hm hl2]
 simp only[az,aT]
 by_cases h2:0<=db jL ms
 ·rw[au h2,fe (by omega)]
  rfl
 rw[ai h2,ff (by omega:db jL ms<0)]
 unfold Np Mf
 rw[afg W hm hl2]
 simp only[az]
 rw[show db yR ms=-1 from Yw ms]
 simp only[show decide ((-1:Int)<0)=true from rfl,aC]
 unfold Nq Mg
 rw[afh W hm hl2]
 simp only[az]
 by_cases h4:0<=db nM ms
 ·rw[au h4,fe (by omega)]
  rfl
 rw[ai h4,ff (by omega:db nM ms<0)]
 unfold Nr Mh
 rw[afi W hm hl2]
 simp only[az]
 by_cases h5:0<=db oJ ms
 ·rw[au h5,fe (by omega)]
  rfl
 rw[ai h5,ff (by omega:db oJ ms<0)]
 unfold Nt Mi
 rw[afj W hm hl2]
 simp only[az]
 by_cases h6:0<=db nN ms
 ·rw[au h6,fe (by omega)]
  rfl
 rw[ai h6,ff (by omega:db nN ms<0)]
 rw[agr w hl2 (by omega)]
 simp only[az]
 by_cases h7:yS ms=true
 ·rw[au h7,au h7]
  rfl
 rw[ai h7,ai h7]
 simp only[show decide ((-1:Int)<0)=true from rfl,aC]
 unfold Nu Md
 obtain⟨c,h188⟩:=Zy W hw hm hlt (uI h2) (uI h4)
 rw[h188]
 simp only[az]
 by_cases h8:0<=qE ms ms.length 0
 ·rw[au h8,fe (by omega)]
  rfl
 rw[ai h8,ff (by omega:qE ms ms.length 0<0)]
 rfl
def gZ(ms:List aZ):Int:=
 if(iU ms).1 =0 then 0
 else if(iU ms).1 =1 then(if ms.length=0 then 1 else 7)
 else if(iU ms).1 =2 then(match ms[(iU ms).2.toNat]? with|some p=>(match iI p.aF with| .ok _=>0| .error e=>e)|none=>0)
 else if(iU ms).1 =4 then 2
 else if(iU ms).1 =5 then 1
 else if(iU ms).1 =7 then 1
 else if(iU ms).1 =6 then 6
 else 7
theorem Fe{w:Nat}(W:dM w)(hw:1000000<w){ms:List aZ}(hm:∀p∈ms,eZ p)(hl:ms.length<=600\/1000<ms.length)(hl2:ms.length<=2000):vk w (cR ms)=some (gZ ms):=by
 have hlr:∀K:Nat->Option Int,aq (cR ms) K=K ms.length:=λK=>cd fQ ms K
 unfold vk gZ
 rw[agw W hw hm hl hl2]
 simp only[az,cu,qn]
 by_cases h0:(iU ms).1 =0
 ·rw[au h0,au h0]
 rw[ai h0,ai h0]
 by_cases h1:(iU ms).1 =1
 ·rw[au h1,au h1,hlr]
  by_cases hz:ms.length=0<;>grind
 rw[ai h1,ai h1]
 by_cases h2:(iU ms).1 =2
 ·rw[au h2,au h2]
  have hidx:0<=db jL ms/\(iU ms).2 =db jL ms:=by
   unfold iU at h2⊢
   split at h2
   ·exact absurd h2 (by decide)
   rename_i a
   rw[ai a]
   split at h2
   ·rename_i b;rw[au b];exact⟨b,rfl⟩
   ·exfalso
    repeat' split at h2
    all_goals(simp only at h2;exact absurd h2 (show¬((_:Int)=2) by decide))
  obtain⟨i,hi,he,hb⟩:=I5 hidx.1
  rw[hidx.2,he,bP,show cR ms=aA fQ ms from rfl,bu nY hi,mM,cW hi]
  have d0:∀r:List Value,List.drop 0 (fQ ms[i]++r)=fQ ms[i]++r:=λ_=>rfl
  rw[d0,oW]
  simp
  rw[M8 W (hm _ (cM hi)).uz]
  cases iI ms[i].aF<;>rfl
 rw[ai h2,ai h2]
 repeat' split
 all_goals rfl
end
section
set_option linter.unusedVariables false
set_option linter.unusedSimpArgs false
set_option linter.unusedSectionVars false
set_option linter.constructorNameAsVariable false
theorem ahi{o:Int}{view:List aI}(hv:TS view)(hr:cV 5 view=true):gP (lD o view)<=40000:=by
 obtain⟨h1,h2⟩:=hv
 have hV:=zd view (aE 8+(6+12*bB (.mk view .nil []))) λt ht=>⟨(Dt (((xn hr).2) t ht)).2.2.2,h2 t ht⟩
 have hN:bB (.mk view .nil [])=view.length:=by
  show view.length+0+0=_
  simp
 have hE:gP (lD o view)=ca (aE 8+(6+12*bB (.mk view .nil []))) view:=by
  show ef 8 [.mk view .nil []]=_
  simp[ef,bq,dZ]
 have e8:aE 8=8:=rfl
 omega
theorem YI{o:Int}{l:List cy}(h2:2<=l.length)(hl:l.length<=6){view:List aI}(hv:TS view)(hr:cV 5 view=true):gP (cI o l view)<=40000:=by
 obtain⟨h1,h2'⟩:=hv
 have hm:=(xn hr).2
 have hlen:=o6 o l
 have m3:ej 7 ((16*l.length:Nat):Int) (l.flatMap (dG o))=true:=by
  unfold ej
  have:(kindOf 7).1 =1:=rfl
  rw[hlen]
  simp_all
  omega
 obtain⟨e1,he1⟩:∃e1,bq 8 (eK o l)=e1:=⟨_,rfl⟩
 have hD:e1<=700:=by
  have hV:=zd (m:=100) [⟨45056,7,4,[48,49,48,48]⟩,⟨45057,4,1,ee l.length 4⟩,⟨45058,7,((16*l.length:Nat):Int),l.flatMap (dG o)⟩] (aE 8+(6+12*bB (eK o l))) λt ht=>by
   simp at ht
   rcases ht with rfl|rfl|rfl
   ·exact⟨(by decide),by simp⟩
   ·exact⟨Wz,by simp only[oK];omega⟩
   ·exact⟨m3,by simp_all;omega⟩
  have hN:bB (eK o l)=3:=rfl
  have e8:aE 8=8:=rfl
  have:e1=ca (aE 8+(6+12*bB (eK o l))) [⟨45056,7,4,[48,49,48,48]⟩,⟨45057,4,1,ee l.length 4⟩,⟨45058,7,((16*l.length:Nat):Int),l.flatMap (dG o)⟩]:=by
   rw[<-he1]
   simp[eK,bq,dZ,dL]
  simp_all
  omega
 have hT:gP (cI o l view)=ef e1 (if view.length=0 then[] else[.mk view .nil []]):=by
  rw[<-he1];rfl
 rw[hT]
 by_cases h0:view.length=0
 ·rw[au h0]
  show e1<=_
  omega
 ·rw[ai h0]
  have hV:=zd view (aE e1+(6+12*bB (.mk view .nil []))) λt ht=>⟨(Dt (hm t ht)).2.2.2,h2' t ht⟩
  have hN:bB (.mk view .nil [])=view.length:=by
   show view.length+0+0=_
   omega
  have hE:ef e1 [.mk view .nil []]=ca (aE e1+(6+12*bB (.mk view .nil []))) view:=by
   simp[ef,bq,dZ,dL]
  have e8:=uu e1
  omega
def wO(p:aZ):Bool:=!jL p&&(!nM p&&(!oJ p&&!nN p))
theorem pL{p:aZ}(h:wO p=true):jL p=false/\nM p=false/\oJ p=false/\nN p=false:=by
 unfold wO at h
 grind
theorem IX{p:aZ}(h:jL p=false):p.aF.order=1\/p.aF.order=2:=by
 unfold jL at h
 cases he:iI p.aF with
 |error e=>grind
 |ok b=>
  unfold iI at he
  split at he
  ·grind
  ·rename_i q
   exact(sD (qb.1 q)).1
theorem Us{ms:List aZ}(hm:∀p∈ms,eZ p)(hl:ms.length<=6)(hg:∀p∈ms,wO p=true)(i:Nat):∃b,jV ms i=.ok b:=by
 unfold jV
 split
 ·exact⟨_,rfl⟩
 rename_i p hp
 have hpm:=nD hp
 obtain⟨g1,g2,g3,g4⟩:=pL (hg p hpm)
 have ho:=IX g1
 have hv:=(hm p hpm).tv
 have hr:cV 5 p.view=true:=by unfold nN at g4;simpa using g4
 split
 ·split
  ·rename_i h1
   have hpl:(gT ms).length=ms.length:=by unfold gT;rw[cH]
   have hall:(gT ms).all jT=true:=by
    rw[iq]
    intro q hq
    obtain⟨y,hy,rfl⟩:=mg.1 hq
    have:=(pL (hg y hy)).2.2.1
    unfold oJ at this
    unfold jT
    simp only[Bool.not_eq_false',bZ] at this⊢
    obtain⟨a,b,c⟩:=this
    exact⟨a,by decide,by decide,b,c⟩
   have he:=YI (o:=p.aF.order) (l:=gT ms) (by omega) (by omega) hv hr
   unfold gL
   rw[ai (by rintro (q|q);exact q ho;omega),hall,ai (by decide),hr,ai (by decide),ai (by omega),ai (by omega)]
   exact⟨_,rfl⟩
  ·exact⟨_,rfl⟩
 ·split
  ·exact⟨_,rfl⟩
  ·rename_i h0
   have he:=ahi (o:=p.aF.order) hv hr
   unfold yv
   rw[ai (by rintro (q|q);exact q ho;exact h0 q),hr,ai (by decide),ai (by omega)]
   exact⟨_,rfl⟩
theorem Ur{ms:List aZ}(h:∀i,∃b,jV ms i=.ok b):∀k i,qE ms k i=-1
 |0,i=>rfl
 |k+1,i=>by
  obtain⟨b,hb⟩:=h i
  unfold qE Iw
  rw[hb]
  exact Ur h k (i+1)
theorem C9{α:Type}{p:α->Bool}{l:List α}:(¬0<=db p l)↔∀x∈l,p x=false:=by
 constructor
 ·exact uI
 ·intro h q
  obtain⟨i,hi,_,hb⟩:=I5 q
  grind
theorem X1{ms:List aZ}(hm:∀p∈ms,eZ p)(h1:1<=ms.length)(hl:ms.length<=6):(iU ms).1 =0↔(∀p∈ms,wO p=true)/\yS ms=false:=by
 unfold iU
 rw[ai (by omega)]
 constructor
 ·intro h
  split at h
  ·exact absurd h (by simp)
  rename_i a1
  split at h
  ·exact absurd h (by simp)
  rename_i a2
  split at h
  ·exact absurd h (by simp)
  rename_i a3
  split at h
  ·exact absurd h (by simp)
  rename_i a4
  split at h
  ·exact absurd h (by simp)
  rename_i a5
  refine⟨λp hp=>?_,by simpa using a5⟩
  unfold wO
  rw[uI a1 p hp,uI a2 p hp,uI a3 p hp,uI a4 p hp]
  rfl
 ·rintro ⟨hg,h1⟩
  rw[ai (C9.2 λp hp=>(pL (hg p hp)).1),ai (C9.2 λp hp=>(pL (hg p hp)).2.1),ai (C9.2 λp hp=>(pL (hg p hp)).2.2.1),ai (C9.2 λp hp=>(pL (hg p hp)).2.2.2),h1,ai (by decide),Ur (Us hm hl hg),ai (by decide)]
theorem WW(ms:List aZ)(h:1<=ms.length):gZ ms=0↔(iU ms).1 =0:=by
 unfold gZ
 constructor
 ·intro hc
  split at hc
  ·rename_i q;exact q
  split at hc
  ·rw[ai (by omega)] at hc
   cases hc
  split at hc
  ·rename_i h0 h1 h2
   exfalso
   have hidx:0<=db jL ms/\(iU ms).2 =db jL ms:=by
    unfold iU at h2⊢
    split at h2
    ·exact absurd h2 (by decide)
    rename_i a
    rw[ai a]
    split at h2
    ·rename_i b;rw[au b];exact⟨b,rfl⟩
    ·exfalso
     repeat' split at h2
     all_goals(simp only at h2;exact absurd h2 (show¬((_:Int)=2) by decide))
   obtain⟨i,hi,he,hb⟩:=I5 hidx.1
   rw[hidx.2,he,mM,cW hi] at hc
   unfold jL at hb
   simp only at hc
   cases ha:iI ms[i].aF with
   |ok b=>rw[ha] at hb;cases hb
   |error e=>rw[ha] at hc;exact Oo ha hc
  repeat' split at hc
  all_goals(exact absurd hc (by decide))
 ·intro h0
  rw[au h0]
def CH:List UInt8:=[255,216,255,218,0,8,1,1,0,0,63,0,7,255,217]
def lu:aZ:=⟨⟨2,[⟨274,3,1,[0,1]⟩],[],[],[],[],[],[]⟩,[],CH,0,0,0,[]⟩
theorem afY{w:Nat}(hw:10<=w):F6 w 3 (ae 1 [Value.int IntKind.i64 1])=some (3,1,ag [0,1],true):=by
 obtain⟨k,rfl⟩:∃k,w=k+10:=⟨w -10,by omega⟩
 rfl
end
section
set_option linter.unusedVariables false
set_option linter.unusedSimpArgs false
set_option linter.unusedSectionVars false
set_option linter.constructorNameAsVariable false
theorem aeS{w:Nat}(hw:10<=w):LX w=some (2,ay [⟨274,3,1,[0,1]⟩],ae 0 [],ae 0 [],ae 0 [],ae 0 [],ae 0 [],ae 0 [],ae 0 [],ag CH,0,0,0,ae 0 []):=by
 unfold LX
 rw[afY hw]
 rfl
structure qV where
 p:aZ
 b:List UInt8
 aL:List UInt8
def J8(x:Except Int (List UInt8)):List UInt8:=match x with| .ok b=>b| .error _=>[]
def aQ(ms:List aZ)(i:Nat):qV:=⟨(ms[i]?).getD lu,J8 (jV ms i),J8 (iI ((ms[i]?).getD lu).aF)⟩
def fN(g:qV):List Value:=[.int .i64 g.p.aF.order,ay g.p.aF.ct,ay g.p.aF.bI,ay g.p.aF.bN,ay g.p.aF.bn,ay g.p.aF.first,ag g.p.aF.bH,ag g.p.aF.cP,ag g.p.cj,ag g.p.core,ag g.b,.int .i64 (jK g.aL g.b),.int .i64 ((eJ (fG g.p g.b) g.aL).length:Int)]
theorem rm(g:qV):(fN g).length=13:=rfl
def ea(ms:List aZ):List qV:=(List.range ms.length).map (aQ ms)
structure iG(ms:List aZ):Prop where
 mem:∀p∈ms,eZ p
 le:ms.length<=6
 wN:∀p∈ms,wO p=true
theorem iG.I9{ms:List aZ}(F:iG ms){i:Nat}(hi:i<ms.length):∃b aL,jV ms i=.ok b/\iI ms[i].aF=.ok aL/\mZ ms[i].core=true/\aQ ms i=⟨ms[i],b,aL⟩:=by
 obtain⟨b,hb⟩:=Us F.mem F.le F.wN i
 obtain⟨aL,hc⟩:=Ot (λp hp=>(pL (F.wN p hp)).1) hi
 refine⟨b,aL,hb,hc,?_,?_⟩
 ·have:=(pL (F.wN _ (cM hi))).2.1
  unfold nM at this
  grind
 ·unfold aQ
  rw[cW hi,qj,hb,hc]
  rfl
theorem zn{ms:List aZ}(hm:∀p∈ms,eZ p)(hl:ms.length<=6\/1000<ms.length)(h:gZ ms=0):iG ms/\1<=ms.length:=by
 by_cases h0:ms.length<1\/1000<ms.length
 ·exfalso
  unfold gZ at h
  rw[(show(iU ms).1 =1 from by unfold iU;rw[au h0])] at h
  omega
 ·have h1:1<=ms.length:=by omega
  have h6:ms.length<=6:=by omega
  have:=(WW ms h1).1 h
  have:=(X1 hm h1 h6).1 this
  exact⟨⟨hm,h6,this.1⟩,h1⟩
theorem ae5{w:Nat}(W:dM w)(hw:1000000<w){ms:List aZ}(hm:∀p∈ms,eZ p)(hl:ms.length<=6\/1000<ms.length)(hl2:ms.length<=2000):Fj w (cR ms)=some (if gZ ms=0 then aA fN (ea ms) else ae 0 []):=by
 have hlr:∀K:Nat->Option Value,aq (cR ms) K=K ms.length:=λK=>cd fQ ms K
 unfold Fj Lx
 rw[Fe W hw hm (by omega) hl2]
 simp only[az,cu]
 by_cases hc:gZ ms=0
 case neg=>rw[ai hc,fe hc];rfl
 rw[au hc,ff hc,bO,hlr]
 obtain⟨F,h1⟩:=zn hm hl hc
 have h6:=F.le
 have hil:(ea ms).length=ms.length:=by unfold ea;rw[cH,List.length_range]
 refine ia (ev:=λi (g:Int->Int->Value->List Value->Option Value)=>g ms.length i (cR ms) (((ea ms).take i).flatMap fN)) ms.length ?_ ?_ (by omega)
 ·intro i g hi
  obtain⟨b,aL,k1,k2,k3,k4⟩:=F.I9 hi
  have e1:((i:Int)<(ms.length:Int)):=by omega
  have hiI:i<(ea ms).length:=by omega
  have hget:(ea ms)[i]=⟨ms[i],b,aL⟩:=by
   simp[ea]
   exact k4
  simp only[aT,e1,aB]
  rw[Nb W hw hi k1 hm (by omega) k2 k3]
  have hr1:aG (((ea ms).take i).flatMap fN).length=true:=by
   rw[dH rm];simp;omega
  rw[hr1,bT,aM (by omega) (by omega),show(i:Int)+1=((i+1:Nat):Int) by omega,iN hiI,fw,hget]
  rfl
 ·intro g
  have e1:¬((ms.length:Int)<(ms.length:Int)):=by omega
  simp only[aT,e1,aC]
  rw[eE (by omega),dH rm,jG _ (by decide)]
  rfl
theorem adw(a d e:Int)(x:dr)(c:List UInt8)(hx:x=lu.aF\/x=⟨1,[],[],[],[],[],[],[]⟩)(hc:c=CH\/c=[]):eZ ⟨x,[],c,a,d,e,[]⟩:=by
 have t0:TS []:=⟨by decide,λt h=>by cases h⟩
 have hcl:c.length<=2000:=by rcases hc with rfl|rfl<;>decide
 rcases hx with rfl|rfl
 ·exact⟨(show TS [⟨274,3,1,[0,1]⟩] from⟨by decide,λt h=>by rw[oB.1 h];decide⟩),t0,t0,t0,t0,t0,(show 0<=2000 by decide),(show 0<=2000 by decide),(show 0<=2000 by decide),hcl⟩
 ·exact⟨t0,t0,t0,t0,t0,t0,(show 0<=2000 by decide),(show 0<=2000 by decide),(show 0<=2000 by decide),hcl⟩
theorem z8:eZ lu:=adw 0 0 0 _ _ (.inl rfl) (.inl rfl)
theorem PG:iU []=(1,0)/\gZ []=1:=by decide+kernel
end
section
set_option linter.unusedVariables false
set_option linter.unusedSimpArgs false
set_option linter.unusedSectionVars false
set_option linter.constructorNameAsVariable false
def mL(l:List aI):Bool:=l.any (λt=>decide (600<t.data.length))||decide (60<l.length)
theorem xW{w:Nat}(l:List aI)(hl:l.length<2^63)(hw:l.length<w):ou w (ay l)=some (mL l):=by
 have hlr:∀K:Nat->Option Bool,aq (ay l) K=K l.length:=λK=>cd cq l K
 have key:∀(k i v:Nat),i+k=l.length->k<v->∀(z:Value->Int->Option Bool)(F:(Value->Int->Option Bool)->Value->Int->Option Bool),
  (∀(x3:Value->Int->Option Bool)(x4:Value)(x5:Int),F x3 x4 x5=aq x4 λ(x6:Nat)=>bif ak x5 (Int.ofNat x6) then aD x5 λ(x7:Nat)=>aO 4 x7 x4 λx8=>af (List.drop 2 (List.drop 1 x8)) λ(x9:Value)(x10:List Value)=>aq x9 λ(x11:Nat)=>bif ak 600 (Int.ofNat x11) then some true else x3 x4 (ah IntKind.i64 (x5.add 1)) else aq x4 λ(x12:Nat)=>some (ak 60 (Int.ofNat x12)))->
  lp z F v (ay l) i=some ((l.drop i).any (λt=>decide (600<t.data.length))||decide (60<l.length)):=by
  intro k
  induction k with
  |zero=>
   intro i v hi hv z F hF
   have e1:¬((i:Int)<(l.length:Int)):=by omega
   rw[dQ z F (by omega),hF,hlr,show l.drop i=[] from vQ (by omega)]
   simp only[aT,cm,e1,bM,aC]
   rw[hlr,List.any_nil,yx]
   congr 1
   rw[im,bZ,bZ]
   omega
  |succ k ih=>
   intro i v hi hv z F hF
   have hiL:i<l.length:=by omega
   have e1:((i:Int)<(l.length:Int)):=by omega
   have dd:∀(y:aI)(r:List Value),List.drop 2 (List.drop 1 (cq y++r))=ag y.data::r:=λ_ _=>rfl
   rw[dQ z F (by omega),hF,hlr]
   simp only[aT,cm,e1,bd,aB,bP]
   rw[show ay l=aA cq l from rfl,bu gY hiL,dd]
   simp only[bh]
   rw[cJ,dk hiL,List.any_cons]
   by_cases h:600<l[i].data.length
   ·have e2:(600:Int)<(l[i].data.length:Int):=by omega
    simp_all
   ·have e2:¬((600:Int)<(l[i].data.length:Int)):=by omega
    simp only[h,e2,bM,aC]
    have:=ih (i+1) (v -1) (by omega) (by omega) z F hF
    rw[bT,aM (by omega) (by omega)]
    exact this
 exact key l.length 0 w (by omega) hw _ _ (λ_ _ _=>rfl)
theorem yu{l:List aI}(h:mL l=false):TS l:=by
 unfold mL at h
 simp_all
 exact⟨by omega,λt ht=>by have:=h.1 t ht;omega⟩
def yr(p:aZ):Bool:=mL p.aF.ct||(mL p.aF.bI||(mL p.aF.bN||(mL p.aF.bn||(mL p.aF.first||(mL p.view||(decide (2000<p.aF.bH.length)||(decide (2000<p.aF.cP.length)||(decide (2000<p.cj.length)||decide (2000<p.core.length)))))))))
theorem ahg{p:aZ}(h:yr p=false):eZ p:=by
 unfold yr at h
 simp_all
 obtain⟨a0,a2,a3,a4,a1,av,b1,b2,b3,b4⟩:=h
 exact⟨yu a0,yu a2,yu a3,yu a4,yu a1,yu av,by omega,by omega,by omega,by omega⟩
def yq(ms:List aZ):Bool:=decide (6<ms.length/\ms.length<=1000)||(decide (1100<ms.length)||ms.any yr)
theorem ahf{ms:List aZ}(h:yq ms=false):(ms.length<=6\/1000<ms.length)/\ms.length<=1100/\∀p∈ms,eZ p:=by
 unfold yq at h
 simp at h
 exact⟨by omega,by omega,λp hp=>ahg (by simpa using h.2.2 p hp)⟩
structure yz(w:Nat)(ms:List aZ):Prop where
 n:ms.length<2^63
 rows:∀p∈ms,∀l∈[p.aF.ct,p.aF.bI,p.aF.bN,p.aF.bn,p.aF.first,p.view],l.length<2^63/\l.length<w
noncomputable def BZ:Hf:=(λ(x2 x3:Int)(x4:Value)=>none)
theorem Wc{w:Nat}{ms:List aZ}(B:yz w ms)(hw:ms.length<w):lp BZ (tR w) w ms.length 0 (cR ms)=some (ms.any yr):=by
 have key:∀(k i v:Nat),i+k=ms.length->k<v->lp BZ (tR w) v ms.length i (cR ms)=some ((ms.drop i).any yr):=by
  intro k
  induction k with
  |zero=>
   intro i v hi hv
   have e1:¬((i:Int)<(ms.length:Int)):=by omega
   rw[dQ BZ (tR w) (by omega),show ms.drop i=[] from vQ (by omega)]
   unfold tR
   simp only[aT,e1,bM,aC]
   rfl
  |succ k ih=>
   intro i v hi hv
   have hiL:i<ms.length:=by omega
   have e1:((i:Int)<(ms.length:Int)):=by omega
   have hb:=B.n
   have hB:=B.rows _ (cM hiL)
   have b0:=hB ms[i].aF.ct (by simp)
   have b2:=hB ms[i].aF.bI (by simp)
   have b3:=hB ms[i].aF.bN (by simp)
   have b4:=hB ms[i].aF.bn (by simp)
   have b1:=hB ms[i].aF.first (by simp)
   have bv:=hB ms[i].view (by simp)
   have hih:=ih (i+1) (v -1) (by omega) (by omega)
   rw[dQ BZ (tR w) (by omega)]
   generalize hg:lp BZ (tR w) (v -1)=g at hih⊢
   rw[dk hiL,List.any_cons]
   unfold tR
   simp only[aT,e1,bd,aB,bP]
   rw[show cR ms=aA fQ ms from rfl,bu nY hiL,oW]
   simp only[bh,bQ]
   rw[xW _ b0.1 b0.2,xW _ b2.1 b2.2,xW _ b3.1 b3.2,xW _ b4.1 b4.2,xW _ b1.1 b1.2,xW _ bv.1 bv.2]
   simp only[az]
   unfold yr
   cases mL ms[i].aF.ct
   case true=>rfl
   cases mL ms[i].aF.bI
   case true=>rfl
   cases mL ms[i].aF.bN
   case true=>rfl
   cases mL ms[i].aF.bn
   case true=>rfl
   cases mL ms[i].aF.first
   case true=>rfl
   cases mL ms[i].view
   case true=>rfl
   simp only[aC,yx]
   rw[cJ,cJ,cJ,cJ,cm,cm,cm,cm]
   have dd:∀n:Nat,decide ((2000:Int)<(n:Int))=decide (2000<n):=by
    intro n
    rw[im,bZ,bZ]
    omega
   rw[dd,dd,dd,dd]
   cases decide (2000<ms[i].aF.bH.length)
   case true=>rfl
   cases decide (2000<ms[i].aF.cP.length)
   case true=>rfl
   cases decide (2000<ms[i].cj.length)
   case true=>rfl
   cases decide (2000<ms[i].core.length)
   case true=>rfl
   rw[bT,aM (by omega) (by omega)]
   exact hih
 exact key ms.length 0 w (by omega) hw
theorem agu{w:Nat}(hw:2000<w){ms:List aZ}(B:yz w ms):Ns w (cR ms)=some (yq ms):=by
 have hd:∀k:Nat,ak (k:Int) (Int.ofNat ms.length)=decide (k<ms.length):=by
  intro k
  rw[aT,cm,im,bZ,bZ]
  omega
 have d6:ak 6 (Int.ofNat ms.length)=decide (6<ms.length):=hd 6
 have d11:ak 1100 (Int.ofNat ms.length)=decide (1100<ms.length):=hd 1100
 unfold Ns yq
 rw[(show∀K:Nat->Option Bool,aq (cR ms) K=K ms.length fromλK=>cd fQ ms K),d6,(show ak 1000 (Int.ofNat ms.length)=decide (1000<ms.length) from hd 1000),d11]
 by_cases h1:6<ms.length
 ·rw[ff h1]
  by_cases h2:1000<ms.length
  ·have h3:¬(6<ms.length/\ms.length<=1000):=by omega
   rw[ff h2,fe h3]
   by_cases h4:1100<ms.length
   ·rw[ff h4]
    rfl
   ·rw[fe h4]
    exact Wc B (by omega)
  ·have h3:(6<ms.length/\ms.length<=1000):=by omega
   rw[fe h2,ff h3]
   rfl
 ·have h3:¬(6<ms.length/\ms.length<=1000):=by omega
  have h4:¬(1100<ms.length):=by omega
  rw[fe h1,fe h3,fe h4,aC]
  exact Wc B (by omega)
end
section
set_option linter.unusedVariables false
set_option linter.unusedSimpArgs false
set_option linter.unusedSectionVars false
set_option linter.constructorNameAsVariable false
theorem TY(l:List aI):rowOf (ay l)=some (l.length,l.flatMap cq):=rfl
theorem UZ(w:Nat)(a b:Int)(d:List UInt8)(hd:d.length<=1000000000):tB w a b (ag d)=some (a,b,ag d):=by
 unfold tB
 rw[q9 w _ hd]
 rfl
theorem Ke(w:Nat):∀l:List aI,(∀t∈l,t.data.length<=1000000000)->nt (tB w) (l.flatMap cq)=some (l.flatMap cq)
 |[],_=>rfl
 |t::l,h=>by
  have e:(t::l).flatMap cq=.int .i64 t.tag::.int .i64 t.ty::.int .i64 t.aw::ag t.data::l.flatMap cq:=rfl
  rw[e]
  unfold nt
  rw[show bc [ag t.data]=true from rfl,aB,UZ w _ _ _ (h t (by simp)),az,Ke w l λx hx=>h x (by grind),az]
theorem Q4:∀(l:List aI)(i:Nat)(p:aI->Bool),(∀x (h:x<l.length),x<i->p l[x]=true)->(∀x (h:x<l.length),i<=x->p l[x]=false)->l.filter p=l.take i
 |[],_,_,_,_=>by simp
 |a::l,0,p,h1,h2=>by
  rw[pA,List.filter_eq_nil_iff]
  intro x hx
  obtain⟨k,hk,rfl⟩:=List.mem_iff_getElem.1 hx
  simp_all
 |a::l,i+1,p,h1,h2=>by
  have h0:=h1 0 (by simp) (by simp)
  simp at h0
  rw[kb,au h0,oC,Q4 l i p (λx h q=>by have:=h1 (x+1) (by grind) (by omega);simpa using this) λx h q=>by have:=h2 (x+1) (by simp;omega) (by omega);simpa using this]
theorem IW:∀(l:List aI)(i:Nat)(p:aI->Bool),(∀x (h:x<l.length),x<i->p l[x]=false)->(∀x (h:x<l.length),i<=x->p l[x]=true)->l.filter p=l.drop i
 |[],_,_,_,_=>by simp
 |a::l,0,p,h1,h2=>by
  rw[eS,List.filter_eq_self]
  intro x hx
  obtain⟨k,hk,rfl⟩:=List.mem_iff_getElem.1 hx
  simp_all
 |a::l,i+1,p,h1,h2=>by
  have h0:=h1 0 (by simp) (by simp)
  simp at h0
  rw[kb,ai (by simp[h0]),List.drop_succ_cons,IW l i p (λx h q=>by have:=h1 (x+1) (by grind) (by omega);simpa using this) λx h q=>by have:=h2 (x+1) (by simp;omega) (by omega);simpa using this]
theorem Xy{w:Nat}(l:List aI)(t:Int)(hr:fI l=true)(hl:l.length<2^20)(hw:l.length+2<w)(hd:∀t∈l,t.data.length<=1000000000):xU w (ay l) t=some (ay (oL l t)):=by
 obtain⟨i,a,b,c,h1,h2⟩:=Mt l t hr (by omega) hw
 unfold xU wF
 rw[TY,az,(dH gY l),mQ,show Nat.blt l.length 1000000000=true by simp;omega]
 rw[show(true&&true)=true from rfl,Ke w l hd,az,show ae l.length (l.flatMap cq)=ay l from rfl,a,az]
 cases hf:iB l t with
 |none=>
  have:oL l t=l:=by
   unfold oL
   rw[List.filter_eq_self]
   intro x hx
   have:=List.find?_eq_none.1 (hf) x hx
   simpa using this
  rw[this]
  rfl
 |some x=>
  obtain⟨hi,hx⟩:=c (by rw[hf];rfl)
  have ht:l[i].tag=t:=by
   have h0:=List.find?_some (hf)
   rw[hf] at hx
   rw[<-kG hx]
   simpa using h0
  have e1:(decide ((0:Int)<=((i:Nat):Int))&&Nat.blt i l.length)=true:=by simp;omega
  have hdr:oL l t=l.take i++l.drop (i+1):=by
   unfold oL
   conv=>lhs;rw[<-kT i l,dk hi]
   rw[List.filter_append,kb,ai (by simp[ht])]
   congr 1
   ·rw[List.filter_eq_self]
    intro x hx
    obtain⟨k,hk,rfl⟩:=List.mem_iff_getElem.1 hx
    simp at hk
    have:=h1 k (by omega) (by omega)
    simp;omega
   ·rw[List.filter_eq_self]
    intro x hx
    obtain⟨k,hk,rfl⟩:=List.mem_iff_getElem.1 hx
    simp at hk
    have:=u7 hr (show i<i+1+k by omega) (show i+1+k<l.length by omega)
    simp;omega
  simp only[Option.isSome_some,aB,e1,mM]
  rw[oO gY,wL gY,wL gY,eE (l:=l.drop (i+1)) (by simp),hdr,<-fw]
  unfold ay aA
  rw[show(l.take i++l.drop (i+1)).length=l.length -1 by simp;omega]
theorem aet{w:Nat}(l:List aI)(x:aI)(hr:fI l=true)(hl:l.length<2^20)(hw:l.length+2<w)(hd:∀t∈l,t.data.length<=1000000000)(hx:x.data.length<=1000000000):Bn w (ay l) x.tag x.ty x.aw (ag x.data)=some (ay (jW l x)):=by
 obtain⟨i,a,b,c,h1,h2⟩:=Mt l x.tag hr (by omega) hw
 unfold Bn xB
 rw[TY,az,(dH gY l),mQ,show Nat.blt l.length 1000000000=true by simp;omega,show bc [ag x.data]=true from rfl]
 rw[show(true&&true&&true)=true from rfl,aB,Ke w l hd,UZ w _ _ _ hx,az,show ae l.length (l.flatMap cq)=ay l from rfl,a]
 have hlt:l.filter (λy=>decide (y.tag<x.tag))=l.take i:=Q4 l i _ (λk h q=>by have:=h1 k h q;simpa using this) λk h q=>by have:=h2 k h q;simp;omega
 cases hf:iB l x.tag with
 |none=>
  have cF:∀k (h:k<l.length),l[k].tag≠x.tag:=λk h=>by
   have:=List.find?_eq_none.1 (hf) l[k] (cM h)
   simpa using this
  simp_all
  rw[oO gY,wL gY]
  unfold jW ay aA
  rw[hlt,(IW l i _ (λk h q=>by have:=h1 k h q;simp;omega) λk h q=>by have:=h2 k h q;have:=cF k h;simp;omega),fw,show(l.take i++x::l.drop i).length=l.length+1 by simp;omega]
  rfl
 |some y=>
  obtain⟨hi,hy⟩:=c (by rw[hf];rfl)
  have ht:l[i].tag=x.tag:=by
   rw[hf] at hy
   rw[<-kG hy]
   simpa using(List.find?_some (hf))
  have hgt:l.filter (λy=>decide (x.tag<y.tag))=l.drop (i+1):=IW l (i+1) _ (λk h q=>by
   by_cases hk:k=i
   ·subst hk;simp;omega
   ·have:=h1 k h (by omega);simp;omega) λk h q=>by have:=u7 hr (show i<k by omega) h;simp;omega
  simp_all
  rw[oO gY,wL gY]
  unfold jW ay aA
  rw[hlt,hgt,fw,show(l.take i++x::l.drop (i+1)).length=l.length by simp;omega]
  rfl
end
section
set_option linter.unusedVariables false
set_option linter.unusedSimpArgs false
set_option linter.unusedSectionVars false
set_option linter.constructorNameAsVariable false
theorem HZ(l:List UInt8):bm (l.map λb=>(b.toNat:Int))=l.map aV:=by
 unfold bm
 rw[List.map_map]
 rfl
theorem Xm{w:Nat}(b:List UInt8)(hb:b.length<=65519):BA w (ag b)=some (aA eV (fW b),0):=by
 unfold BA yZ
 rw[sB,cH,Vq w _ (by omega),az]
 cases b with
 |nil=>rfl
 |cons a b=>
  rw[(show wC (a::b).length=1 from by unfold wC;simp_all;omega),show(aj ((1:Nat):Int) 1&&Nat.ble (a::b).length 65519)=true by rw[show Nat.ble (a::b).length 65519=true by rw[iO];exact hb];rfl]
  have e:bm (mw++(a::b).map λb=>(b.toNat:Int))=(fM++1::1::(a::b)).map aV:=by
   rw[<-HZ];rfl
  rw[e,(show fW (a::b)=[fM++1::1::(a::b)] from by unfold fW;rw[ai (by simp)])]
  unfold aA eV ag aA
  rw[dV,(show∀l:List UInt8,l.flatMap mr=l.map aV fromλl=>by induction l with|nil=>rfl|cons x l ih=>rw[dV,ih];rfl),(show(fM++1::1::(a::b)).length=14+(a::b).length from by simp[fM];omega)]
  rfl
theorem WL{w:Nat}(a b c d:List UInt8)(h0:0<a.length)(h:a.length+b.length+c.length+d.length<2^29):tw w (ag a) (ag b) (ag c) (d.map aV)=some ((d++(a++(b++c))).map aV):=by
 unfold tw
 rw[NQ,az,sB,sB,sB,<-gq,<-gq,<-gq,HZ]
 have e:(Nat.blt 0 (d++(a++(b++c))).length&&Nat.ble (d++(a++(b++c))).length 1000000000)=true:=by
  simp;omega
 grind
end
section
set_option linter.unusedVariables false
set_option linter.unusedSimpArgs false
set_option linter.unusedSectionVars false
set_option linter.constructorNameAsVariable false
theorem Zk(t:Int):(kindOf t).1 <=8:=by
 unfold kindOf
 repeat' split
 all_goals decide
theorem ZM{ty aw:Int}{l:List UInt8}(h:ej ty aw l=true):l.length<=524288:=by
 obtain⟨h0,h1,h2,h3⟩:=uR h
 have:aw*(kindOf ty).1 <=aw*8:=Int.mul_le_mul_of_nonneg_left (Zk ty) (by omega)
 omega
theorem ZP{w:Nat}(l:List aI)(h:∀t∈l,ej t.ty t.aw t.data=true)(hl:l.length<=65535)(hw:65540<=w):nA w (ay l)=some false:=by
 have key:Nc w (ay l)=some (-1):=by
  refine ia (ev:=λi (g:Value->Int->Int->Option Int)=>g (ay l) (l.length:Int) i) l.length ?_ ?_ (by omega)
  ·intro i g hi
   simp_all
   rw[show ay l=aA cq l from rfl,bu gY hi,(show∀(y:aI)(r:List Value),cq y++r=Value.int .i64 y.tag::.int .i64 y.ty::.int .i64 y.aw::ag y.data::r fromλ_ _=>rfl)]
   simp
   have hm:=h l[i] (cM hi)
   unfold MZ
   rw[xQ w _ _ _ (by have:=ZM hm;omega),hm,aM (by omega) (by omega)]
   rfl
  ·intro g
   simp
 unfold nA
 rw[key]
 rfl
theorem KT(d:aS):(fO (dT d)&&(fO (dS d)&&fO (dB d)))=true:=by cases d;rfl
theorem ZL{w:Nat}(hw:65540<=w){sh:List aX}{s:Nat}{d:aS}(h:cD sh s d=true):mC (kx w) (nA w) (dT d) (dS d) (dB d)=true:=by
 unfold mC
 rw[KT]
 obtain⟨tags,subs,blob⟩:=d
 unfold cD at h
 simp_all
 obtain⟨⟨h1,h2⟩,h3,_⟩:=h
 have hn:bB (.mk tags subs blob)=tags.length+bX subs+(if blob.length=0 then 0 else 2):=rfl
 have hT:∀t∈tags,ej t.ty t.aw t.data=true:=λt ht=>by
  unfold jY at h3
  simp_all
 rw[show dT (.mk tags subs blob)=ay tags from rfl,show dS (.mk tags subs blob)=ae (bX subs) (gG subs) from rfl,show dB (.mk tags subs blob)=ag blob from rfl,FG w tags subs blob (by omega),ZP tags hT (by omega) hw]
 grind
mutual
theorem Re{w:Nat}(hw:65540<=w){sh:List aX}:∀(d:aS)(s f:Nat),cD sh s d=true->fX d<=f->lR (mC (kx w) (nA w)) f (dT d) (dS d) (dB d)=true
 | .mk tags subs blob,s,0,h,hf=>by simp[fX] at hf
 | .mk tags subs blob,s,f+1,h,hf=>by
  unfold lR
  rw[ZL hw h]
  unfold cD at h
  simp at h
  obtain⟨⟨h1,h2⟩,_,_,_,h5⟩:=h
  have hn:bB (.mk tags subs blob)=tags.length+bX subs+(if blob.length=0 then 0 else 2):=rfl
  show(Nat.beq (gG subs).length (bX subs*4)&&Nat.blt (bX subs) 1000000000&&uQ (lR (mC (kx w) (nA w)) f) (gG subs))=true
  rw[VH,mQ,show Nat.blt (bX subs) 1000000000=true by simp;omega,Rg hw subs _ f h5 (by simp only[fX] at hf;omega)]
  rfl
theorem Rg{w:Nat}(hw:65540<=w){sh:List aX}:∀(s:cA)(S:aX)(f:Nat),iV sh S s=true->jM s<=f->uQ (lR (mC (kx w) (nA w)) f) (gG s)=true
 | .nil,_,_,_,_=>rfl
 | .cons tag d r,S,f,h,hf=>by
  unfold iV at h
  simp_all
  unfold jM at hf
  rw[show gG (.cons tag d r)=.int .i64 tag::(cZ d++gG r) from rfl,pJ]
  show((fO (dT d)&&(fO (dS d)&&fO (dB d)))&&lR (mC (kx w) (nA w)) f (dT d) (dS d) (dB d)&&uQ (lR (mC (kx w) (nA w)) f) (gG r))=true
  rw[KT,Re hw d _ f h.2.1 (by omega),Rg hw r S f h.2.2 (by omega)]
  rfl
end
theorem ZN{w:Nat}(hw:65540<=w)(o:Int)(ds:List aS)(hn:ds.length<1000000000)(h:∀d∈ds,∃(sh:List aX)(s:Nat),cD sh s d=true)(hd:kJ ds<=w):vr w o (cU ds)=some true:=by
 have hC:∀ds:List aS,(∀d∈ds,∃(sh:List aX)(s:Nat),cD sh s d=true)->kJ ds<=w->ru (lR (mC (kx w) (nA w)) w) (ds.flatMap cZ)=true:=by
  intro ds
  induction ds with
  |nil=>intro _ _;rfl
  |cons d ds ih=>
   intro h hd
   obtain⟨sh,s,h0⟩:=h d (by simp)
   unfold kJ at hd
   rw[dV,pJ]
   show((fO (dT d)&&(fO (dS d)&&fO (dB d)))&&lR (mC (kx w) (nA w)) w (dT d) (dS d) (dB d)&&ru (lR (mC (kx w) (nA w)) w) (ds.flatMap cZ))=true
   rw[KT,Re hw d s w h0 (by omega),ih (λx hx=>h x (by grind)) (by omega)]
   rfl
 show cond (Nat.beq (ds.flatMap cZ).length (ds.length*3)&&(Nat.blt ds.length 1000000000&&ru (lR (mC (kx w) (nA w)) w) (ds.flatMap cZ))) (some true) none=some true
 rw[(dH kX ds),mQ,show Nat.blt ds.length 1000000000=true by simp;omega,hC ds h hd]
 rfl
theorem Yp{w:Nat}(hw:65540<=w):Hand w:=
 ⟨λo ds hn h hd=>ZN hw o ds hn h hd,λl x h1 h2 h3 h4 h5=>aet l x h1 h2 h3 h4 h5,λl t h1 h2 h3 h4=>Xy l t h1 h2 h3 h4,λb h=>Xm b h,λa b c d h0 h=>WL a b c d h0 h⟩
end
section
set_option linter.unusedVariables false
set_option linter.unusedSimpArgs false
set_option linter.unusedSectionVars false
set_option linter.constructorNameAsVariable false
open Go.Shelf Go.RowKit Go.Lib Go.ChangeShapes Go.WideShapes Go.Deep
section
variable{H:Type} {enc:TypeId×Value->H} {P:Program} {w:World} {base:Nat} {spare:Nat->Bool} {held:Bool}
theorem WM{b i:Nat}{y:Value}(h:w.cell? ⟨b,i,none⟩=some y):fH w b i=some y:=by
 unfold fH
 split
 ·rename_i es c q
  unfold World.cell? at h
  simp only[q] at h
  cases h
 ·exact h
theorem WN{a:Addr}{y:Value}(h:w.cell? a=some y):a.spot=none:=by
 unfold World.cell? at h
 split at h
 ·split at h
  ·cases h
  ·rename_i q
   cases e:a.spot with
   |none=>rfl
   |some _=>rw[e] at q;exact absurd rfl q
 ·cases h
theorem SN{α:Type}{f:α->List Value}(h:∀x,bc (f x)=true):∀l:List α,bc (l.flatMap f)=true
 |[]=>rfl
 |x::l=>by rw[dV];exact DS (h x) (SN h l)
theorem NP{α:Type}{t e:TypeId}{k:Nat}(f:α->List Value)(pf:∀p,bc (f p)=true)(ht:P.underlying t=some (.slice e))(hk:P.cellsOf e=k)(k0:0<k){fuel:Nat}{cs:List Value}{x:DataW H×List MemPlace}
 (each:∀fuel cs x,DataW.trod enc P w base spare held fuel e cs=some x->∃p:α,bG (λb i=>fH w b i) (f p) cs) (h:DataW.trod enc P w base spare held fuel t cs=some x):
 ∃(l:List α)(v:Value),cs=[v]/\aJ (λb i=>fH w b i) (aA f l) v/\l.length<=maxLen:=by
 rcases open_slice ht h with⟨rfl,_⟩|⟨a,len,cap,m,n,D,Pl,rfl,hb,hl,hm,hmm,hx,hi⟩
 ·exact⟨[],_,rfl,.gO,iu _⟩
 have hlm:len<=m:=by rw[hmm];split<;>omega
 have key:∀j,j<=len->∃(l:List α)(ys:List Value),l.length=j/\bG (λb i=>fH w b i) (l.flatMap f) ys/\ys.length=j*k/\∀q y,ys[q]? =some y->w.cell? (a.add q)=some y:=by
  intro j
  induction j with
  |zero=>intro _;exact⟨[],[],rfl,.nil,by simp,λq y h=>by simp at h⟩
  |succ j ih=>
   intro hj
   obtain⟨l,ys,e1,e2,e3,e4⟩:=ih (by omega)
   obtain⟨cs',hc,htr⟩:=hi j (by omega)
   obtain⟨p,hp⟩:=each _ _ _ htr
   rw[hk] at hc
   obtain⟨_,hcl,hat⟩:=World.cells?_some hc
   refine⟨l++[p],ys++cs',by simp[e1],?_,by simp[e3,hcl,lE],λq y hq=>?_⟩
   ·rw[fw,dV,mN,dX]
    exact e2.join hp
   ·rcases ir q ys.length with hlt|hge
    ·rw[List.getElem?_append_left hlt] at hq
     exact e4 q y hq
    ·rw[List.getElem?_append_right hge] at hq
     have hql:=(qc.1 hq).1
     have:=hat (q -ys.length) (by omega)
     rw[hq] at this
     rw[<-this,Go.Deep.add_add]
     congr 2
     omega
 obtain⟨l,ys,e1,e2,e3,e4⟩:=key len (aK _)
 refine⟨l,_,rfl,?_,by omega⟩
 by_cases h0:len=0
 ·have:l=[]:=kR (by omega)
  subst this
  subst h0
  exact .gO
 ·obtain⟨y0,hy0⟩:∃y,ys[0]? =some y:=⟨_,cW (by rw[e3];exact Nat.mul_pos (by omega) k0)⟩
  obtain⟨b,o,sp⟩:=a
  have hs:sp=none:=by
   have:=WN (e4 0 y0 hy0)
   unfold Addr.add at this
   first|exact this|(split at this<;>exact this)|simpa using this
  subst hs
  subst e1
  refine aJ.row e2 (λi y hy=>WM ?_) rfl hl (SN pf l)
  have:=e4 i y hy
  rwa[Addr.add_lit] at this
end
end
section
set_option linter.unusedVariables false
set_option linter.unusedSimpArgs false
set_option linter.unusedSectionVars false
set_option linter.constructorNameAsVariable false
open Go.Shelf Go.RowKit Go.Lib Go.ChangeShapes Go.WideShapes Go.Deep
theorem OH:Tryz.prog.cellsOf 136=4:=by kernel_rfl
theorem um:Tryz.prog.cellsOf 3=1:=by kernel_rfl
theorem WS:Tryz.prog.cellsOf 5=1:=by kernel_rfl
theorem WT:Tryz.prog.cellsOf 134=3:=by kernel_rfl
theorem yW:Tryz.prog.cellsOf 26=1:=by kernel_rfl
theorem wA:Tryz.prog.cellsOf 25=1:=by kernel_rfl
theorem WQ:Tryz.prog.cellsOf 28=8:=by kernel_rfl
theorem OG:Tryz.prog.cellsOf 30=14:=by kernel_rfl
theorem WR:Tryz.prog.cellsOf 22=1:=by kernel_rfl
theorem WO:Tryz.prog.cellsOf 24=1:=by kernel_rfl
section
variable{H:Type} {enc:TypeId×Value->H} {w:World} {base:Nat} {spare:Nat->Bool} {held:Bool}
theorem ju{t:TypeId}{fs:Array Field}{fuel:Nat}{cs:List Value}{x:DataW H×List MemPlace}(ht:Tryz.prog.underlying t=some (.struct fs))(h:DataW.trod enc Tryz.prog w base spare held fuel t cs=some x)(i:Nat)(f:Field)(hf:fs[i]? =some f){k:Nat}(hk:Tryz.prog.cellsOf f.type=k):
 ∃n y,DataW.trod enc Tryz.prog w base spare held n f.type ((cs.drop f.offset).take k)=some y:=by
 obtain⟨xs,n,_,_,_,hl,hat⟩:=DataW.trod_struct ht h
 have hi:i<fs.size:=(iE.1 hf).1
 subst hk
 exact⟨n,_,(hat i f hf).trans (cW (by omega))⟩
theorem lenOf{t:TypeId}{fs:Array Field}{fuel:Nat}{cs:List Value}{x:DataW H×List MemPlace}(ht:Tryz.prog.underlying t=some (.struct fs))(h:DataW.trod enc Tryz.prog w base spare held fuel t cs=some x){k:Nat}(hk:Tryz.prog.cellsOf t=k):cs.length=k:=by
 obtain⟨_,_,_,_,hl,_⟩:=DataW.trod_struct ht h
 rw[hl,hk]
theorem u5{fuel:Nat}{cs:List Value}{x:DataW H×List MemPlace}(h:DataW.trod enc Tryz.prog w base spare held fuel 3 cs=some x):∃n,cs=[.int .i64 n]:=by
 obtain⟨n,e,_⟩:=DataW.trod_int Tryz.underlying3 h
 exact⟨n,e⟩
theorem adF{fuel:Nat}{cs:List Value}{x:DataW H×List MemPlace}(h:DataW.trod enc Tryz.prog w base spare held fuel 5 cs=some x):∃b:UInt8,bG (λb i=>fH w b i) (mr b) cs:=by
 obtain⟨n,rfl,_,q⟩:=DataW.trod_int Tryz.underlying5 h
 have hq:0<=n/\n<=255:=by
  unfold Lit.wf at q
  rw[bt] at q
  exact⟨nF q.1,nF q.2⟩
 refine⟨UInt8.ofNat n.toNat,?_⟩
 have e:mr (UInt8.ofNat n.toNat)=[.int .u8 n]:=by
  unfold mr aV
  have:((UInt8.ofNat n.toNat).toNat:Int)=n:=by
   rw[vW];omega
  rw[this]
 rw[e]
 exact .cons (.int _ _) .nil
theorem AA{fuel:Nat}{cs:List Value}{x:DataW H×List MemPlace}(h:DataW.trod enc Tryz.prog w base spare held fuel 26 cs=some x):∃(l:List UInt8)(v:Value),cs=[v]/\aJ (λb i=>fH w b i) (ag l) v/\l.length<=maxLen:=
 NP mr (λ_=>rfl) Tryz.underlying26 WS (by decide) (λ_ _ _ h=>adF h) h
theorem adH{fuel:Nat}{cs:List Value}{x:DataW H×List MemPlace}(h:DataW.trod enc Tryz.prog w base spare held fuel 136 cs=some x):∃t:aI,bG (λb i=>fH w b i) (cq t) cs:=by
 have hl:=lenOf Tryz.underlying136 h OH
 match cs,hl with
 |[a,b,c,d],_=>
  obtain⟨_,_,h0⟩:=ju Tryz.underlying136 h 0 _ rfl um
  obtain⟨_,_,h1⟩:=ju Tryz.underlying136 h 1 _ rfl WT
  obtain⟨_,_,h2⟩:=ju Tryz.underlying134 h1 0 _ rfl um
  obtain⟨_,_,h3⟩:=ju Tryz.underlying134 h1 1 _ rfl um
  obtain⟨_,_,h4⟩:=ju Tryz.underlying134 h1 2 _ rfl yW
  obtain⟨n0,e0⟩:=u5 h0
  obtain⟨n1,e1⟩:=u5 h2
  obtain⟨n2,e2⟩:=u5 h3
  obtain⟨l,v,e3,L,_⟩:=AA h4
  have e0:[a]=[.int .i64 n0]:=e0
  have e1:[b]=[.int .i64 n1]:=e1
  have e2:[c]=[.int .i64 n2]:=e2
  have e3:[d]=[v]:=e3
  cases e0;cases e1;cases e2;cases e3
  exact⟨⟨n0,n1,n2,l⟩,.cons (.int _ _) (.cons (.int _ _) (.cons (.int _ _) (.cons L .nil)))⟩
theorem xi{fuel:Nat}{cs:List Value}{x:DataW H×List MemPlace}(h:DataW.trod enc Tryz.prog w base spare held fuel 25 cs=some x):∃(l:List aI)(v:Value),cs=[v]/\aJ (λb i=>fH w b i) (ay l) v/\l.length<=maxLen:=
 NP cq (λ_=>rfl) Tryz.underlying25 OH (by decide) (λ_ _ _ h=>adH h) h
def yE(p:aZ):Prop:=∀l∈[p.aF.ct,p.aF.bI,p.aF.bN,p.aF.bn,p.aF.first,p.view],l.length<=maxLen
theorem adG{fuel:Nat}{cs:List Value}{x:DataW H×List MemPlace}(h:DataW.trod enc Tryz.prog w base spare held fuel 30 cs=some x):∃p:{p:aZ//yE p},bG (λb i=>fH w b i) (fQ p.1) cs:=by
 have hl:=lenOf Tryz.underlying30 h OG
 match cs,hl with
 |[a0,a1,a2,a3,a4,a5,a6,a7,a8,a9,a10,a11,a12,a13],_=>
  obtain⟨_,_,hE⟩:=ju Tryz.underlying30 h 0 _ rfl WQ
  obtain⟨_,_,h0⟩:=ju Tryz.underlying28 hE 0 _ rfl um
  obtain⟨_,_,h1⟩:=ju Tryz.underlying28 hE 1 _ rfl wA
  obtain⟨_,_,h2⟩:=ju Tryz.underlying28 hE 2 _ rfl wA
  obtain⟨_,_,h3⟩:=ju Tryz.underlying28 hE 3 _ rfl wA
  obtain⟨_,_,h4⟩:=ju Tryz.underlying28 hE 4 _ rfl wA
  obtain⟨_,_,h5⟩:=ju Tryz.underlying28 hE 5 _ rfl wA
  obtain⟨_,_,h6⟩:=ju Tryz.underlying28 hE 6 _ rfl yW
  obtain⟨_,_,h7⟩:=ju Tryz.underlying28 hE 7 _ rfl yW
  obtain⟨_,_,h8⟩:=ju Tryz.underlying30 h 1 _ rfl yW
  obtain⟨_,_,h9⟩:=ju Tryz.underlying30 h 2 _ rfl yW
  obtain⟨_,_,h10⟩:=ju Tryz.underlying30 h 3 _ rfl um
  obtain⟨_,_,h11⟩:=ju Tryz.underlying30 h 4 _ rfl um
  obtain⟨_,_,h12⟩:=ju Tryz.underlying30 h 5 _ rfl um
  obtain⟨_,_,h13⟩:=ju Tryz.underlying30 h 6 _ rfl wA
  obtain⟨n0,e0⟩:=u5 h0
  obtain⟨l1,v1,e1,L1,m1⟩:=xi h1
  obtain⟨l2,v2,e2,L2,m2⟩:=xi h2
  obtain⟨l3,v3,e3,L3,m3⟩:=xi h3
  obtain⟨l4,v4,e4,L4,m4⟩:=xi h4
  obtain⟨l5,v5,e5,L5,m5⟩:=xi h5
  obtain⟨l6,v6,e6,L6,_⟩:=AA h6
  obtain⟨l7,v7,e7,L7,_⟩:=AA h7
  obtain⟨l8,v8,e8,L8,_⟩:=AA h8
  obtain⟨l9,v9,e9,L9,_⟩:=AA h9
  obtain⟨n10,e10⟩:=u5 h10
  obtain⟨n11,e11⟩:=u5 h11
  obtain⟨n12,e12⟩:=u5 h12
  obtain⟨l13,v13,e13,L13,m13⟩:=xi h13
  have e0:[a0]=[.int .i64 n0]:=e0
  have e1:[a1]=[v1]:=e1
  have e2:[a2]=[v2]:=e2
  have e3:[a3]=[v3]:=e3
  have e4:[a4]=[v4]:=e4
  have e5:[a5]=[v5]:=e5
  have e6:[a6]=[v6]:=e6
  have e7:[a7]=[v7]:=e7
  have e8:[a8]=[v8]:=e8
  have e9:[a9]=[v9]:=e9
  have e10:[a10]=[.int .i64 n10]:=e10
  have e11:[a11]=[.int .i64 n11]:=e11
  have e12:[a12]=[.int .i64 n12]:=e12
  have e13:[a13]=[v13]:=e13
  cases e0;cases e1;cases e2;cases e3;cases e4;cases e5;cases e6;cases e7;cases e8;cases e9;cases e10;cases e11;cases e12;cases e13
  refine⟨⟨⟨⟨n0,l1,l2,l3,l4,l5,l6,l7⟩,l8,l9,n10,n11,n12,l13⟩,λl hl=>?_⟩,.cons (.int _ _) (.cons L1 (.cons L2 (.cons L3 (.cons L4 (.cons L5 (.cons L6 (.cons L7 (.cons L8 (.cons L9 (.cons (.int _ _) (.cons (.int _ _) (.cons (.int _ _) (.cons L13 .nil)))))))))))))⟩
  simp only[cQ,mP,mS] at hl
  rcases hl with rfl|rfl|rfl|rfl|rfl|rfl<;>assumption
theorem adE{fuel:Nat}{cs:List Value}{x:DataW H×List MemPlace}(h:DataW.trod enc Tryz.prog w base spare held fuel 24 cs=some x):∃(ms:List aZ)(v:Value),cs=[v]/\aJ (λb i=>fH w b i) (cR ms) v/\ms.length<=maxLen/\∀p∈ms,yE p:=by
 have hl:=lenOf Tryz.underlying24 h WO
 match cs,hl with
 |[a],_=>
  obtain⟨_,_,h0⟩:=ju Tryz.underlying24 h 0 _ rfl WR
  obtain⟨l,v,e,L,hm⟩:=NP (λp:{p:aZ//yE p}=>fQ p.1) (λ_=>rfl) Tryz.underlying22 OG (by decide) (λ_ _ _ h=>adG h) h0
  have e:[a]=[v]:=e
  cases e
  refine⟨l.map (·.1),a,rfl,?_,by simpa using hm,λp hp=>?_⟩
  ·have:cR (l.map (·.1))=aA (λp:{p:aZ//yE p}=>fQ p.1) l:=by
    unfold cR aA
    rw[cH,List.flatMap_map]
   rw[this];exact L
  ·obtain⟨q,_,rfl⟩:=mg.1 hp
   exact q.2
end
end
section
set_option linter.unusedVariables false
set_option linter.unusedSimpArgs false
set_option linter.unusedSectionVars false
set_option linter.constructorNameAsVariable false
def ec(ms:List aZ)(i:Nat):Nat:=(eJ (fG (aQ ms i).p (aQ ms i).b) (aQ ms i).aL).length
def cC(ms:List aZ):Nat->Nat
 |0=>0
 |i+1=>cC ms i+ec ms i
def iC(ms:List aZ):Nat:=(aQ ms 0).aL.length+14
def rF(ms:List aZ)(i:Nat):cy:=⟨(aQ ms i).p.attr,ec ms i,if i=0 then 0 else(cC ms i:Int) -iC ms,(aQ ms i).p.fA,(aQ ms i).p.fC⟩
def fu(ms:List aZ):List cy:=(List.range ms.length).map (rF ms)
def fR(ms:List aZ)(i:Nat):List UInt8:=if i=0/\1<ms.length then J8 (gL (aQ ms 0).p.aF.order (fu ms) (aQ ms 0).p.view) else(aQ ms i).b
def jy(ms:List aZ)(i:Nat):List UInt8:=eJ (fG (aQ ms i).p (fR ms i)) (aQ ms i).aL
def dA(ms:List aZ):List (List UInt8):=(List.range ms.length).map (jy ms)
theorem mF(ms:List aZ):(fu ms).length=ms.length:=by unfold fu;rw[cH,List.length_range]
theorem uU(ms:List aZ):(dA ms).length=ms.length:=by unfold dA;rw[cH,List.length_range]
theorem iG.at_{ms:List aZ}(F:iG ms){i:Nat}(hi:i<ms.length):(aQ ms i).p=ms[i]/\jV ms i=.ok (aQ ms i).b/\iI ms[i].aF=.ok (aQ ms i).aL/\mZ ms[i].core=true:=by
 obtain⟨b,aL,k1,k2,k3,k4⟩:=F.I9 hi
 rw[k4]
 exact⟨rfl,k1,k2,k3⟩
theorem oT{ms:List aZ}(F:iG ms){i:Nat}(hi:i<ms.length):1<=ec ms i/\ec ms i<=3000000:=by
 obtain⟨h1,h2,h3,h4⟩:=F.at_ hi
 have h6:=F.le
 unfold ec
 rw[h1]
 exact⟨Qe _ _,Qf hi h2 F.mem (by omega) h3 h4⟩
theorem tO{ms:List aZ}(F:iG ms):∀i,i<=ms.length->cC ms i<=3000000*i
 |0,_=>aK _
 |i+1,h=>by
  have:=tO F i (by omega)
  have:=(oT F (i:=i) (by omega)).2
  unfold cC
  omega
theorem tP(ms:List aZ):∀{i j:Nat},i<=j->cC ms i<=cC ms j
 |i,0,h=>by rw[Nat.le_zero.1 h];exact aK _
 |i,j+1,h=>by
  rcases ir i (j+1) with q|q
  ·have:=tP ms (show i<=j by omega)
   show cC ms i<=cC ms j+ec ms j
   omega
  ·rw[show i=j+1 by omega];exact aK _
theorem HU{x:mU}{aL:List UInt8}:aL.length+x.cn.length+6<=(eJ x aL).length:=by
 unfold eJ jf
 rw[kA,kA]
 have a1:(cL ⟨216,[],[]⟩).length=2:=rfl
 have a2:(cL ⟨225,aL,[]⟩).length=aL.length+4:=by
  rw[show cL ⟨225,aL,[]⟩=[255,UInt8.ofNat (225:Int).toNat,UInt8.ofNat ((aL.length+2)/256),UInt8.ofNat ((aL.length+2)%256)]++aL++[] from rfl]
  simp only[aR,bY,List.length_nil]
  omega
 rw[aR,aR,a1,a2]
 split
 ·rename_i h;omega
 ·rw[List.singleton_append,kA,aR]
  have a3:(cL ⟨226,x.cn,[]⟩).length=x.cn.length+4:=by
   rw[show cL ⟨226,x.cn,[]⟩=[255,UInt8.ofNat (226:Int).toNat,UInt8.ofNat ((x.cn.length+2)/256),UInt8.ofNat ((x.cn.length+2)%256)]++x.cn++[] from rfl]
   simp only[aR,bY,List.length_nil]
   omega
  omega
theorem Ar{ms:List aZ}(F:iG ms)(h2:1<ms.length):
 ∃b,gL (aQ ms 0).p.aF.order (fu ms) (aQ ms 0).p.view=.ok b/\b.length=(aQ ms 0).b.length/\fR ms 0=b/\14<b.length:=by
 obtain⟨h1,k1,k2,k3⟩:=F.at_ (i:=0) (by omega)
 have h6:=F.le
 unfold jV at k1
 rw[cW (by omega:0<ms.length)] at k1
 simp only[dL] at k1
 rw[au h2] at k1
 rw[h1]
 have hpl:(gT ms).length=ms.length:=by unfold gT;rw[cH]
 have hwl:=mF ms
 have hn:2<=ms.length/\16*ms.length<=65536:=by omega
 obtain⟨N,hN⟩:=Yx ms[0].aF.order hn ms[0].view
 obtain⟨A,B,hAB⟩:=YG ms[0].aF.order hn ms[0].view
 have hhead:iC ms<=ec ms 0:=by
  unfold iC ec
  have:=HU (x:=fG (aQ ms 0).p (aQ ms 0).b) (aL:=(aQ ms 0).aL)
  have e:(fG (aQ ms 0).p (aQ ms 0).b).cn=(aQ ms 0).b:=rfl
  rw[e] at this
  obtain⟨e1,_⟩:=Jb k1
  have e2:(aQ ms 0).b.length=4+(ed (cI ms[0].aF.order (gT ms) ms[0].view) fq).length:=by rw[e1,aR];rfl
  have e3:8<=(ed (cI ms[0].aF.order (gT ms) ms[0].view) fq).length:=by
   unfold ed
   simp only[aR,er]
   split<;>(simp;omega)
  omega
 have hall:(fu ms).all jT=true:=by
  rw[iq]
  intro p hp
  unfold fu at hp
  obtain⟨i,hi,rfl⟩:=mg.1 hp
  have hi:=List.mem_range.1 hi
  obtain⟨g1,g2,g3,g4⟩:=F.at_ hi
  have:=pL (F.wN _ (cM hi))
  have bp:=this.2.2.1
  unfold oJ at bp
  simp at bp
  have l1:=oT F hi
  have s1:=tO F i (by omega)
  unfold jT rF
  rw[g1]
  rw[bZ]
  refine⟨bp.1,⟨by show 0<=(ec ms i:Int);omega,by show(ec ms i:Int)<_;omega⟩,?_,bp.2.1,bp.2.2⟩
  show 0<=(if i=0 then(0:Int) else(cC ms i:Int) -iC ms)/\(if i=0 then(0:Int) else(cC ms i:Int) -iC ms)<4294967296
  by_cases hi0:i=0
  ·rw[au hi0];omega
  ·rw[ai hi0]
   have:=tP ms (show 1<=i by omega)
   have e:cC ms 1=ec ms 0:=by show cC ms 0+ec ms 0=_;show 0+ec ms 0=_;omega
   omega
 have hb:=k1
 unfold gL at hb
 split at hb
 ·cases hb
 split at hb
 ·cases hb
 split at hb
 ·cases hb
 split at hb
 ·cases hb
 split at hb
 ·cases hb
 rename_i q1 q2 q3 q4 q5
 rw[hN _ hpl] at q5
 injection hb with hb
 refine⟨gy++ed (cI ms[0].aF.order (fu ms) ms[0].view) fq,?_,?_,?_,?_⟩
 ·unfold gL
  rw[ai (by rw[hwl];rw[hpl] at q1;exact q1),ai (by rw[hall];decide),ai q3,ai (by rw[hwl];omega),ai (by rw[hN _ hwl];exact q5)]
 ·rw[<-hb,hAB _ hwl,hAB _ hpl]
  simp only[aR,o6,hwl,hpl]
 ·unfold fR
  rw[au ⟨rfl,h2⟩,h1]
  unfold gL
  rw[ai (by rw[hwl];rw[hpl] at q1;exact q1),ai (by rw[hall];decide),ai q3,ai (by rw[hwl];omega),ai (by rw[hN _ hwl];exact q5)]
  rfl
 ·rw[hAB _ hwl]
  simp only[aR,o6,hwl]
  have:gy.length=4:=rfl
  omega
end
section
set_option linter.unusedVariables false
set_option linter.unusedSimpArgs false
set_option linter.unusedSectionVars false
set_option linter.constructorNameAsVariable false
def kH(L:List Int)(i:Nat):Int:=(L.take i).sum
def ox(L:List Int):List Int:=(List.range (L.length+1)).map (kH L)
theorem Cw{L:List Int}{i:Nat}(h:i<L.length):kH L (i+1)=kH L i+L[i]:=by
 unfold kH
 rw[iN h,List.sum_append]
 simp
theorem agS(L:List Int):(ox L).length=L.length+1:=by unfold ox;rw[cH,List.length_range]
theorem agR(L:List Int){i:Nat}(h:i<(ox L).length):(ox L)[i]=kH L i:=by simp[ox]
theorem Hy{L:List Int}(hL:∀n∈L,1<=n/\n<=3000000):∀i,i<=L.length->(i:Int)<=kH L i/\kH L i<=3000000*i
 |0,_=>by unfold kH;simp
 |i+1,h=>by
  have:=Hy hL i (by omega)
  have:=hL _ (cM (show i<L.length by omega))
  rw[Cw (by omega)]
  omega
theorem zC(L:List Int):L.flatMap dw=bD L:=by
 unfold bD
 induction L with
 |nil=>rfl
 |cons a l ih=>rw[dV,iF,ih];rfl
theorem afw{w:Nat}(L:List Int)(hL:∀n∈L,1<=n/\n<=3000000)(hl:L.length<=1000)(hw:2000<w):FQ w (aA dw L) [Value.int .i64 0]=some (-1,bD (ox L)):=by
 unfold FQ
 rw[cd]
 refine ia (ev:=λi (g:Value->Int->Int->List Value->Option (Int×List Value))=>g (aA dw L) L.length i (bD ((List.range (i+1)).map (kH L)))) L.length ?_ ?_ (by omega)
 ·intro i g hi
  have e1:((i:Int)<(L.length:Int)):=by omega
  have hn:=hL _ (cM hi)
  have ha:=Hy hL i (by omega)
  simp only[aT,e1,bd,aB,bP]
  rw[bu oR hi,show dw L[i]++(L.drop (i+1)).flatMap dw=.int .i64 L[i]::(L.drop (i+1)).flatMap dw from rfl]
  simp only[bh,bQ]
  rw[List.range_succ,gq,iF,List.map_nil,MB _ _ _ ⟨hn.1,by omega⟩ ⟨by omega,by omega⟩ (by simp;omega)]
  simp only[az,aC,bT]
  rw[aM (by omega) (by omega),List.range_succ,gq,iF,List.map_nil,List.range_succ,gq,iF,List.map_nil,Cw hi]
  rfl
 ·intro g
  have e1:¬((L.length:Int)<(L.length:Int)):=by omega
  simp only[aT,e1,bM,aC]
  rfl
theorem aeZ{w:Nat}(L:List Int)(hL:∀n∈L,1<=n/\n<=3000000)(hl:L.length<=1000)(hw:2000<w):Fh w (aA dw L)=some (aA dw (ox L),true):=by
 unfold Fh MA
 rw[afw L hL hl hw]
 simp only[az,aA,zC]
 rw[show(bD (ox L)).length=(ox L).length by unfold bD;rw[cH],kE]
 rfl
theorem aeO(w:Nat)(P:List cy)(h0:0<P.length)(hl:P.length<=1000):EZ w (eW P)=some (P.flatMap fm):=by
 unfold EZ eW
 rw[cd,zr nv]
 have hn:=nextslicecap_le (need:=0+P.length) (old:=0) (by omega)
 have e4:(Builtin.nextslicecap (0+P.length) 0).ble 5000000000=true:=by rw[iO];omega
 have e5:(P.flatMap fm).length.beq (P.length*5)=true:=by rw[dH nv];exact mQ _
 have e6:Nat.blt 0 P.length=true:=by simp;omega
 have e7:(0+P.length).ble 0=false:=by
  cases h:P.length with
  |zero=>omega
  |succ n=>rw[gI];rfl
 have e8:aG P.length=true:=by simp;omega
 rw[e6,e5,e7,e8,e4]
 rfl
def o5(L:List Int)(h:Int)(P:List cy):List cy:=(List.range P.length).map λi=>⟨(P[i]?.getD ⟨0,0,0,0,0⟩).attr,L[i]?.getD 0,if i=0 then 0 else kH L i -h,(P[i]?.getD ⟨0,0,0,0,0⟩).fA,(P[i]?.getD ⟨0,0,0,0,0⟩).fC⟩
theorem Tu(A B vs:List Value)(k:Nat):aU (A.length+k) vs (A++B)=A++aU k vs B:=by
 induction vs generalizing k B with
 |nil=>rfl
 |cons v vs ih=>
  rw[aU,aU,show A.length+k+1=A.length+(k+1) by omega,List.set_append_right (A.length+k) v (by omega),show A.length+k -A.length=k by omega,ih]
end
section
set_option linter.unusedVariables false
set_option linter.unusedSimpArgs false
set_option linter.unusedSectionVars false
set_option linter.constructorNameAsVariable false
theorem D5(L:List Int)(h:Int)(P:List cy):(o5 L h P).length=P.length:=by simp[o5]
theorem Kl(L:List Int)(h:Int)(P:List cy){i:Nat}(hi:i<P.length)(hL:i<L.length)(q:i<(o5 L h P).length):(o5 L h P)[i]=⟨P[i].attr,L[i],if i=0 then 0 else kH L i -h,P[i].fA,P[i].fC⟩:=by simp[o5,hi,hL]
theorem UO{w:Nat}(L:List Int)(hL:∀n∈L,1<=n/\n<=3000000)(hl:L.length<=1000)(hw:2000<w)(h:Int)(hh:0<=h/\h<=kH L 1)(P:List cy)(hP:P.length=L.length)(h0:0<P.length):
 A5 w (aA dw L) h (eW P)=some (eW (o5 L h P),true):=by
 unfold A5
 rw[aeZ L hL hl hw,aeO w P h0 (by omega)]
 simp only[az,bO,aC]
 rw[show eW P=aA fm P from rfl,cd,cd,hP]
 have e0:ak h 0=false:=by rw[aT,gJ];omega
 rw[show aj (Int.ofNat L.length) (Int.ofNat L.length)=true by rw[cu,bZ],bO,aC,e0,aC,dH nv,jG _ (by decide)]
 have hmono:∀i,1<=i->i<=L.length->kH L 1<=kH L i:=by
  intro i h1
  induction i with
  |zero=>omega
  |succ i ih=>
   intro h2
   rcases Nat.eq_zero_or_pos i with rfl|q
   ·exact Int.le_refl _
   ·have:=ih q (by omega)
    have:=hL _ (cM (show i<L.length by omega))
    rw[Cw (i:=i) (by omega)]
    omega
 refine ia (ev:=λi (g:Value->Int->Value->Int->Int->List Value->Option (Value×Bool))=>g (aA dw L) h (aA dw (ox L)) P.length i (((o5 L h P).take i++P.drop i).flatMap fm)) P.length ?_ ?_ (by omega)
 ·intro i g hi
  have e1:((i:Int)<(P.length:Int)):=by omega
  have hiL:i<L.length:=by omega
  have hiS:i<(ox L).length:=by rw[agS];omega
  have hiQ:i<(o5 L h P).length:=by rw[D5];exact hi
  have hn:=hL _ (cM hiL)
  have ha:=Hy hL i (by omega)
  have tg:∀(p:cy)(r:List Value),fm p++r=.int .i64 p.attr::.int .i64 p.size::.int .i64 p.at_::.int .i64 p.fA::.int .i64 p.fC::r:=λ_ _=>rfl
  rw[fw,dk hi,dV,tg,iN hiQ,dD,fw,fw,dV,mN,dX,tg,Kl L h P hi hiL hiQ]
  have hA:(((o5 L h P).take i).flatMap fm).length=i*5:=by rw[dH nv,dI];congr 1;omega
  generalize((o5 L h P).take i).flatMap fm=A at hA⊢
  generalize(P.drop (i+1)).flatMap fm=B
  have put1:∀(a s t v:Value)(B:List Value),aU (0+i*5+1) [v] (A++(a::s::t::B))=A++(a::v::t::B):=λa s t v B=>by rw[show 0+i*5+1=A.length+1 by omega,Tu];rfl
  have u0:∀(a s t v:Value)(B:List Value),aU (0+i*5+2) [v] (A++(a::s::t::B))=A++(a::s::v::B):=λa s t v B=>by rw[show 0+i*5+2=A.length+2 by omega,Tu];rfl
  have dr2:∀(a s t:Value)(B:List Value),List.drop (0+i*5+2) (A++(a::s::t::B))=t::B:=λa s t B=>by rw[show 0+i*5+2=A.length+2 by omega,List.drop_append];simp
  have b1:∀(a s t d e:Value),(i*5).blt (A++(a::s::t::d::e::B)).length=true:=λa s t d e=>by simp;omega
  have b2:∀(a s t d e:Value)(k:Nat),k<=5->(0+i*5+k).ble (A++(a::s::t::d::e::B)).length=true:=λa s t d e k hk=>by simp;omega
  have c1:∀z:Int,(SV.i IntKind.i64 z).cells.length.beq 1=true:=λ_=>rfl
  simp only[aT,e1,bd,aB,bP]
  rw[bu oR hiL,show dw L[i]++(L.drop (i+1)).flatMap dw=.int .i64 L[i]::(L.drop (i+1)).flatMap dw from rfl]
  simp only[bh,bQ]
  rw[b1,show Nat.beq 5 5=true from rfl,eD,aB,c1,eD,show 0+i*5+1+1=0+i*5+2 from rfl,b2 _ _ _ _ _ 2 (by omega),aB,put1,b1,eD,aB,show Nat.beq 1 1=true from rfl,eD,show 0+i*5+2+1=0+i*5+3 from rfl,b2 _ _ _ _ _ 3 (by omega),aB,u0]
  by_cases h1:i=0
  ·subst h1
   rw[show decide ((0:Int)<((0:Nat):Int))=false from rfl,aC,b1,eD,aB,dr2]
   simp only[bh,bQ]
   rw[bT,aM (by omega) (by omega)]
   rfl
  ·have e2:((0:Int)<(i:Int)):=by omega
   have hm:=hmono i (by omega) (by omega)
   rw[ff e2,aB,bu oR hiS,show∀r,dw (ox L)[i]++r=.int .i64 (ox L)[i]::r fromλ_=>rfl,agR]
   simp only[bh,bQ]
   rw[b1,eD,aB,jg,aM (by omega) (by omega),c1,eD,show 0+i*5+2+1=0+i*5+3 from rfl,b2 _ _ _ _ _ 3 (by omega),aB,u0,b1,eD,aB,dr2]
   simp only[bh,bQ]
   have e3:¬(kH L i -h<0):=by omega
   rw[fe e3,aC,bT,aM (by omega) (by omega),ai h1]
   rfl
 ·intro g
  have e1:¬((P.length:Int)<(P.length:Int)):=by omega
  simp only[aT,e1,bM,aC]
  rw[vQ (aK _),dX,eE (by rw[D5];exact aK _),dH nv,jG _ (by decide)]
  rfl
end
section
set_option linter.unusedVariables false
set_option linter.unusedSimpArgs false
set_option linter.unusedSectionVars false
set_option linter.constructorNameAsVariable false
theorem Qj{w:Nat}(W:dM w){o:Int}(ho:o=1\/o=2){l:List cy}(h2:2<=l.length)(hl:l.length<=600){view:List aI}(hv:VS view)(hr:cV 5 view=true):(eY (cI o l view)).length<100000000:=by
 have T:=Qk W ho h2 hl hv hr
 have h:=GA (cI o l view).dO 0 8 T.hd
 have hc:iK (cI o l view).dO<=2:=by
  unfold cI eK
  simp only
  split<;>simp[iK,dE,iA]
 have h2:iK (cI o l view).dO*(10000+2)<=2*(10000+2):=yy _ hc
 have h3:(eY (cI o l view)).length=(jk 0 8 (cI o l view).dO).length+1:=rfl
 omega
def lf(x:qV×List UInt8):List Value:=[.int .i64 x.1.p.aF.order,ay x.1.p.aF.ct,ay x.1.p.aF.bI,ay x.1.p.aF.bN,ay x.1.p.aF.bn,ay x.1.p.aF.first,ag x.1.p.aF.bH,ag x.1.p.aF.cP,ag x.1.p.cj,ag x.1.p.core,ag x.2,.int .i64 (jK x.1.aL x.1.b),.int .i64 ((eJ (fG x.1.p x.1.b) x.1.aL).length:Int)]
theorem P7(x:qV×List UInt8):(lf x).length=13:=rfl
def iL(ms:List aZ):List (qV×List UInt8):=(List.range ms.length).map λi=>(aQ ms i,fR ms i)
theorem Ys(ms:List aZ):(iL ms).length=ms.length:=by unfold iL;rw[cH,List.length_range]
theorem zz(ms:List aZ):(ea ms).length=ms.length:=by unfold ea;rw[cH,List.length_range]
theorem Da(ms:List aZ){i:Nat}(h:i<(ea ms).length):(ea ms)[i]=aQ ms i:=by simp[ea]
theorem Yr(ms:List aZ){i:Nat}(h:i<(iL ms).length):(iL ms)[i]=(aQ ms i,fR ms i):=by simp[iL]
def gM(ms:List aZ):List Int:=(List.range ms.length).map λi=>(ec ms i:Int)
theorem sS(ms:List aZ):(gM ms).length=ms.length:=by unfold gM;rw[cH,List.length_range]
theorem zR(ms:List aZ){i:Nat}(h:i<(gM ms).length):(gM ms)[i]=ec ms i:=by simp[gM]
theorem yP(ms:List aZ):∀i,i<=ms.length->kH (gM ms) i=(cC ms i:Int)
 |0,_=>rfl
 |i+1,h=>by
  have hi:i<(gM ms).length:=by rw[sS];omega
  rw[Cw hi,yP ms i (by omega),zR]
  show _=((cC ms i+ec ms i:Nat):Int)
  omega
theorem ae4{w:Nat}(W:dM w)(hw:1000000<w){ms:List aZ}(F:iG ms)(hc:gZ ms=0):Fm w (cR ms)=some ((ea ms).flatMap fN):=by
 have hlr:∀K:Nat->Option (List Value),aq (cR ms) K=K ms.length:=λK=>cd fQ ms K
 have h6:=F.le
 have hm:=F.mem
 unfold Fm
 rw[Fe W hw hm (by omega) (by omega)]
 simp only[az,cu]
 rw[ff hc,bO,aC,hlr]
 have hil:=zz ms
 refine ia (ev:=λi (g:Int->Int->Value->List Value->Option (List Value))=>g ms.length i (cR ms) (((ea ms).take i).flatMap fN)) ms.length ?_ ?_ (by omega)
 ·intro i g hi
  obtain⟨b,aL,k1,k2,k3,k4⟩:=F.I9 hi
  have e1:((i:Int)<(ms.length:Int)):=by omega
  have hiI:i<(ea ms).length:=by omega
  have hget:(ea ms)[i]=⟨ms[i],b,aL⟩:=by rw[Da];exact k4
  simp only[aT,e1,bd,aB]
  rw[Nb W hw hi k1 hm (by omega) k2 k3]
  have hr1:aG (((ea ms).take i).flatMap fN).length=true:=by
   rw[dH rm];simp;omega
  rw[az,hr1,bT,aM (by omega) (by omega),iN hiI,fw,hget]
  rfl
 ·intro g
  have e1:¬((ms.length:Int)<(ms.length:Int)):=by omega
  simp only[aT,e1,bM,aC]
  rw[eE (by omega)]
theorem aeM{w:Nat}(hw:1000000<w)(ms:List aZ)(h6:ms.length<=6):EX w ((ea ms).flatMap fN)=some ((ea ms).flatMap fN,bD (gM ms)):=by
 unfold EX
 have hil:=zz ms
 have hll:=sS ms
 rw[dH rm,jG _ (by decide)]
 refine ia (ev:=λi (g:Int->Int->List Value->List Value->Option (List Value×List Value))=>g (ea ms).length i ((ea ms).flatMap fN) (bD ((gM ms).take i))) ms.length ?_ ?_ (by omega)
 ·intro i g hi
  have e1:((i:Int)<((ea ms).length:Int)):=by omega
  have hiI:i<(ea ms).length:=by omega
  have hiL:i<(gM ms).length:=by omega
  have hlt:(i*13).blt ((ea ms).flatMap fN).length=true:=by rw[dH rm];simp;omega
  have og:∀(y:qV)(r:List Value),fN y++r=.int .i64 y.p.aF.order::ay y.p.aF.ct::ay y.p.aF.bI::ay y.p.aF.bN::ay y.p.aF.bn::ay y.p.aF.first::ag y.p.aF.bH::ag y.p.aF.cP::ag y.p.cj::ag y.p.core::ag y.b::.int .i64 (jK y.aL y.b)::.int .i64 ((eJ (fG y.p y.b) y.aL).length:Int)::r:=λ_ _=>rfl
  simp only[aT,e1,bd,aB,bP]
  rw[show Nat.beq 13 13=true from rfl,eD,hlt,aB,gI,oO rm,dk hiI,dV,og]
  simp only[bh,bQ]
  have hr:aG (bD ((gM ms).take i)).length=true:=by unfold bD;simp;omega
  rw[show∀a b c d e f g h i j k l m,LY w a b c d e f g h i j k l m=some m fromλ_ _ _ _ _ _ _ _ _ _ _ _ _=>rfl,az,hr,Da,bT,aM (by omega) (by omega),iN hiL,zR,show(i:Int)+1=((i+1:Nat):Int) by omega]
  rw[show∀z:Value,(true&&(aG ([z].length/1)&&[z].length.beq ([z].length/1*1)))=true fromλz=>by simp,aB]
  unfold bD ec
  rw[gq]
  rfl
 ·intro g
  have e1:¬((ms.length:Int)<((ea ms).length:Int)):=by omega
  simp only[aT,e1,bM,aC]
  rw[eE (by omega)]
def Cz(ms:List aZ):(Int×Int×Value×Value×List Value)⊕(Value×Int):=
 if gZ ms=0 then .inl (if ms.length=1 then(0,0,ae 0 [],ae 0 [],(iL ms).flatMap lf) else(0,(aQ ms 0).p.aF.order,eW (fu ms),ay (aQ ms 0).p.view,(iL ms).flatMap lf)) else .inr (.pointer none,gZ ms)
theorem Yt{ms:List aZ}(h:ms.length=1):(ea ms).flatMap fN=(iL ms).flatMap lf:=by
 unfold ea iL
 rw[h]
 have:fR ms 0=(aQ ms 0).b:=by unfold fR;rw[ai (by omega)]
 show fN (aQ ms 0)++[]=lf (aQ ms 0,fR ms 0)++[]
 rw[this]
 rfl
theorem Yu{ms:List aZ}(h:1<ms.length):aU 10 [ag (fR ms 0)] ((ea ms).flatMap fN)=(iL ms).flatMap lf:=by
 obtain⟨n,hn⟩:∃n,ms.length=n+1:=⟨ms.length -1,by omega⟩
 unfold ea iL
 rw[hn,tV,iF,iF,dV,dV]
 have e:((List.range n).map Nat.succ).map (aQ ms)=((List.range n).map Nat.succ).map (aQ ms):=rfl
 have k:∀l:List Nat,((l.map Nat.succ).map (aQ ms)).flatMap fN=((l.map Nat.succ).map λi=>(aQ ms i,fR ms i)).flatMap lf:=by
  intro l
  induction l with
  |nil=>rfl
  |cons a l ih=>
   rw[iF,iF,iF,dV,dV,ih]
   have:fR ms (Nat.succ a)=(aQ ms (Nat.succ a)).b:=by unfold fR;rw[ai (λq=>Nat.succ_ne_zero a q.1)]
   rw[this]
   rfl
 rw[k]
 rfl
end
section
set_option linter.unusedVariables false
set_option linter.unusedSimpArgs false
set_option linter.unusedSectionVars false
set_option linter.constructorNameAsVariable false
theorem UM{w:Nat}(W:dM w)(hw:1000000<w){ms:List aZ}(hm:∀p∈ms,eZ p)(hl:ms.length<=6\/1000<ms.length)(hl2:ms.length<=2000):A4 w (cR ms)=some (Cz ms):=by
 unfold A4 Cz
 rw[Fe W hw hm (by omega) hl2]
 simp only[az,cu]
 by_cases hc:gZ ms=0
 case neg=>rw[ai hc,fe hc];rfl
 obtain⟨F,h1⟩:=zn hm hl hc
 have h6:=F.le
 have hil:=zz ms
 rw[au hc,ff hc,bO,aC,ae4 W hw F hc]
 simp only[az]
 rw[show((ea ms).flatMap fN).length/13=ms.length by rw[dH rm,jG _ (by decide),hil]]
 by_cases hn:ms.length=1
 ·rw[au hn,Yt hn,hn]
  rfl
 have h2:1<ms.length:=by omega
 have e2:¬((Int.ofNat ms.length:Int)=1):=by show¬((ms.length:Int)=1);omega
 rw[ai hn,fe e2,aC]
 obtain⟨g1,k1,k2,k3⟩:=F.at_ (i:=0) (by omega)
 have hmp:=hm _ (cM (show 0<ms.length by omega))
 have gd:=pL (F.wN _ (cM (show 0<ms.length by omega)))
 have ho:=IX gd.1
 have hr:cV 5 ms[0].view=true:=by have:=gd.2.2.2;unfold nN at this;simpa using this
 have hpl:(gT ms).length=ms.length:=by unfold gT;rw[cH]
 have hix:gL ms[0].aF.order (gT ms) ms[0].view=.ok (aQ ms 0).b:=by
  unfold jV at k1
  rw[cW (by omega:0<ms.length)] at k1
  simp only[dL] at k1
  rw[au h2] at k1
  exact k1
 obtain⟨bw,j1,j2,j3,j4⟩:=Ar F h2
 have h27:=FY W (by omega) hix hmp.vs (Qj W ho (by omega) (by omega) hmp.vs hr)
 have hcons:(ea ms).flatMap fN=fN (aQ ms 0)++((ea ms).drop 1).flatMap fN:=by
  have hi0:0<(ea ms).length:=by omega
  have:=dk hi0
  rw[eS] at this
  rw[<-Da ms hi0,<-dV,<-this]
 have hlen:((ea ms).flatMap fN).length=ms.length*13:=by rw[dH rm,hil]
 have hb0:Nat.blt 0 ((ea ms).flatMap fN).length=true:=by rw[hlen];simp;omega
 have hb11:Nat.ble 11 ((ea ms).flatMap fN).length=true:=by rw[hlen];simp;omega
 have d10:∀r:List Value,List.drop 10 (fN (aQ ms 0)++r)=ag (aQ ms 0).b::.int .i64 (jK (aQ ms 0).aL (aQ ms 0).b)::.int .i64 ((eJ (fG (aQ ms 0).p (aQ ms 0).b) (aQ ms 0).aL).length:Int)::r:=λ_=>rfl
 have d11:∀r:List Value,List.drop 11 (fN (aQ ms 0)++r)=.int .i64 (jK (aQ ms 0).aL (aQ ms 0).b)::.int .i64 ((eJ (fG (aQ ms 0).p (aQ ms 0).b) (aQ ms 0).aL).length:Int)::r:=λ_=>rfl
 have t10:List.drop 10 ((ea ms).flatMap fN)=ag (aQ ms 0).b::.int .i64 (jK (aQ ms 0).aL (aQ ms 0).b)::.int .i64 ((eJ (fG (aQ ms 0).p (aQ ms 0).b) (aQ ms 0).aL).length:Int)::((ea ms).drop 1).flatMap fN:=by rw[hcons,d10]
 have t11:List.drop 11 ((ea ms).flatMap fN)=.int .i64 (jK (aQ ms 0).aL (aQ ms 0).b)::.int .i64 ((eJ (fG (aQ ms 0).p (aQ ms 0).b) (aQ ms 0).aL).length:Int)::((ea ms).drop 1).flatMap fN:=by rw[hcons,d11]
 have hat:jK (aQ ms 0).aL (aQ ms 0).b=(((aQ ms 0).aL.length+10:Nat):Int):=by
  unfold jK
  rw[ai (by omega)]
 have l0:=oT F (i:=0) (by omega)
 have hcl:iC ms<=ec ms 0:=by
  unfold iC ec
  have:=HU (x:=fG (aQ ms 0).p (aQ ms 0).b) (aL:=(aQ ms 0).aL)
  have e:(fG (aQ ms 0).p (aQ ms 0).b).cn=(aQ ms 0).b:=rfl
  rw[e] at this
  omega
 have hcam:(aQ ms 0).aL.length+14<=3000000:=by
  have:=hcl
  unfold iC at this
  omega
 have hLL:∀n∈gM ms,1<=n/\n<=3000000:=by
  intro n hn
  unfold gM at hn
  obtain⟨i,hi,rfl⟩:=mg.1 hn
  have:=oT F (List.mem_range.1 hi)
  omega
 have hll:=sS ms
 have hat1:kH (gM ms) 1=ec ms 0:=by
  rw[yP ms 1 (by omega)]
  show((cC ms 0+ec ms 0:Nat):Int)=_
  show((0+ec ms 0:Nat):Int)=_
  omega
 have h67:=UO (w:=w) (gM ms) hLL (by omega) (by omega) (iC ms:Int) ⟨by omega,by omega⟩ (gT ms) (by omega) (by omega)
 have hplw:o5 (gM ms) (iC ms:Int) (gT ms)=fu ms:=by
  refine List.ext_getElem (by rw[D5,mF,hpl]) λi q1 q2=>?_
  have hi:i<ms.length:=by rw[mF] at q2;exact q2
  rw[Kl _ _ _ (by omega) (by omega),zR,yP ms i (by omega)]
  have e1:∀q,(gT ms)[i]'q=⟨ms[i].attr,0,0,ms[i].fA,ms[i].fC⟩:=λq=>by simp only[gT,List.getElem_map]
  rw[e1]
  have e2:(fu ms)[i]=rF ms i:=by simp[fu]
  rw[e2]
  unfold rF
  rw[(F.at_ hi).1]
 rw[hplw] at h67
 have hrow:ae ((bD (gM ms)).length/1) (bD (gM ms))=aA dw (gM ms):=by
  unfold aA
  rw[zC,kE]
  unfold bD
  rw[cH]
 have h84:=Vp W ms[0].aF.order (l:=fu ms) (by rw[mF];omega) hmp.vs
 rw[show Nat.beq 13 13=true from rfl,eD,hb0,aB,t10]
 simp only[bh]
 rw[h27]
 simp only[az]
 rw[aeM hw ms h6]
 simp only[az]
 rw[eD,hb0,aB,t11]
 simp only[bh,bQ]
 rw[hat,bT,aM (by omega) (by omega),hrow,show(((aQ ms 0).aL.length+10:Nat):Int)+4=(iC ms:Int) by unfold iC;omega,h67]
 simp only[az]
 rw[h84,g1] at*
 rw[j1]
 simp only[az]
 rw[aB,hb11,jZ]
 rw[<-j3,Yu h2]
 rfl
theorem Uw(d:List UInt8):(cL ⟨226,d,[]⟩).length=d.length+4:=by
 rw[show cL ⟨226,d,[]⟩=[255,UInt8.ofNat (226:Int).toNat,UInt8.ofNat ((d.length+2)/256),UInt8.ofNat ((d.length+2)%256)]++d++[] from rfl]
 simp
theorem uS{ms:List aZ}(F:iG ms){i:Nat}(hi:i<ms.length):we (fG ms[i] (fR ms i)) (aQ ms i).aL/\(fR ms i).length<=65533/\(jy ms i).length=ec ms i:=by
 obtain⟨g1,k1,k2,k3⟩:=F.at_ hi
 have h6:=F.le
 have I:=Ja hi k1 F.mem (by omega) k2 k3
 have hlen:(fR ms i).length=(aQ ms i).b.length->(jy ms i).length=ec ms i:=λh=>by
  unfold jy ec eJ
  have:∀(x y:mU)(aL:List UInt8),x.cj=y.cj->x.core=y.core->x.cn.length=y.cn.length->(cT (jf x aL)).length=(cT (jf y aL)).length:=by
   intro x y aL e1 e2 e3
   unfold jf
   rw[e1,e2,e3]
   by_cases h0:y.cn.length=0
   ·rw[au h0,au h0]
   ·rw[ai h0,ai h0]
    simp only[kA,List.singleton_append,aR]
    rw[Uw,Uw,e3]
  exact this (fG (aQ ms i).p (fR ms i)) (fG (aQ ms i).p (aQ ms i).b) _ rfl rfl h
 by_cases h0:i=0/\1<ms.length
 ·obtain⟨rfl,h2⟩:=h0
  obtain⟨bw,j1,j2,j3,j4⟩:=Ar F h2
  obtain⟨e1,_⟩:=Jb j1
  have hb:=I.cn
  have q:(aQ ms 0).b.length<=65533:=by
   rcases hb with q|q
   ·have:(aQ ms 0).b.length=0:=q
    omega
   ·exact q.2
  rw[<-j3] at j2 j4
  refine⟨⟨I.app,I.rows,I.cj,I.core,.inr ⟨?_,?_⟩⟩,by omega,hlen j2⟩
  ·show gy.isPrefixOf (fR ms 0)=true
   rw[j3,e1]
   exact qe.2 (rY _ _)
  ·show(fR ms 0).length<=65533
   omega
 ·have e:fR ms i=(aQ ms i).b:=by unfold fR;rw[ai h0]
  rw[e] at hlen⊢
  have hb:=I.cn
  refine⟨I,?_,hlen rfl⟩
  rcases hb with q|q
  ·have:(aQ ms i).b.length=0:=q
   omega
  ·exact q.2
theorem UN{w:Nat}(W:dM w)(hw:1000000<w){ms:List aZ}(F:iG ms):xD w (aA lf (iL ms))=some (aA eV (dA ms)):=by
 have h6:=F.le
 have hil:=Ys ms
 have hpl:=uU ms
 unfold xD
 rw[cd]
 refine ia (ev:=λi (g:Value->Int->Int->List Value->Option Value)=>g (aA lf (iL ms)) (iL ms).length i (((dA ms).take i).flatMap eV)) ms.length ?_ ?_ (by omega)
 ·intro i g hi
  have e1:((i:Int)<((iL ms).length:Int)):=by omega
  have hiI:i<(iL ms).length:=by omega
  have hiP:i<(dA ms).length:=by omega
  have hmp:=F.mem _ (cM hi)
  have hic:=hmp.ic
  have hco:=hmp.co
  obtain⟨I,q1,q2⟩:=uS F hi
  obtain⟨g1,_⟩:=F.at_ hi
  have og:∀(y:qV×List UInt8)(r:List Value),lf y++r=.int .i64 y.1.p.aF.order::ay y.1.p.aF.ct::ay y.1.p.aF.bI::ay y.1.p.aF.bN::ay y.1.p.aF.bn::ay y.1.p.aF.first::ag y.1.p.aF.bH::ag y.1.p.aF.cP::ag y.1.p.cj::ag y.1.p.core::ag y.2 ::.int .i64 (jK y.1.aL y.1.b)::.int .i64 ((eJ (fG y.1.p y.1.b) y.1.aL).length:Int)::r:=λ_ _=>rfl
  have h24:=U6 (m:=65533) W I hmp.uz (by omega) ⟨by show ms[i].core.length<=_;omega,by show ms[i].cj.length<=_;omega,q1⟩ (by omega) (jK (aQ ms i).aL (aQ ms i).b) ((eJ (fG (aQ ms i).p (aQ ms i).b) (aQ ms i).aL).length:Int)
  simp only[aT,e1,bd,aB,bP]
  rw[bu P7 hiI,og,Yr]
  simp only[bh,bQ]
  have hpw:(dA ms)[i]=jy ms i:=by simp[dA]
  have h59:EU w (aQ ms i).p.aF.order (ay (aQ ms i).p.aF.ct) (ay (aQ ms i).p.aF.bI) (ay (aQ ms i).p.aF.bN) (ay (aQ ms i).p.aF.bn) (ay (aQ ms i).p.aF.first) (ag (aQ ms i).p.aF.bH) (ag (aQ ms i).p.aF.cP) (ag (aQ ms i).p.cj) (ag (aQ ms i).p.core) (ag (fR ms i)) (jK (aQ ms i).aL (aQ ms i).b) ((eJ (fG (aQ ms i).p (aQ ms i).b) (aQ ms i).aL).length:Int)=some (ag (jy ms i)):=by
   unfold EU jy
   rw[g1] at h24⊢
   refine Eq.trans (bV (λz=>ob z _) h24) ?_
   rfl
  rw[h59,az,show aG (((dA ms).take i).flatMap eV).length=true by rw[dH (k:=1) (λ_=>rfl)];simp;omega,iN hiP,fw,hpw,bT,aM (by omega) (by omega)]
  rfl
 ·intro g
  have e1:¬((ms.length:Int)<((iL ms).length:Int)):=by omega
  simp only[aT,e1,bM,aC]
  rw[eE (by omega),dH (k:=1) (λ_=>rfl),gA,kE]
  rfl
theorem UI{w:Nat}(W:dM w)(hw:1000000<w){ms:List aZ}(hm:∀p∈ms,eZ p)(hl:ms.length<=6\/1000<ms.length)(hl2:ms.length<=2000):AW w (cR ms)=some (if gZ ms=0 then(aA eV (dA ms),0) else(ae 0 [],gZ ms)):=by
 unfold AW
 rw[UM W hw hm hl hl2,az]
 unfold Cz
 by_cases hc:gZ ms=0
 ·obtain⟨F,h1⟩:=zn hm hl hc
  rw[au hc,au hc]
  have hrow:ae (((iL ms).flatMap lf).length/13) ((iL ms).flatMap lf)=aA lf (iL ms):=by
   unfold aA
   rw[dH P7,jG _ (by decide)]
  split
  ·rw[iD]
   show(bif !aj 0 0 then _ else ob (xD w (ae (((iL ms).flatMap lf).length/13) ((iL ms).flatMap lf))) _)=_
   rw[hrow,UN W hw F]
   rfl
  ·rw[iD]
   show(bif !aj 0 0 then _ else ob (xD w (ae (((iL ms).flatMap lf).length/13) ((iL ms).flatMap lf))) _)=_
   rw[hrow,UN W hw F]
   rfl
 ·rw[ai hc,ai hc,BR,cu,fe hc]
  rfl
def s9(ms:List aZ):List cy:=if ms.length=1 then[] else fu ms
theorem UK{w:Nat}(W:dM w)(hw:1000000<w){ms:List aZ}(hm:∀p∈ms,eZ p)(hl:ms.length<=6\/1000<ms.length)(hl2:ms.length<=2000):AZ w (cR ms)=some (if gZ ms=0 then(eW (s9 ms),0) else(ae 0 [],gZ ms)):=by
 unfold AZ
 rw[UM W hw hm hl hl2,az]
 unfold Cz s9
 by_cases hc:gZ ms=0
 ·rw[au hc,au hc]
  split<;>rfl
 ·rw[ai hc,ai hc,BR,cu,fe hc]
  rfl
end
section
set_option linter.unusedVariables false
set_option linter.unusedSimpArgs false
set_option linter.unusedSectionVars false
set_option linter.constructorNameAsVariable false
theorem T4:∀ls:List (List UInt8),xr (ls.flatMap eV)=some (ls.map λl=>l.map λb=>(b.toNat:Int))
 |[]=>rfl
 |l::ls=>by
  rw[dV,show eV l++ls.flatMap eV=ag l::ls.flatMap eV from rfl,xr,sB,T4 ls]
  rfl
theorem OE(l:List UInt8):ae l.length (l.map aV)=ag l:=by
 unfold ag aA
 rw[gR]
theorem aeN(w:Nat)(ls:List (List UInt8))(h0:0<ls.length)(hl:ls.length<=1000)(ht:ls.flatten.length<=1000000000):EY w (aA eV ls)=some (ag ls.flatten):=by
 have hfl:(ls.flatMap eV).length=ls.length:=by rw[dH (k:=1) (λ_=>rfl),gA]
 show cond (Nat.blt 0 ls.length&&(Nat.beq ls.length (ls.flatMap eV).length&&Nat.ble ls.length 1000)) (ob (xr (ls.flatMap eV)) λls=>cond (Nat.ble ls.flatten.length 1000000000) (some (ae ls.flatten.length (bm ls.flatten))) none) none=_
 have e1:(Nat.blt 0 ls.length&&(Nat.beq ls.length (ls.flatMap eV).length&&Nat.ble ls.length 1000))=true:=by
  rw[hfl]
  simp
  omega
 rw[e1,aB,T4,az]
 have e2:(ls.map λl=>l.map λb=>(b.toNat:Int)).flatten=ls.flatten.map λb=>(b.toNat:Int):=by rw[List.map_flatten]
 rw[e2,cH,show Nat.ble ls.flatten.length 1000000000=true by rw[iO];exact ht,aB,HZ,OE]
theorem adn{ms:List aZ}(F:iG ms):(dA ms).flatten.length<=18000000:=by
 have h6:=F.le
 have:∀l:List Nat,(∀i∈l,i<ms.length)->((l.map (jy ms)).flatten).length<=3000000*l.length:=by
  intro l
  induction l with
  |nil=>intro _;exact aK _
  |cons a l ih=>
   intro h
   have:=ih λi hi=>h i (mO _ hi)
   have q:=(uS F (h a (by simp))).2.2
   have q2:=(oT F (h a (by simp))).2
   rw[iF,List.flatten_cons,aR,bY]
   omega
 have:=this (List.range ms.length) λi hi=>List.mem_range.1 hi
 rw[List.length_range] at this
 show((List.range ms.length).map (jy ms)).flatten.length<=_
 omega
theorem ER{w:Nat}(W:dM w)(hw:1000000<w){ms:List aZ}(hm:∀p∈ms,eZ p)(hl:ms.length<=6\/1000<ms.length)(hl2:ms.length<=2000):vj w (cR ms)=some (if gZ ms=0 then(ag (dA ms).flatten,0) else(ae 0 [],gZ ms)):=by
 unfold vj
 rw[UI W hw hm hl hl2,az]
 by_cases hc:gZ ms=0
 ·obtain⟨F,h1⟩:=zn hm hl hc
  have h6:=F.le
  have:=adn F
  rw[au hc,au hc]
  show(bif !aj 0 0 then _ else ob (EY w (aA eV (dA ms))) _)=_
  rw[aeN w _ (by rw[uU];omega) (by rw[uU];omega) (by omega)]
  rfl
 ·rw[ai hc,ai hc,cu,fe hc]
  rfl
theorem Py:gZ [lu]=0/\(dA [lu]).flatten.length=51:=by decide+kernel
theorem CW:gZ [lu,lu]=0/\(dA [lu,lu]).flatten.length=192/\fu [lu,lu]=[⟨0,141,0,0,0⟩,⟨0,51,95,0,0⟩]:=by decide+kernel
theorem aeG{w:Nat}(hw:10<=w):tr w=some (2,ay [⟨274,3,1,[0,1]⟩],ae 0 [],ae 0 [],ae 0 [],ae 0 [],ae 0 [],ae 0 [],ae 0 [],ag CH,0,0,0,ae 0 []):=(show tr w=LX w from rfl).trans (aeS hw)
theorem aeA{w:Nat}(W:dM w)(hw:1000000<w):vi w=some true:=by
 have hp1:∀p∈[lu],eZ p:=λp h=>by rw[oB.1 h];exact z8
 have hp2:∀p∈[lu,lu],eZ p:=λp h=>by
  simp at h
  rw[h];exact z8
 have q1:=ER W hw hp1 (.inl (show 1<=6 by decide)) (show 1<=2000 by decide)
 have q2:=ER W hw hp2 (.inl (show 2<=6 by decide)) (show 2<=2000 by decide)
 have q3:=UK W hw hp2 (.inl (show 2<=6 by decide)) (show 2<=2000 by decide)
 have q4:=ER W hw (ms:=[]) (λp h=>by cases h) (.inl (by decide)) (by decide)
 rw[au Py.1] at q1
 rw[au CW.1] at q2
 rw[au CW.1] at q3
 rw[ai (by rw[PG.2];decide),PG.2] at q4
 unfold s9 at q3
 rw[ai (show¬[lu,lu].length=1 by decide),CW.2.2] at q3
 unfold vi
 rw[aeG (by omega)]
 simp only[az]
 refine Eq.trans (bV (λz=>ob z _) q1) ?_
 simp only[az]
 refine Eq.trans (bV (λz=>ob z _) q2) ?_
 simp only[az]
 refine Eq.trans (bV (λz=>ob z _) q3) ?_
 simp only[az]
 refine Eq.trans (bV (λz=>ob z _) q4) ?_
 simp only[az]
 rw[cJ,Py.2,cJ,CW.2.1]
 rfl
theorem aez{w:Nat}(hw:2000<w){ms:List aZ}(B:yz w ms):EO w (cR ms)=some (yq ms):=(show EO w (cR ms)=Ns w (cR ms) from rfl).trans (agu hw B)
theorem UJ{w:Nat}(l:List UInt8)(hl:l.length<2^40)(hw:l.length<w):AX w (ag l) (ag l)=some true:=by
 unfold AX
 rw[cJ,cJ,show aj (Int.ofNat l.length) (Int.ofNat l.length)=true by rw[cu,bZ],bO,aC]
 refine ia (ev:=λi (g:Value->Value->Int->Option Bool)=>g (ag l) (ag l) i) l.length ?_ ?_ hw
 ·intro i g hi
  have e1:((i:Int)<(l.length:Int)):=by omega
  rw[cJ]
  simp only[aT,cm,e1,bd,aB,bP]
  rw[nX hi]
  simp only[bh,pF]
  rw[nX hi]
  simp only[bh,pF]
  rw[show aj (l[i].toNat:Int) (l[i].toNat:Int)=true by rw[cu,bZ],bO,aC,bT,aM (by omega) (by omega)]
  rfl
 ·intro g
  have e1:¬((l.length:Int)<(l.length:Int)):=by omega
  rw[cJ]
  simp only[aT,cm,e1,bM,aC]
end
section
set_option linter.unusedVariables false
set_option linter.unusedSimpArgs false
set_option linter.unusedSectionVars false
set_option linter.constructorNameAsVariable false
def Cv(h:Int)(i:Nat)(p:cy):Int:=if i=0 then p.at_ else p.at_+h
def fT(P:List cy)(i:Nat):Int:=((P.take i).map (·.size)).sum
def s8(h z:Int)(P:List cy)(i:Nat)(p:cy):Bool:=decide (Cv h i p=fT P i/\1<=p.size/\p.size<=z -fT P i)
def Hs(h z:Int)(P:List cy):Bool:=(List.range P.length).all λi=>match P[i]? with|some p=>s8 h z P i p|none=>true
def Cy(P:List cy)(h z:Int):Option (List Int):=if Hs h z P=true/\P.length≠0/\fT P P.length=z then some ((List.range (P.length+1)).map (fT P)) else none
theorem NJ{P:List cy}{i:Nat}(h:i<P.length):fT P (i+1)=fT P i+P[i].size:=by
 unfold fT
 rw[iN h,gq,List.sum_append]
 simp
theorem HD(a b:Int)(h:-1099511627776<=a/\a<=1099511627776)(k:-1099511627776<=b/\b<=1099511627776):ah .i64 (a+b)=a+b/\ah .i64 (a -b)=a -b:=⟨aM (by omega) (by omega),aM (by omega) (by omega)⟩
theorem ZF{α γ:Type}{z:α}{F:α->α}{w:Nat}(m:Nat)(ok:Nat->Bool)(r0 r1:γ)(ev:Nat->α->γ)(hs:∀i g,i<m->(∀j,j<i->ok j=true)->ev i (F g)=if ok i=true then ev (i+1) g else r0)(he:∀g,(∀j,j<m->ok j=true)->ev m (F g)=r1)(h:m<w):ev 0 (lp z F w)=if(List.range m).all ok=true then r1 else r0:=by
 have key:∀(d i v:Nat),i+d=m->d<v->(∀j,j<i->ok j=true)->ev i (lp z F v)=if(List.range m).all ok=true then r1 else r0:=by
  intro d
  induction d with
  |zero=>
   intro i v hi hv ho
   obtain rfl:i=m:=by omega
   rw[dQ z F (by omega),he _ ho,au (by rw[iq];exactλj hj=>ho j (List.mem_range.1 hj))]
  |succ d ih=>
   intro i v hi hv ho
   rw[dQ z F (by omega),hs i _ (by omega) ho]
   by_cases c:ok i=true
   ·rw[au c,ih (i+1) (v -1) (by omega) (by omega) λj hj=>by
     rcases ir j i with q|q
     ·exact ho j q
     ·rw[show j=i by omega];exact c]
   ·rw[ai c,ai λk=>c (iq.1 k i (List.mem_range.2 (by omega)))]
 exact key m 0 w (by omega) (by omega) λj hj=>by omega
theorem VK{P:List cy}{h z:Int}(hz:0<=z):∀i,i<=P.length->(∀j,j<i->(match P[j]? with|some p=>s8 h z P j p|none=>true)=true)->(i:Int)<=fT P i/\fT P i<=z\/i=0/\fT P i=0
 |0,_,_=>.inr ⟨rfl,rfl⟩
 |i+1,hi,ho=>by
  have h1:=VK hz i (by omega) λj hj=>ho j (by omega)
  have h2:=ho i (by omega)
  rw[cW (by omega)] at h2
  obtain⟨_,a,b⟩:=nF h2
  rw[NJ (by omega)]
  omega
theorem aeE{w:Nat}(P:List cy)(hP:∀p∈P,-4294967296<=p.at_/\p.at_<=4294967296/\-4294967296<=p.size/\p.size<=4294967296)(hl:P.length<=5000)(h z:Int)(hh:0<=h/\h<=4294967296)(hz:0<=z/\z<=4294967296)(hw:P.length<w):
 ET w (eW P) h z=some (match Cy P h z with|some l=>(aA dw l,true)|none=>(ae 0 [],false)):=by
 have hlr:∀{β:Type}(K:Nat->Option β),aq (eW P) K=K P.length:=λK=>cd fm P K
 unfold ET
 rw[hlr]
 refine(ZF (ev:=λi (g:Value->Int->Int->Int->Value->Int->Int->List Value->Option (Value×Bool))=>g (eW P) h z (fT P i) (eW P) P.length i (bD ((List.range i).map (fT P)))) P.length (λi=>match P[i]? with|some p=>s8 h z P i p|none=>true) (some (ae 0 [],false)) (if P.length≠0/\fT P P.length=z then some (aA dw ((List.range (P.length+1)).map (fT P)),true) else some (ae 0 [],false)) ?_ ?_ hw).trans ?_
 ·intro i g hi ho
  have e1:((i:Int)<(P.length:Int)):=by omega
  have hb:=VK (h:=h) hz.1 i (by omega) ho
  obtain⟨p1,p2,p3,p4⟩:=hP _ (cM hi)
  have w1:=(HD P[i].at_ h (by omega) (by omega)).1
  have w2:=(HD z (fT P i) (by omega) (by omega)).2
  have w3:=(HD (fT P i) P[i].size (by omega) (by omega)).1
  have w4:ah .i64 ((i:Int)+1)=((i+1:Nat):Int):=by rw[aM (by omega) (by omega)];rfl
  simp only[aT,e1,bd,aB,bP,eW]
  rw[bu nv hi]
  simp only[fm,fo,fU,bh,bQ,bT,jg,cu,w1,w2,w3,w4,cW hi]
  have hlen:(bD ((List.range i).map (fT P))).length=i:=by simp[bD]
  have room:aG (bD ((List.range i).map (fT P))).length=true:=by rw[hlen];unfold aG;rw[iO];omega
  have nx:∀v:Int,v=fT P i->bD ((List.range i).map (fT P))++[Value.int .i64 v]=bD ((List.range (i+1)).map (fT P)):=λv e=>by rw[e,List.range_succ,gq];simp[bD]
  have r2:∀v:Int,(aG ([Value.int .i64 v].length/1)&&[Value.int .i64 v].length.beq ([Value.int .i64 v].length/1*1))=true:=λv=>(show(Nat.ble (1/1) 1000000000&&Nat.beq 1 (1/1*1))=true by decide)
  simp only[r2,room,jF,aB]
  rw[NJ hi]
  by_cases h0:i=0
  ·have e2:¬((0:Int)<(i:Int)):=by omega
   simp only[e2,bM,aC,s8,Cv,au h0]
   by_cases c1:P[i].at_=fT P i
   ·by_cases c2:1<=P[i].size
    ·by_cases c3:P[i].size<=z -fT P i
     ·rw[nx _ c1];simp[c1,c2,c3,Int.not_lt.2 c2,Int.not_lt.2 c3]
     ·simp[c1,c2,c3,Int.not_lt.2 c2,Int.not_le.1 c3]
    ·simp[c1,c2,Int.not_le.1 c2]
   ·simp[c1]
  ·have e2:(0:Int)<(i:Int):=by omega
   simp only[e2,bd,aB,s8,Cv,ai h0]
   by_cases c1:P[i].at_+h=fT P i
   ·by_cases c2:1<=P[i].size
    ·by_cases c3:P[i].size<=z -fT P i
     ·rw[nx _ c1];simp[c1,c2,c3,Int.not_lt.2 c2,Int.not_lt.2 c3]
     ·simp[c1,c2,c3,Int.not_lt.2 c2,Int.not_le.1 c3]
    ·simp[c1,c2,Int.not_le.1 c2]
   ·simp[c1]
 ·intro g ho
  have e1:¬((P.length:Int)<(P.length:Int)):=by omega
  have hlen:(bD ((List.range P.length).map (fT P))).length=P.length:=by simp[bD]
  have room:aG (bD ((List.range P.length).map (fT P))).length=true:=by rw[hlen];unfold aG;rw[iO];omega
  have r2:∀v:Int,(aG ([Value.int .i64 v].length/1)&&[Value.int .i64 v].length.beq ([Value.int .i64 v].length/1*1))=true:=λv=>(show(Nat.ble (1/1) 1000000000&&Nat.beq 1 (1/1*1))=true by decide)
  have nx:bD ((List.range P.length).map (fT P))++[Value.int .i64 (fT P P.length)]=bD ((List.range (P.length+1)).map (fT P)):=by rw[List.range_succ,gq];simp[bD]
  simp only[aT,e1,bM,aC,hlr,cu,r2,room,jF,aB,nx]
  by_cases c1:P.length=0
  ·simp[c1]
  ·by_cases c2:fT P P.length=z
   ·simp[c1,c2,aA,zC,bD]
   ·simp[c1,c2]
 ·unfold Cy Hs
  by_cases c:(List.range P.length).all (λi=>match P[i]? with|some p=>s8 h z P i p|none=>true)=true
  ·rw[au c]
   by_cases d:P.length≠0/\fT P P.length=z
   ·rw[au d,au ⟨c,d⟩]
   ·rw[ai d,ai λq=>d q.2]
  ·rw[ai c,ai λq=>c q.1]
end
section
set_option linter.unusedVariables false
set_option linter.unusedSimpArgs false
set_option linter.unusedSectionVars false
set_option linter.constructorNameAsVariable false
theorem afC{w:Nat}(W:dM w)(hw:4000000<w){ms:List aZ}(F:iG ms){i:Nat}(hi:i<ms.length)(y:List UInt8)(hy:y.length<2^26)(hyw:2*65533+800000+y.length<w):
 vq w (ag (jy ms i++y))=some ((aQ ms i).p.aF.order,ay (aQ ms i).p.aF.ct,ay (aQ ms i).p.aF.bI,ay (aQ ms i).p.aF.bN,ay (aQ ms i).p.aF.bn,ay (aQ ms i).p.aF.first,ag (aQ ms i).p.aF.bH,ag (aQ ms i).p.aF.cP,ag (aQ ms i).p.cj,ag (aQ ms i).p.core,ag (fR ms i),jK (aQ ms i).aL (fR ms i),(ec ms i:Int),0):=by
 obtain⟨g1,k1,k2,k3⟩:=F.at_ hi
 obtain⟨I,q1,q2⟩:=uS F hi
 have hmp:=F.mem _ (cM hi)
 have hic:=hmp.ic
 have hco:=hmp.co
 have:=U9 (m:=65533) y hy W I hmp.uz (by omega) ⟨by show ms[i].core.length<=_;omega,by show ms[i].cj.length<=_;omega,q1⟩ hyw
 unfold jy at q2⊢
 rw[g1] at q2⊢
 rw[this,q2]
 rfl
end
section
set_option linter.unusedVariables false
set_option linter.unusedSimpArgs false
set_option linter.unusedSectionVars false
set_option linter.constructorNameAsVariable false
theorem X4{α:Type}(L:List (List α))(i:Nat):L.flatten.drop (L.take i).flatten.length=(L.drop i).flatten:=by
 conv=>lhs;rw[<-kT i L,List.flatten_append]
 rw[kT,List.drop_left]
theorem NI{ms:List aZ}(F:iG ms):∀i,i<=ms.length->((dA ms).take i).flatten.length=cC ms i
 |0,_=>rfl
 |i+1,h=>by
  have hi:i<(dA ms).length:=by rw[uU];omega
  have e:(dA ms)[i]=jy ms i:=by simp[dA]
  rw[iN hi,List.flatten_append,aR,NI F i (by omega),e]
  simp only[List.flatten_cons,List.flatten_nil,dX]
  rw[(uS F (show i<ms.length by omega)).2.2]
  rfl
theorem vE{ms:List aZ}(F:iG ms):(dA ms).flatten.length=cC ms ms.length:=by
 rw[<-NI F _ (aK _),eE (by rw[uU];exact aK _)]
theorem Kg{ms:List aZ}(F:iG ms){i:Nat}(hi:i<ms.length):(dA ms).flatten.drop (cC ms i)=jy ms i++((dA ms).drop (i+1)).flatten:=by
 have hp:i<(dA ms).length:=by rw[uU];exact hi
 have e:(dA ms)[i]=jy ms i:=by simp[dA]
 rw[<-NI F i (by omega),X4,dk hp,List.flatten_cons,e]
theorem adj{ms:List aZ}(F:iG ms){i:Nat}(hi:i<ms.length):((dA ms).flatten.drop (cC ms i)).take (cC ms (i+1) -cC ms i)=jy ms i:=by
 have q:=(uS F hi).2.2
 rw[Kg F hi,show cC ms (i+1) -cC ms i=(jy ms i).length by rw[q];show cC ms i+ec ms i -cC ms i=_;omega,List.take_left]
end
section
set_option linter.unusedVariables false
set_option linter.unusedSimpArgs false
set_option linter.unusedSectionVars false
set_option linter.constructorNameAsVariable false
def eX(ms:List aZ):List Int:=(List.range (ms.length+1)).map λi=>(cC ms i:Int)
theorem BU(ms:List aZ):∀i,i<=ms.length->fT (fu ms) i=(cC ms i:Int)
 |0,_=>rfl
 |i+1,h=>by
  have hi:i<(fu ms).length:=by rw[mF];omega
  rw[NJ hi,BU ms i (by omega),show(fu ms)[i]=rF ms i by simp[fu]]
  show(cC ms i:Int)+(ec ms i:Int)=((cC ms i+ec ms i:Nat):Int)
  omega
theorem Wy{ms:List aZ}(F:iG ms)(h1:1<=ms.length)(z:Nat):Cy (fu ms) (iC ms) z=if z=cC ms ms.length then some (eX ms) else none:=by
 have hl:=mF ms
 unfold Cy
 by_cases c:z=cC ms ms.length
 ·rw[au c,au]
  ·congr 1
   unfold eX
   rw[hl]
   refine List.map_congr_left λi hi=>?_
   have:=List.mem_range.1 hi
   exact BU ms i (by omega)
  ·refine⟨?_,by omega,by rw[hl,BU ms _ (aK _),c]⟩
   unfold Hs
   rw[iq]
   intro i hi
   have hi:=List.mem_range.1 hi
   have hi2:i<ms.length:=by omega
   rw[cW hi]
   show s8 _ _ _ _ _=true
   rw[show(fu ms)[i]=rF ms i by simp[fu]]
   unfold s8
   rw[bZ,BU ms i (by omega)]
   have l1:=oT F hi2
   have s1:=tP ms (show i+1<=ms.length by omega)
   have s2:cC ms (i+1)=cC ms i+ec ms i:=rfl
   refine⟨?_,by show(1:Int)<=(ec ms i:Int);omega,by show(ec ms i:Int)<=_;omega⟩
   unfold Cv rF
   by_cases h0:i=0
   ·subst h0
    simp
    rfl
   ·simp only[ai h0]
    omega
 ·rw[ai c,ai]
  rintro ⟨_,_,q⟩
  rw[hl,BU ms _ (aK _)] at q
  omega
theorem adv{ms:List aZ}(F:iG ms)(hcam:iC ms<=3000014):∀p∈fu ms,-4294967296<=p.at_/\p.at_<=4294967296/\-4294967296<=p.size/\p.size<=4294967296:=λp hp=>by
 have h6:=F.le
 unfold fu at hp
 obtain⟨i,hi,rfl⟩:=mg.1 hp
 have hi:=List.mem_range.1 hi
 have l1:=oT F hi
 have s1:=tO F i (by omega)
 unfold rF
 by_cases h0:i=0
 ·simp only[au h0];omega
 ·simp only[ai h0];omega
end
section
set_option linter.unusedVariables false
set_option linter.unusedSimpArgs false
set_option linter.unusedSectionVars false
set_option linter.constructorNameAsVariable false
theorem aeL{w:Nat}{s:List UInt8}{a:Nat}(ha:a<=s.length)(hs:s.length<2^28)(hw:s.length+10<w){l:List bE}{e:Nat}(he:e<=s.length)(h:ofM (s.drop a)=.ok l e):xF w (ag s) a=some (((a+e:Nat):Int),true):=by
 unfold xF
 have e1:¬((a:Int)<0):=by omega
 have e2:¬((s.length:Int)<(a:Int)):=by omega
 simp only[cJ,aT,cm,e1,e2,bM,aC,bP]
 rw[show(s.length.ble s.length&&a.ble s.length)=true by simp[ha],aB,mu _ (aK _),eE (by rw[eu];omega),Gp _ (by rw[eu];omega) (by rw[eu];omega),h]
 simp only[az]
 rw[show(!aj 0 0)=false from rfl,aC,bT,aM (by omega) (by omega)]
 congr 2
theorem YC{x:mU}{aL:List UInt8}(h:we x aL)(y:List UInt8):ofM (eJ x aL++y)=.ok (jf x aL) (eJ x aL).length:=by
 obtain⟨-,hp1,hp2,hp3,hp4⟩:=yM h.app h.rows
 exact RF (I8 h.core hp2 h.cj (by rcases h.cn with q|q;omega;exact q.2)) y
theorem adk{w:Nat}{ms:List aZ}(F:iG ms)(hw:70000000<w){i:Nat}(hi:i<ms.length):xF w (ag (dA ms).flatten) (cC ms i:Int)=some ((cC ms (i+1):Int),true):=by
 obtain⟨I,q1,q2⟩:=uS F hi
 have h6:=F.le
 have hall:=vE F
 have hle:=tO F ms.length (aK _)
 have h1:=tP ms (show i<=ms.length by omega)
 have h2:=tP ms (show i+1<=ms.length by omega)
 have h3:cC ms (i+1)=cC ms i+ec ms i:=rfl
 have:=aeL (w:=w) (s:=(dA ms).flatten) (a:=cC ms i) (by omega) (by omega) (by omega) (l:=jf (fG ms[i] (fR ms i)) (aQ ms i).aL) (e:=ec ms i) (by omega) (by
  rw[Kg F hi,<-q2]
  unfold jy
  rw[(F.at_ hi).1]
  exact YC I _)
 rw[this,h3]
theorem PD{w:Nat}{ms:List aZ}(F:iG ms)(hw:70000000<w):∀(k i f:Nat),i+k=ms.length->k<f->
 rh (xF w) (ag (dA ms).flatten) (dA ms).flatten.length f (cC ms i:Int) ((List.range i).map λj=>(cC ms j:Int))=some ((List.range ms.length).map λj=>(cC ms j:Int))
 |0,i,f+1,h,_=>by
  obtain rfl:i=ms.length:=by omega
  unfold rh
  rw[vE F,aT,fe (by omega),aC]
 |k+1,i,f+1,h,hf=>by
  have h6:=F.le
  have hi:i<ms.length:=by omega
  have h1:=tP ms (show i+1<=ms.length by omega)
  have h3:cC ms (i+1)=cC ms i+ec ms i:=rfl
  have h4:=(oT F hi).1
  unfold rh
  rw[vE F,aT,ff (by omega),aB,adk F hw hi,az]
  rw[show((true&&ak (cC ms i:Int) (cC ms (i+1):Int))&&Nat.blt ((List.range i).map λj=>(cC ms j:Int)).length 1000000)=true by
   rw[aT,ff (by omega),cH,List.length_range]
   simp;omega,aB]
  have:=PD F hw k (i+1) f (by omega) (by omega)
  rw[vE F,List.range_succ,gq] at this
  exact this
theorem UL{w:Nat}{ms:List aZ}(F:iG ms)(h1:1<=ms.length)(hw:70000000<w):A1 w (ag (dA ms).flatten)=some (aA dw (eX ms),0):=by
 have h6:=F.le
 have hall:=vE F
 have hle:=tO F ms.length (aK _)
 unfold A1 findF
 rw[show rowOf (ag (dA ms).flatten)=some ((dA ms).flatten.length,(dA ms).flatten.flatMap mr) from rfl]
 simp only
 have:=PD F hw ms.length 0 w (by omega) (by omega)
 rw[show(cC ms 0:Int)=0 from rfl,List.range_zero,List.map_nil] at this
 rw[show Nat.ble (dA ms).flatten.length 1000000000=true by rw[iO];omega,aB,this,az,cH,List.length_range]
 rw[show(Nat.blt 0 ms.length&&Nat.ble ms.length 1000000)=true by simp;omega,aB]
 have e:(List.range ms.length).map (λj=>(cC ms j:Int))++[((dA ms).flatten.length:Int)]=eX ms:=by
  unfold eX
  rw[List.range_succ,gq,hall]
  rfl
 rw[e]
 have hl:(eX ms).length=ms.length+1:=by unfold eX;rw[cH,List.length_range]
 unfold aA
 rw[hl]
 congr 3
 exact(zC _).symm
end
section
set_option linter.unusedVariables false
set_option linter.unusedSimpArgs false
set_option linter.unusedSectionVars false
set_option linter.constructorNameAsVariable false
theorem adA{P y Q:List UInt8}:aU P.length (y.map aV) ((P++(y++Q)).map aV)=(P++(y++Q)).map aV:=by
 simp only[gq]
 have:=Ax (y.map aV) (y.map aV) (P.map aV) (Q.map aV) rfl
 rwa[cH] at this
theorem OQ{γ:Type}(f:Value->γ){s P y Q:List UInt8}(hs:s=P++(y++Q))(hy:0<y.length)(hl:s.length<=1000000000){A:Int}(hA:A=(P.length:Int)):
 (aq (ag s) λ(x11:Nat)=>bif Nat.blt 0 1&&Nat.beq 1 1&&Nat.ble 1 10000&&(x11.ble x11&&x11.ble 1000000000) then dN 1 (ag s) λ(x12:Nat)(x13:List Value)=>bif x13.length.beq (x12*1)&&(0+x12.min x11*1).ble (rep x11 (Value.int IntKind.u8 0).cells.toList,5).fst.length then aD A λ(x14:Nat)=>bif x11.ble x11&&x14.ble x11 then dN 1 (ag y) λ(x15:Nat)(x16:List Value)=>bif x16.length.beq (x15*1)&&((bif x11.beq x14 then 0 else 0+x14*1)+x15.min (x11 -x14)*1).ble (aU 0 (List.take (x12.min x11*1) x13) (rep x11 (Value.int IntKind.u8 0).cells.toList,5).fst,5).fst.length then some (f (ae x11 (List.drop 0 (aU (bif x11.beq x14 then 0 else 0+x14*1) (List.take (x15.min (x11 -x14)*1) x16) (aU 0 (List.take (x12.min x11*1) x13) (rep x11 (Value.int IntKind.u8 0).cells.toList,5).fst,5).fst)))) else none else none else none else none)=some (f (ag s)):=by
 subst hA
 have hlen:s.length=P.length+(y.length+Q.length):=by rw[hs];simp
 have hrl:(rep s.length (Value.int IntKind.u8 0).cells.toList).length=s.length:=by rw[rJ];simp
 have z:aU 0 (List.take (s.length.min s.length*1) (s.flatMap mr)) (rep s.length (Value.int IntKind.u8 0).cells.toList)=s.map aV:=by
  rw[gR,eE (by simp),Tt _ _ _ (by rw[hrl];simp),pA,fU,tS (by rw[hrl];simp),dX]
 rw[cJ,show(Nat.blt 0 1&&Nat.beq 1 1&&Nat.ble 1 10000&&(s.length.ble s.length&&s.length.ble 1000000000))=true by simp[hl],aB,gV]
 rw[show((s.flatMap mr).length.beq (s.length*1)&&(0+s.length.min s.length*1).ble (rep s.length (Value.int IntKind.u8 0).cells.toList,5).fst.length)=true by
  show(_&&Nat.ble _ (rep s.length (Value.int IntKind.u8 0).cells.toList).length)=true
  rw[hrl,gR,cH];simp,aB,bP]
 rw[show(s.length.ble s.length&&P.length.ble s.length)=true by simp;omega,aB,gV]
 show(bif _&&Nat.ble (_+_) (aU 0 _ (rep s.length (Value.int IntKind.u8 0).cells.toList)).length then some (f (ae s.length (List.drop 0 (aU _ _ (aU 0 _ (rep s.length (Value.int IntKind.u8 0).cells.toList)))))) else none)=_
 rw[z,show s.length.beq P.length=false by cases h:s.length.beq P.length with|false=>rfl|true=>have:=bU h;omega,aC]
 rw[show((y.flatMap mr).length.beq (y.length*1)&&(0+P.length*1+y.length.min (s.length -P.length)*1).ble (s.map aV).length)=true by
  rw[gR,cH,cH,show y.length.min (s.length -P.length)=y.length from kc (by omega)]
  simp;omega,aB]
 rw[show y.length.min (s.length -P.length)=y.length from kc (by omega),gR,eE (by simp),gI,gA,eS]
 conv=>lhs;rw[hs,adA,<-hs]
 rw[OE]
theorem I7{o:Int}{l:List cy}{view:List aI}{b:List UInt8}(h:gL o l view=.ok b):(o=1\/o=2)/\2<=l.length/\16*l.length<=65536/\(∀p∈l,jT p=true)/\cV 5 view=true:=by
 unfold gL at h
 split at h
 ·cases h
 split at h
 ·cases h
 rename_i h2
 split at h
 ·cases h
 rename_i h3
 split at h
 ·cases h
 exact⟨by omega,by omega,by omega,λp hp=>iq.1 (by simpa using h2) p hp,by simpa using h3⟩
theorem Yy{w:Nat}(W:dM w)(hw:800000<w){o:Int}{l:List cy}{view:List aI}{b:List UInt8}(h:gL o l view=.ok b)(hv:VS view)(hS:(eY (cI o l view)).length<100000000):vA w (ag b) (cf fq)=some (o,cU (cI o l view).dO,aA bR (eY (cI o l view)),0):=by
 have hvl:=hv.1
 have ho:=I7 h
 obtain⟨r,hb,hr,hwk,-,hbl⟩:=Dc h (by omega)
 have hp:gy.isPrefixOf b=true:=by rw[hb,qe];exact rY _ _
 have hl4:b.length=r.length+4:=by rw[hb,aR];have:gy.length=4:=rfl;omega
 have h117:=Mc (w:=w) (b:=r) (by omega) (by omega) CD (λs hs=>by
  have:s=0\/s=1:=by simp[fq] at hs;omega
  rcases this with rfl|rfl<;>decide) (by decide) (by decide) (MF (by omega)) (o:=o) (ds:=(cI o l view).dO) hS hwk
 have e1:¬((65533:Int)<(b.length:Int)):=by omega
 have e2:¬((b.length:Int)<(4:Int)):=by omega
 have e3:4<=b.length:=by omega
 have h116:xG w (ag b)=some true:=by
  unfold xG AN
  have:ae 4 (List.drop 0 [Value.int IntKind.u8 77,Value.int IntKind.u8 80,Value.int IntKind.u8 70,Value.int IntKind.u8 0])=ag gy:=rfl
  rw[this,A3,hp]
  rfl
 unfold vA
 rw[cJ]
 simp only[aT,cm,e1,aC]
 rw[cJ]
 simp only[e2,aC]
 rw[h116]
 simp[e3]
 rw[mu _ (aK _),eE (by rw[eu];omega),show b.drop 4=r by rw[hb];rfl,h117]
 rfl
theorem aeP{w:Nat}(W:dM w)(hw:800000<w){o:Int}{l:List cy}{view:List aI}{b:List UInt8}(h:gL o l view=.ok b)(hv:VS view)(hS:(eY (cI o l view)).length<100000000):E1 w (ag b)=some (54,true):=by
 have ho:=I7 h
 obtain⟨S,hs⟩:=YK o ⟨ho.2.1,ho.2.2.1⟩ view
 unfold E1
 rw[FY W hw h hv hS]
 simp only[az]
 rw[show(!aj 0 0)=false from rfl,aC,show tI w=some (cf fq) from rfl]
 simp only[az]
 rw[Yy W hw h hv hS]
 simp only[az]
 rw[cd,hs]
 generalize hL:((⟨1,-1,0,0,8⟩:bk)::⟨2,0,0,8,42⟩::⟨3,0,45058,50,16*l.length⟩::S)=L
 have hn:3<=L.length:=by rw[<-hL];simp
 have x0:∀i:Nat,i<3->ak (i:Int) (Int.ofNat L.length)=true:=λi hi=>by
  rw[aT,bZ];show(i:Int)<((_:Nat):Int);omega
 rw[dQ _ _ (by omega),show ak 0 (Int.ofNat L.length)=true from x0 0 (by omega),aB,show∀K:Nat->Option (Int×Bool),aD 0 K=K 0 fromλ_=>rfl,bu tK (show 0<L.length by omega),show L[0]=(⟨1,-1,0,0,8⟩:bk) by simp[<-hL]]
 simp only[bR,fo,fU,bh,bQ]
 rw[show aj 1 3=false from rfl,aC,show ah .i64 (Int.add 0 1)=1 from rfl,dQ _ _ (by omega),show ak 1 (Int.ofNat L.length)=true from x0 1 (by omega),aB,show∀K:Nat->Option (Int×Bool),aD 1 K=K 1 fromλ_=>rfl,bu tK (show 1<L.length by omega),show L[1]=(⟨2,0,0,8,42⟩:bk) by simp[<-hL]]
 simp only[bR,fo,fU,bh,bQ]
 rw[show aj 2 3=false from rfl,aC,show ah .i64 (Int.add 1 1)=2 from rfl,dQ _ _ (by omega),show ak 2 (Int.ofNat L.length)=true from x0 2 (by omega),aB,show∀K:Nat->Option (Int×Bool),aD 2 K=K 2 fromλ_=>rfl,bu tK (show 2<L.length by omega),show L[2]=(⟨3,0,45058,50,16*l.length⟩:bk) by simp[<-hL]]
 simp only[bR,fo,fU,bh,bQ]
 rfl
theorem aeI{w:Nat}(W:dM w)(hw:800000<w){o:Int}{l:List cy}{view:List aI}{b:List UInt8}(h:gL o l view=.ok b)(hv:VS view)(hS:(eY (cI o l view)).length<100000000){i:Nat}(hi:i<l.length):
 EV w (ag b) i l[i].attr l[i].size l[i].at_ l[i].fA l[i].fC=some (ag b,true):=by
 have ho:=I7 h
 have hp:=ho.2.2.2.1 l[i] (cM hi)
 obtain⟨A,B,hA,hAB⟩:=YH o ⟨ho.2.1,ho.2.2.1⟩ view
 obtain⟨hb,-⟩:=Jb h
 obtain⟨r,-,-,-,-,hbl⟩:=Dc h (by have:=hv.1;omega)
 have hsp:l=l.take i++l[i]::l.drop (i+1):=by rw[<-dk hi,kT]
 have hpl:((l.take i).flatMap (dG o)).length=16*i:=by rw[o6,dI];omega
 have h16:(dG o l[i]).length=16:=by have:=o6 o [l[i]];simpa using this
 have hs:b=(gy++(A++(l.take i).flatMap (dG o)))++(dG o l[i]++((l.drop (i+1)).flatMap (dG o)++B)):=by
  rw[hb,hAB]
  conv=>lhs;rw[hsp]
  simp only[fw,dV,dD]
 have hP:(gy++(A++(l.take i).flatMap (dG o))).length=54+16*i:=by
  rw[aR,aR,hA,hpl]
  have:gy.length=4:=rfl
  omega
 unfold EV
 rw[FY W hw h hv hS]
 simp only[az]
 rw[show(!aj 0 0)=false from rfl,aC,show ak (i:Int) 0=false by rw[aT,gJ];omega,aC,show eW l=aA fm l from rfl,cd,show ak (i:Int) (Int.ofNat l.length)=true by rw[aT,bZ];show(i:Int)<(l.length:Int);omega,bO,aC]
 rw[Fk (by omega) _ ho.1,au hp,az,aeP W hw h hv hS,az]
 rw[show(!(ag (dG o l[i]),true).snd)=false from rfl,aC,aC]
 refine OQ (λv=>(v,true)) hs (by omega) (by omega) ?_
 rw[hP,bT,nU,aM (n:=16*(i:Int)) (by omega) (by omega),aM (by omega) (by omega)]
 omega
end
section
set_option linter.unusedVariables false
set_option linter.unusedSimpArgs false
set_option linter.unusedSectionVars false
set_option linter.constructorNameAsVariable false
theorem adt{ms:List aZ}:o5 (gM ms) (iC ms) (fu ms)=fu ms:=by
 have hl:=mF ms
 have hL:=sS ms
 refine List.ext_getElem (by rw[D5]) λi h1 h2=>?_
 have hi:i<ms.length:=by omega
 rw[Kl _ _ _ (by omega) (by omega),zR,yP ms i (by omega)]
 simp only[fu,List.getElem_map,List.getElem_range,rF]
theorem P6{ms:List aZ}(F:iG ms)(h2:1<ms.length):(iC ms:Int)<=kH (gM ms) 1/\iC ms<=3000014:=by
 obtain⟨b,b1,b2,b3,b4⟩:=Ar F h2
 have q:(aQ ms 0).aL.length+(aQ ms 0).b.length+6<=ec ms 0:=HU (x:=fG (aQ ms 0).p (aQ ms 0).b) (aL:=(aQ ms 0).aL)
 have q2:=(oT F (i:=0) (by omega)).2
 rw[yP ms 1 (by omega),show cC ms 1=ec ms 0 from by show 0+ec ms 0=ec ms 0;omega]
 unfold iC
 omega
theorem aeD{w:Nat}(W:dM w)(hw:70000000<w){ms:List aZ}(F:iG ms)(h2:1<ms.length):ES w (ag (dA ms).flatten)=some (ag (dA ms).flatten,0):=by
 have h6:=F.le
 have hall:=vE F
 have hle:=tO F ms.length (aK _)
 obtain⟨g1,k1,k2,k3⟩:=F.at_ (i:=0) (by omega)
 obtain⟨b,b1,b2,b3,b4⟩:=Ar F h2
 have hmp:=F.mem _ (cM (show 0<ms.length by omega))
 have hgood:=pL (F.wN _ (cM (show 0<ms.length by omega)))
 have ho:=IX hgood.1
 have hr:cV 5 ms[0].view=true:=by have:=hgood.2.2.2;unfold nN at this;simpa using this
 have hvs:VS (aQ ms 0).p.view:=by rw[g1];exact hmp.vs
 have hsp:=Qj W (o:=(aQ ms 0).p.aF.order) (by rw[g1];exact ho) (l:=fu ms) (by rw[mF];omega) (by rw[mF];omega) hvs (by rw[g1];exact hr)
 have h27:=FY W (by omega) b1 hvs hsp
 have hsplit:(dA ms).flatten=jy ms 0++((dA ms).drop 1).flatten:=Kg F (i:=0) (by omega)
 have hy:((dA ms).drop 1).flatten.length<=(dA ms).flatten.length:=by rw[hsplit,aR];omega
 have h25:=afC W (by omega) F (i:=0) (by omega) ((dA ms).drop 1).flatten (by omega) (by omega)
 rw[<-hsplit] at h25
 have hat:jK (aQ ms 0).aL (fR ms 0)=(((aQ ms 0).aL.length+10:Nat):Int):=by unfold jK;rw[b3,ai (by omega)]
 obtain⟨A,B,hA,hAB⟩:=YB (fG (aQ ms 0).p (fR ms 0)) (aQ ms 0).aL (by show(fR ms 0).length≠0;rw[b3];omega)
 have hfile:(dA ms).flatten=A++(fR ms 0++(B++((dA ms).drop 1).flatten)):=by
  conv=>lhs;rw[hsplit]
  unfold jy
  rw[hAB]
  simp only[dD]
  rfl
 have hsl:(eX ms).length=ms.length+1:=by unfold eX;rw[cH,List.length_range]
 have hsg:∀i (h:i<(eX ms).length),(eX ms)[i]=(cC ms i:Int):=λi h=>by simp[eX]
 obtain⟨hh1,hh2⟩:=P6 F h2
 have h67:=UO (w:=w) (gM ms) (λn hn=>by
  unfold gM at hn
  obtain⟨i,hi,rfl⟩:=mg.1 hn
  have:=oT F (List.mem_range.1 hi)
  omega) (by rw[sS];omega) (by omega) (iC ms) ⟨by omega,hh1⟩ (fu ms) (by rw[mF,sS]) (by rw[mF];omega)
 rw[adt] at h67
 have hcl:(aQ ms 0).aL.length+14=iC ms:=rfl
 generalize hs:(dA ms).flatten=s at*
 unfold ES
 rw[<-hs,UL F (by omega) hw,hs,az]
 rw[show(!aj (aA dw (eX ms),(0:Int)).snd 0)=false from rfl,aC,h25,az]
 rw[show(!aj 0 0)=false from rfl,aC]
 rw[b3,h27,az,<-b3]
 rw[show(!aj 0 0)=false from rfl,aC]
 rw[cd,show((eX ms).length.ble (eX ms).length&&Nat.ble 1 (eX ms).length)=true by simp;omega,aB,sE oR _ (aK _),cd,dI,eu,Nat.min_self,show(eX ms).length -1=ms.length by omega]
 refine ia (ev:=λi (g:Value->Value->Int->Int->Int->Value->Value->Value->Value->Value->Value->Value->Value->Value->Value->Int->Int->Int->Value->Value->List Value->Option (Value×Int))=>
  g (ag s) (aA dw (eX ms)) ms.length i (aQ ms 0).p.aF.order (ay (aQ ms 0).p.aF.ct) (ay (aQ ms 0).p.aF.bI) (ay (aQ ms 0).p.aF.bN) (ay (aQ ms 0).p.aF.bn) (ay (aQ ms 0).p.aF.first) (ag (aQ ms 0).p.aF.bH) (ag (aQ ms 0).p.aF.cP) (ag (aQ ms 0).p.cj) (ag (aQ ms 0).p.core) (ag (fR ms 0)) (jK (aQ ms 0).aL (fR ms 0)) (ec ms 0) (aQ ms 0).p.aF.order (eW (fu ms)) (ay (aQ ms 0).p.view) (bD ((gM ms).take i))) ms.length ?_ ?_ (by omega)
 ·intro i g hi
  have e1:((i:Int)<(ms.length:Int)):=by omega
  have l1:=oT F hi
  have s1:=tO F i (by omega)
  have s2:cC ms (i+1)=cC ms i+ec ms i:=rfl
  have il:∀l:List Int,(bD l).length=l.length:=λl=>cH ..
  simp only[aT,e1,bd,aB]
  rw[bT,aM (by omega) (by omega),show(i:Int)+1=((i+1:Nat):Int) by omega,bP,bu oR (show i+1<(eX ms).length by omega),hsg]
  simp only[dw,fo,fU,bh,bQ]
  rw[bP,bu oR (show i<(eX ms).length by omega),hsg]
  simp only[dw,fo,fU,bh,bQ]
  rw[jg,aM (by omega) (by omega),show(cC ms (i+1):Int) -(cC ms i:Int)=(ec ms i:Int) by omega]
  rw[show(aG (bD ((gM ms).take i)).length&&(aG 1&&(List.take 1 (List.drop 0 [Value.int IntKind.i64 (ec ms i:Int)])).length.beq 1))=true by
   rw[il];simp[aG];omega,aB]
  rw[iN (show i<(gM ms).length by rw[sS];exact hi),zR]
  unfold bD
  rw[gq]
  rfl
 ·intro g
  have e1:¬((ms.length:Int)<(ms.length:Int)):=by omega
  simp only[aT,e1,bM,aC]
  rw[eE (by rw[sS];omega),show ae ((bD (gM ms)).length/1) (bD (gM ms))=aA dw (gM ms) by
   unfold aA;rw[zC,kE];congr 1;exact cH ..,hat,bT,aM (by omega) (by omega),show(((aQ ms 0).aL.length+10:Nat):Int)+4=(iC ms:Int) by unfold iC;omega,h67,az]
  rw[show eW (fu ms)=aA fm (fu ms) from rfl,cd,mF]
  refine ia (ev:=λi (g:Value->Bool->Value->Value->Int->Int->Int->Value->Value->Value->Value->Value->Value->Value->Value->Value->Value->Int->Int->Option (Value×Int))=>
   g (ag s) true (ag (fR ms 0)) (aA fm (fu ms)) ms.length i (aQ ms 0).p.aF.order (ay (aQ ms 0).p.aF.ct) (ay (aQ ms 0).p.aF.bI) (ay (aQ ms 0).p.aF.bN) (ay (aQ ms 0).p.aF.bn) (ay (aQ ms 0).p.aF.first) (ag (aQ ms 0).p.aF.bH) (ag (aQ ms 0).p.aF.cP) (ag (aQ ms 0).p.cj) (ag (aQ ms 0).p.core) (ag (fR ms 0)) (((aQ ms 0).aL.length+10:Nat):Int) (ec ms 0)) ms.length ?_ ?_ (by omega)
  ·intro i g hi
   have e1:((i:Int)<(ms.length:Int)):=by omega
   have hp:i<(fu ms).length:=by rw[mF];exact hi
   have h68:=aeI W (by omega) b1 hvs hsp hp
   rw[<-b3] at h68
   simp only[aT,e1,bd,aB,bP]
   rw[bu nv hp]
   simp only[fm,fo,fU,bh,bQ]
   rw[h68,az]
   rw[show(!(ag (fR ms 0),true).snd)=false from rfl,aC,bT,aM (by omega) (by omega)]
   rfl
  ·intro g
   have e1:¬((ms.length:Int)<(ms.length:Int)):=by omega
   simp only[aT,e1,bM,aC,bO]
   exact OQ (λv=>(v,0)) hfile (by rw[b3];omega) (by omega) (by rw[hA])
end
section
set_option linter.unusedVariables false
set_option linter.unusedSimpArgs false
set_option linter.unusedSectionVars false
set_option linter.constructorNameAsVariable false
theorem aey{w:Nat}(W:dM w)(hw:70000000<w){ms:List aZ}(B:yz w ms):LU w (cR ms)=some true:=by
 have h17:=aeA W (by omega)
 unfold LU
 rw[aez (by omega) B]
 simp only[az]
 cases hv:yq ms with
 |true=>rw[aB,h17];rfl
 |false=>
 obtain⟨hl,hl2,hm⟩:=ahf hv
 rw[aC,ER W (by omega) hm hl (by omega),az,UI W (by omega) hm hl (by omega),az,UK W (by omega) hm hl (by omega),az,Fe W (by omega) hm (by omega) (by omega),az]
 have refl:∀n:Int,aj n n=true:=λn=>by rw[cu,bZ]
 by_cases hc:gZ ms=0
 case neg=>
  simp only[ai hc,refl,bO,aC]
  rw[show aj (gZ ms) 0=false by rw[cu,fe hc],gp,aB]
  rw[show∀K:Nat->Option Bool,aq (ae 0 []) K=K 0 fromλ_=>rfl]
  rw[show∀K:Nat->Option Bool,aq (ae 0 []) K=K 0 fromλ_=>rfl]
  rw[show∀K:Nat->Option Bool,aq (ae 0 []) K=K 0 fromλ_=>rfl]
  rw[show aj (ah IntKind.i64 ((ah IntKind.i64 ((Int.ofNat 0).add (Int.ofNat 0))).add (Int.ofNat 0))) 0=true from rfl,aB,h17]
  rfl
 obtain⟨F,h1⟩:=zn hm hl hc
 have h6:=F.le
 have hall:=vE F
 have hle:=tO F ms.length (aK _)
 have hpl:=uU ms
 have hsl:(eX ms).length=ms.length+1:=by unfold eX;rw[cH,List.length_range]
 have hsg:∀i (h:i<(eX ms).length),(eX ms)[i]=(cC ms i:Int):=λi h=>by simp[eX]
 have hmv:∀K:Nat->Option Bool,aq (cR ms) K=K ms.length:=λK=>cd fQ ms K
 have hn:∀n:Nat,Int.ofNat n=(n:Int):=λ_=>rfl
 simp only[hc,dL,refl,bO,aC]
 rw[UL F h1 hw,az]
 simp only[refl,bO,aC,cd,hmv,hpl,hsl,hn]
 rw[bT,aM (by omega) (by omega),show(((ms.length+1:Nat):Int))=(ms.length:Int)+1 by omega,refl,bO,aC]
 rw[bu oR (show ms.length<(eX ms).length by omega),hsg]
 simp only[dw,fo,fU,bh,bQ,cJ,hn]
 rw[hall,refl,bO,aC]
 refine ia (ev:=λi (g:Value->Value->Value->Value->Int->Value->Option Bool)=>g (ag (dA ms).flatten) (aA eV (dA ms)) (eW (s9 ms)) (aA dw (eX ms)) i (cR ms)) ms.length ?_ ?_ (by omega)
 ·intro i g hi
  have e1:((i:Int)<(ms.length:Int)):=by omega
  have s2:=tP ms (show i<=i+1 by omega)
  have s3:=tP ms (show i+1<=ms.length by omega)
  have hp:i<(dA ms).length:=by omega
  have e:(dA ms)[i]=jy ms i:=by simp[dA]
  have hlen:(jy ms i).length<=3000000:=by rw[(uS F hi).2.2];exact(oT F hi).2
  have a0:∀K:List Value->Option Bool,aO 1 i (aA dw (eX ms)) K=K (dw (cC ms i)++((eX ms).drop (i+1)).flatMap dw):=λK=>by rw[bu oR (show i<(eX ms).length by omega),hsg]
  have a1:∀K:List Value->Option Bool,aO 1 (i+1) (aA dw (eX ms)) K=K (dw (cC ms (i+1))++((eX ms).drop (i+1+1)).flatMap dw):=λK=>by rw[bu oR (show i+1<(eX ms).length by omega),hsg]
  have e2:¬((cC ms i:Int)<0):=by omega
  have e3:¬((cC ms (i+1):Int)<(cC ms i:Int)):=by omega
  have e4:¬(((dA ms).flatten.length:Int)<(cC ms (i+1):Int)):=by omega
  have e5:ah IntKind.i64 (Int.add (i:Int) 1)=((i+1:Nat):Int):=by rw[bT,aM (by omega) (by omega)];omega
  have e6:((cC ms (i+1)).ble (dA ms).flatten.length&&(cC ms i).ble (cC ms (i+1)))=true:=by rw[bt,iO,iO];omega
  simp only[cd,hpl,hn,aT,e1,bd,aB,bP,a0,a1,dw,fo,fU,bh,bQ,e2,e3,e4,e5,e6,bM,aC,cJ]
  rw[mu _ (by omega),adj F hi,bu (f:=eV) (λ_=>rfl) hp,e,show∀(l:List UInt8) r,eV l++r=ag l::r fromλ_ _=>rfl]
  simp only[bh]
  rw[UJ _ (by omega) (by omega)]
  rfl
 ·intro g
  have e1:¬((ms.length:Int)<(ms.length:Int)):=by omega
  simp only[cd,hpl,hn,aT,e1,bM,aC]
  by_cases h:ms.length=1
  ·rw[show aj (ms.length:Int) 1=true by rw[cu,bZ];omega,aB,show eW (s9 ms)=aA fm [] by unfold s9;rw[au h];rfl,cd]
   rw[show aj (([]:List cy).length:Int) 0=true from rfl,aB,h17]
   rfl
  have h2:1<ms.length:=by omega
  obtain⟨hh1,hh2⟩:=P6 F h2
  obtain⟨b,b1,b2,b3,b4⟩:=Ar F h2
  have hat:jK (aQ ms 0).aL (aQ ms 0).b=(((aQ ms 0).aL.length+10:Nat):Int):=by unfold jK;rw[ai (by omega)]
  have hcl:(aQ ms 0).aL.length+14=iC ms:=rfl
  have hi0:0<(ea ms).length:=by rw[zz];omega
  have h26:=aeE (w:=w) (fu ms) (adv F hh2) (by rw[mF];omega) (iC ms) (((dA ms).flatten.length:Nat):Int) (by omega) (by omega) (by rw[mF];omega)
  rw[Wy F (by omega),au hall] at h26
  rw[show aj (ms.length:Int) 1=false by rw[cu,gJ];omega,aC,ae5 W (by omega) hm hl (by omega),az,au hc,aeD W hw F h2,az]
  simp only[cd,zz,hpl,hn,refl,bO,aC]
  rw[UJ _ (by omega) (by omega),az,bO,aC,bu rm hi0,Da]
  rw[show List.drop 11 (fN (aQ ms 0)++((ea ms).drop (0+1)).flatMap fN)=.int .i64 (jK (aQ ms 0).aL (aQ ms 0).b)::(((fN (aQ ms 0)).drop 12)++((ea ms).drop (0+1)).flatMap fN) from rfl]
  simp only[bh,bQ,cJ,hn]
  rw[hat,bT,aM (by omega) (by omega),show(((aQ ms 0).aL.length+10:Nat):Int)+4=(iC ms:Int) by omega,show eW (s9 ms)=eW (fu ms) by unfold s9;rw[ai h],h26]
  simp only[az,bO,aC,cd,hsl,hn,refl]
  refine ia (ev:=λi (g:Value->Value->Int->Option Bool)=>g (aA dw (eX ms)) (aA dw (eX ms)) i) (ms.length+1) ?_ ?_ (by omega)
  ·intro i g hi
   have e1:((i:Int)<((ms.length+1:Nat):Int)):=by omega
   have a0:∀K:List Value->Option Bool,aO 1 i (aA dw (eX ms)) K=K (dw (cC ms i)++((eX ms).drop (i+1)).flatMap dw):=λK=>by rw[bu oR (show i<(eX ms).length by omega),hsg]
   have e5:ah IntKind.i64 (Int.add (i:Int) 1)=((i+1:Nat):Int):=by rw[bT,aM (by omega) (by omega)];omega
   simp only[cd,hsl,hn,aT,e1,bd,aB,bP,a0,dw,fo,fU,bh,bQ,refl,bO,aC,e5]
  ·intro g
   have e1:¬(((ms.length+1:Nat):Int)<((ms.length+1:Nat):Int)):=by omega
   simp only[cd,hsl,hn,aT,e1,bM,aC]
   rw[h17]
   rfl
end
section
set_option linter.unusedVariables false
set_option linter.unusedSimpArgs false
set_option linter.unusedSectionVars false
set_option linter.constructorNameAsVariable false
noncomputable section
theorem aag(w:Nat):cg Tryz.prog 26 [.v,.i .i64,.i .i64] (.aH [.v,.b]) (ET w):=jP (w:=w) (lv:=λn=>(cond (Nat.beq n 0) (some ⟨[(0,.v),(1,.i .i64),(2,.i .i64),(8,.gr 0 1),(9,.i .i64),(13,.v),(14,.i .i64),(15,.i .i64)],[(0,.grow 1 3)],1⟩) none)) (jv:=λ_=>none) (un:=λn=>false) fJ mixed ga (fn:=Tryz.f26) (by kernel_rfl) (by kernel_rfl) (by kernel_rfl)
end
end
section
set_option linter.unusedVariables false
set_option linter.unusedSimpArgs false
set_option linter.unusedSectionVars false
set_option linter.constructorNameAsVariable false
noncomputable section
theorem aax(w:Nat):cg Tryz.prog 135 [.v] (.aH [.i .i64,.b]) (E1 w):=jP (w:=w) (lv:=λn=>(cond (Nat.beq n 0) (some ⟨[(25,.v),(26,.i .i64),(27,.i .i64)],[],2⟩) none)) (jv:=λ_=>none) (un:=λn=>false) fJ mixed (cG (cG (cG ga (DP w)) (JX w)) (SI w)) (fn:=Tryz.f135) (by kernel_rfl) (by kernel_rfl) (by kernel_rfl)
theorem aan(w:Nat):cg Tryz.prog 68 [.v,.i .i64,.agg [.i .i64,.i .i64,.i .i64,.i .i64,.i .i64]] (.aH [.v,.b]) (EV w):=jP (w:=w) (lv:=λn=>none) (jv:=λ_=>none) (un:=λn=>false) fJ mixed (cG (cG (cG ga (DP w)) (RW w)) (aax w)) (fn:=Tryz.f68) (by kernel_rfl) (by kernel_rfl) (by kernel_rfl)
theorem aap(w:Nat):cg Tryz.prog 97 [.v,.i .i64] (.aH [.i .i64,.b]) (xF w):=jP (w:=w) (lv:=λn=>none) (jv:=λ_=>none) (un:=λn=>false) fJ mixed (cG ga (DR w)) (fn:=Tryz.f97) (by kernel_rfl) (by kernel_rfl) (by kernel_rfl)
theorem RM(w:Nat):cg Tryz.prog 23 [.v] (.aH [.v,.i .i64]) (A1 w):=XX w (aap w)
theorem aaf(w:Nat):cg Tryz.prog 25 [.v] (.aH [.v,.i .i64]) (ES w):=jP (w:=w) (lv:=λn=>(cond (Nat.beq n 0) (some ⟨[(0,.v),(4,.v),(6,.ptr 0 0),(7,.ptr 1 0),(8,.gr 2 1),(43,.i .i64),(44,.i .i64)],[(0,.cells [.i .i64,.v,.v,.v,.v,.v,.v,.v,.v,.v,.v,.i .i64,.i .i64] 56),(1,.cells [.i .i64,.v,.v] 103),(2,.grow 1 3)],3⟩) (cond (Nat.beq n 2) (some ⟨[(0,.v),(6,.ptr 0 0),(11,.b),(12,.v),(73,.v),(74,.i .i64),(75,.i .i64)],[(0,.cells [.i .i64,.v,.v,.v,.v,.v,.v,.v,.v,.v,.v,.i .i64,.i .i64] 56)],3⟩) none))) (jv:=λ_=>none) (un:=λn=>false) fJ mixed (cG (cG (cG (cG (cG ga (RM w)) (Sv w)) (DP w)) (RP w)) (aan w)) (fn:=Tryz.f25) (by kernel_rfl) (by kernel_rfl) (by kernel_rfl)
theorem Z9(w:Nat):cg Tryz.prog 4 [.agg [.v]] (.b) (LU w):=jP (w:=w) (lv:=λn=>(cond (Nat.beq n 0) (some ⟨[(1,.ptr 0 0),(3,.v),(5,.v),(7,.v),(9,.v),(11,.i .i64)],[(0,.cells [.v] 24)],1⟩) (cond (Nat.beq n 2) (some ⟨[(9,.v),(15,.v),(17,.i .i64)],[],1⟩) none))) (jv:=λ_=>none) (un:=λn=>false) fJ mixed (cG (cG (cG (cG (cG (cG (cG (cG (cG (cG (cG ga (aaa w)) (aab w)) (RJ w)) (RH w)) (RL w)) (DF w)) (aac w)) (aaS w)) (aag w)) (RM w)) (aaf w)) (fn:=Tryz.f4) (by kernel_rfl) (by kernel_rfl) (by kernel_rfl)
end
end
section
set_option linter.unusedVariables false
set_option linter.unusedSimpArgs false
set_option linter.unusedSectionVars false
set_option linter.constructorNameAsVariable false
open Go.ChangeShapes Go.WideShapes Go.ChangeAt Go.RowKit Go.Joins Go.Deep
open YtcfjfbeadhnknaaGreatDoor
theorem own:ownKnob Tryz.prog.godebug=none:=by kernel_rfl
theorem laidOut:laidOutB Tryz.prog=true:=by kernel_rfl
theorem wok:dM (maxLen+1):=⟨Yp (by decide),by decide⟩
theorem WA(ms:List aZ)(hn:ms.length<=maxLen)(hr:∀p∈ms,yE p):yz (maxLen+1) ms:=
 ⟨Nat.lt_succ_of_le hn,λp hp l hl=>⟨Nat.lt_succ_of_le (hr p hp l hl),Nat.lt_succ_of_le (hr p hp l hl)⟩⟩
end
section
set_option linter.unusedVariables false
set_option linter.unusedSimpArgs false
set_option linter.unusedSectionVars false
set_option linter.constructorNameAsVariable false
open Go.ChangeShapes Go.WideShapes Go.ChangeAt Go.RowKit Go.Joins Go.Deep
open YtcfjfbeadhnknaaGreatDoor
theorem Xi(H:Type)(enc:TypeId×Value->H)(W:World)(base:Nat)(args:Array Value)(ds gs:List (DataW H))(before:List MemPlace)
 (hval:∀(j:Nat) t v,Tryz.f4.params[j]? =some t->args[j]? =some v->Value.okWide Tryz.prog W .any base t v)
 (hW:DataW.Whole enc Tryz.prog Tryz.f4.params.toList Rows.writeTilesSpec.vars false W args.toList ds gs before):
 Calls Tryz.prog 4 args W λe W'=>∃v,e=.returned v/\Rows.writeTilesSpec.post enc Tryz.prog Tryz.f4 false true false false W args v W':=by
 have hW':=hW
 obtain⟨p,q,hA0,hV,rfl,hfz,hnd⟩:=hW
 have hA:DataW.TrodAll enc Tryz.prog W 0 (λ_=>true) true Tryz.f4.params.toList args.toList ds p:=hA0
 rw[Tryz.params4] at hA hval
 obtain⟨v1,vs1,d1,ds1,p1,q1,hargs,rfl,rfl,h1,r1⟩:=trodAll_cons hA
 obtain⟨rfl,rfl,rfl⟩:=trodAll_nil r1
 obtain rfl:args=#[v1]:=by cases args;simp_all
 obtain⟨rfl,rfl⟩:=trodVars_none hV
 have k1:=h1
 have lt1:∀x∈p1,x.block<W.heap.size:=by obtain⟨m,hm⟩:=k1;exact DataW.trod_lt m _ _ _ hm
 obtain⟨D1,rfl,_⟩:=okWide_struct Tryz.underlying24 (hval 0 24 v1 rfl rfl)
 obtain⟨fuel1,hf1⟩:=h1
 obtain⟨z8,u1,e1,L1,hn1,hr1⟩:=adE hf1
 have hD1:D1=#[u1]:=by
  have:D1.toList=[u1]:=by simpa[Value.cells] using e1
  cases D1;simp_all
 subst hD1
 clear hA0
 refine(OA (k:=true) (Z9 (maxLen+1) [.v (cR z8)] true (aey wok (by decide) (WA z8 hn1 hr1)) (λx hx=>by simp at hx;rcases hx with rfl<;>rfl) _ rfl) (m:=λb i=>fH W b i) (λ_ _ _ h=>h) (.cons (.JD (.cons L1 .nil)) .nil)).mono λe W' ⟨he,kW⟩=>?_
 subst he
 exact⟨_,rfl,_,_,_,[],_,[],hW',trodAll_mk1 (shut_bool Tryz.underlying4 _),(trodAll_cons_mk (Below.trod laidOut (by kernel_rfl) (nF (by kernel_rfl)) k1 kW lt1) trodAll_mk0),rfl,Below.frame kW _,λh=>by cases h⟩
def Hw:Array Value:=#[.agg #[.slice none 0 0]]
def Zl:List (String×DataW Unit):=Rows.writeTilesRow.laid
theorem Xv(os:Os)(args:Array Value):laidMetH Tryz.prog Zl ((World.doorLaid Tryz.prog 400 os).forCall (λ_ _=>0) ⟨#[],args,[]⟩).memory:=
 laidMetH_of_parts3 (fuel:=8) (laidMet_of_run' 8 (by kernel_rfl) (by kernel_rfl)) (by kernel_rfl) (by kernel_rfl)
theorem adI(os:Os){H:Type}(enc:TypeId×Value->H):∃places,DataW.whole enc Tryz.prog ((World.doorLaid Tryz.prog 400 os).forCall (λ_ _=>0) ⟨#[],Hw,[]⟩).memory Tryz.f4.params.toList Rows.writeTilesSpec.vars false Hw.toList 8=some ([.agg [.nil]],[],places):=
 ⟨[],by kernel_rfl⟩
theorem Zz(os:Os)(started:os.Started)(H:Type)(enc:TypeId×Value->H)(F:Stop.Interp):
 ReturnsInHanded {} Tryz.checked os 4 .any ((OpenSpec.ofChange Rows.writeTilesSpec).preRow enc Tryz.prog Tryz.f4 Rows.writeTilesRow.domain false Rows.writeTilesRow.laid) (((OpenSpec.ofChange Rows.writeTilesSpec).at F).post enc Tryz.prog Tryz.f4 false true false false):=by
 obtain⟨places,hx⟩:=adI os enc
 refine returnsInHanded_of_row (C:=Tryz.checked) (s:=OpenSpec.ofChange Rows.writeTilesSpec) own started (by kernel_rfl) Tryz.func4
  (witness_row_atRef (enc:=enc) (C:=Tryz.checked) false (World.doorLaid Tryz.prog 400 os) Hw rfl (by kernel_rfl) (by kernel_rfl) (by kernel_rfl)
   (OpenSpec.preRow_of_cond 8 hx (by kernel_rfl) (λk hk=>by cases hk) (by kernel_rfl) (Xv os _))) ?_
 intro W base args ds gs before hval hW _ _ _ hL hsh _
 exact Xi H enc W base args ds gs before hval hW
end
end Lt
end Go.Proofs.YtcfjfbeadhnknaaGreatDoor

import Derived.Test.YtcfjfbeadhnknaaGreatDoorOH
namespace Go.Proofs.YtcfjfbeadhnknaaGreatDoor
set_option linter.unusedVariables false
set_option linter.unusedSimpArgs false
set_option linter.unusedSectionVars false
set_option linter.constructorNameAsVariable false
set_option maxRecDepth 100000
namespace Lt
theorem ajB{w:Nat}(L:H1 Int)(h0:0<L.length)(hl:L.length<=1000):Gz w (aA cF L)=some (aA cF L):=by
 have hn:=nextslicecap_le (need:=0+L.length) (old:=0) (by omega);have hf:(L.flatMap cF).length=L.length:=by rw[cy mg,gy]
 unfold Gz N4;rw[bU,show Nat.beq L.length 0=false by(cases h:Nat.beq L.length 0 with|false=>rfl|true=>have:=bT h;omega),aD,bU,show Nat.blt 0 L.length=true by simp;omega,aC,vw mg,hf]
 rw[show(L.length.beq (L.length*1)&&(Nat.ble 0 0&&Nat.beq 3 3))=true by simp,aC];rw[show(0+L.length).ble 0=false by cases h:(0+L.length).ble 0 with|false=>rfl|true=>have:=dW h;omega,aD]
 rw[show(aF L.length&&(aF 0&&(Builtin.nextslicecap (0+L.length) 0).ble 5000000000))=true by
  have a:aF L.length=true:=by simp;omega
  have b:(Builtin.nextslicecap (0+L.length) 0).ble 5000000000=true:=by rw[iq];omega
  rw[a,b];rfl,aC]
 show some (ae ((L.flatMap cF).length/1) (L.flatMap cF))=_;rw[hf,kG];rfl
theorem PJ(ms:H1 aO):(fL ms).length=ms.length+1:=by unfold fL;rw[cH,List.length_range]
theorem ajp{w:Nat}(W:cZ w)(hw:70000000<w){ms:H1 aO}(F:dX ms)(h1:1<=ms.length)(hc:ga ms=0)(hf:(fS ms).1 =0):∃V,Gu w (ah (bV ms).flatten)=some (V,aA cF (fL ms),0):=by have h6:=F.le;unfold Gu;rw[X1 W hw F h1 hc hf];simp only[aB];rw[show(!aj (0:Int) 0)=false from rfl,aD,ajB _ (by rw[PJ];omega) (by rw[PJ];omega)];exact⟨_,rfl⟩
def vh:Nat->H1 (H1 UInt8)->H1 Int
 |a,[]=>[(a:Int)]
 |a,p::P=>(a:Int)::vh (a+p.length) P
theorem aaM:∀(P:H1 (H1 UInt8))(a:Nat),∃r,vh a P=(a:Int)::r
 |[],a=>⟨_,rfl⟩
 |_::_,a=>⟨_,rfl⟩
theorem QN(xs:H1 Int):∀(P:H1 (H1 UInt8))(a:Nat),(∀p∈P,0<p.length)->xs.drop a=P.flatten.map (λb=>(b.toNat:Int))->u7 xs (vh a P)=some (P.map ah)
 |[],a,_,_=>rfl
 |p::P,a,hp,hx=>by
  have h0:=hp p (by simp);have hl:xs.length -a=p.length+P.flatten.length:=by have:=bX List.length hx;rw[eu,cH,List.flatten_cons,aP] at this;exact this
  obtain⟨r,hr⟩:=aaM P (a+p.length);have ih:=QN xs P (a+p.length) (λq hq=>hp q (lU _ hq)) (by
   rw[<-List.drop_drop,hx,List.flatten_cons,fY,List.drop_left' (by rw[cH])])
  unfold vh;rw[hr] at ih⊢;unfold u7;have e1:¬((a:Int)<0):=by omega
  have e2:((a:Int)<((a+p.length:Nat):Int)):=by omega
  have e3:¬((xs.length:Int)<((a+p.length:Nat):Int)):=by omega
  rw[aU,aU,aU,eB e1,dZ e2,eB e3];rw[show(!false&&(true&&!false))=true from rfl,aC,ih,aB,show(((a+p.length:Nat):Int) -(a:Int)).toNat=p.length by omega,show((a:Int)).toNat=a from rfl,hx,List.flatten_cons,fY,List.take_left' (by rw[cH]),DE,QQ];rfl
theorem Y7{ms:H1 aO}(F:dX ms):∀k i,i+k=ms.length->vh (dF ms i) ((bV ms).drop i)=((List.range (ms.length+1)).drop i).map λj=>(dF ms j:Int)
 |0,i,h=>by
  obtain rfl:i=ms.length:=by omega
  rw[rO (by rw[lu];exact aM _),cW (by rw[List.length_range];omega),List.getElem_range,rO (by rw[List.length_range];exact aM _)];rfl
 |k+1,i,h=>by
  have hp:i<(bV ms).length:=by rw[lu];omega
  have e:(bV ms)[i]=dc ms i:=by simp[bV]
  have q:=(nS F (show i<ms.length by omega)).2.2;have ih:=Y7 F k (i+1) (by omega);rw[cW hp,e];show((dF ms i:Nat):Int)::vh (dF ms i+(dc ms i).length) ((bV ms).drop (i+1))=_;rw[q,show dF ms i+dE ms i=dF ms (i+1) from rfl,ih,cW (show i<(List.range (ms.length+1)).length by rw[List.length_range];omega),List.getElem_range,ij]
theorem Sz:∀L:H1 Int,qY (L.flatMap cF)=some L
 |[]=>rfl
 |a::L=>by rw[dG];show qY (.int .i64 a::L.flatMap cF)=_;unfold qY;rw[Sz L,aB]
theorem ait(P:H1 (H1 UInt8)):ae (P.map ah).length (P.map ah)=aA cV P:=by
 unfold aA;rw[cH]
 congr 1
 induction P with
 |nil=>rfl
 |cons p P ih=>rw[ij,dG,ih];rfl
theorem XX{w:Nat}(W:cZ w)(hw:70000000<w){ms:H1 aO}(F:dX ms)(h1:1<=ms.length)(hc:ga ms=0)(hf:(fS ms).1 =0):sO w (ah (bV ms).flatten)=some (aA cV (bV ms),0):=by
 have h6:=F.le;have tot:=Fo F;obtain⟨V,hV⟩:=ajp W hw F h1 hc hf;have hst:fL ms=vh 0 (bV ms):=(Y7 F ms.length 0 (by omega)).symm;have hb:=QN ((bV ms).flatten.map λb=>(b.toNat:Int)) (bV ms) 0 (λp hp=>by
  obtain⟨i,hi,rfl⟩:=List.mem_iff_getElem.1 hp;rw[lu] at hi;have e:(bV ms)[i]'(by rw[lu];exact hi)=dc ms i:=by simp[bV]
  have:=(mm F hi).1;rw[e,(nS F hi).2.2];omega) rfl
 unfold sO An;rw[hV,aB];simp only;rw[show(!aj (0:Int) 0)=false from rfl,aD,rX,cH,show Nat.ble (bV ms).flatten.length 1000000000=true by rw[iq];omega,aC];rw[show rowOf (aA cF (fL ms))=some ((fL ms).length,(fL ms).flatMap cF) from rfl];simp only;rw[cy mg,gy,PJ,show(Nat.blt 1 (ms.length+1)&&(Nat.beq (ms.length+1) (ms.length+1)&&Nat.ble (ms.length+1) 1000000))=true by simp;omega,aC,Sz,aB,hst,hb,aB,ait]
theorem ajD{w:Nat}(hw:70000000<w){ms:H1 aO}(F:dX ms){i:Nat}(hi:i<ms.length):GB w (ah (dc ms i))=some false:=by
 obtain⟨I,q1,q2⟩:=nS F hi;have l:=(mm F hi).2;have h:=SF I [];rw[dP] at h;have hp:dc ms i=fj (fO ms[i] (eV ms i)) (aL ms i).aT:=by unfold dc;rw[(F.at_ hi).1]
 rw[<-hp] at h;have q:=X2 (w:=w) (s:=dc ms i) (a:=0) (gU _) (by omega) (by omega) (aM _) (by rw[er];exact h);unfold GB;rw[show sQ w (ah (dc ms i)) 0=sQ w (ah (dc ms i)) ((0:Nat):Int) from rfl,q,aB];simp only[bW,aD,cN,fI,bY,bO,bd]
section
def bl(l:H1 Int):Qu:=ae l.length (l.map (Value.int .u8))
abbrev em:Qu:=ae 0 []
abbrev pv:H1 Qu:=[.int .i64 2,ae 1 [.int .i64 274,.int .i64 3,.int .i64 1,ae 2 [.int .u8 0,.int .u8 1]],ae 0 [],ae 0 [],ae 0 [],ae 0 [],ae 0 [],ae 0 [],ae 0 [],ae 15 [.int .u8 255,.int .u8 216,.int .u8 255,.int .u8 218,.int .u8 0,.int .u8 8,.int .u8 1,.int .u8 1,.int .u8 0,.int .u8 0,.int .u8 63,.int .u8 0,.int .u8 7,.int .u8 255,.int .u8 217],.int .i64 0,.int .i64 0,.int .i64 0,ae 0 []]
def Vn:H1 Int:=[255,216,255,225,0,34,69,120,105,102,0,0,77,77,0,42,0,0,0,8,0,1,1,18,0,3,0,0,0,1,0,1,0,0,0,0,0,0,255,218,0,8,1,1,0,0,63,0,7,255,217]
def Q2:H1 Int:=[255,216,255,225,0,34,69,120,105,102,0,0,77,77,0,42,0,0,0,8,0,1,1,18,0,3,0,0,0,1,0,1,0,0,0,0,0,0,255,226,0,88,77,80,70,0,77,77,0,42,0,0,0,8,0,3,176,0,0,7,0,0,0,4,48,49,48,48,176,1,0,4,0,0,0,1,0,0,0,2,176,2,0,7,0,0,0,32,0,0,0,50,0,0,0,0,0,0,0,0,0,0,0,141,0,0,0,0,0,0,0,0,0,0,0,0,0,0,0,51,0,0,0,95,0,0,0,0,255,218,0,8,1,1,0,0,63,0,7,255,217]
def sF:Qu:=bl Vn
def uG:Qu:=bl (Q2++Vn)
def JG:Qu:=bl Q2
abbrev DL(c one:Qu):Qu:=ae 2 [c,one]
abbrev Bp(f:Qu):H1 Qu:=[f,.int .i64 0,.int .i64 0,.int .i64 0,em]
abbrev yi(one:Qu):Qu:=ae 2 [one,.int .i64 0,.int .i64 0,.int .i64 0,em,one,.int .i64 0,.int .i64 0,.int .i64 0,em]
section
variable(k:Nat)
theorem ag1:yG (k+1000) (ae 1 pv)=some (sF,0):=by kernel_rfl
theorem amq:yG (k+1000) (ae 2 (pv++pv))=some (uG,0):=by kernel_rfl
theorem Mw:B8 (k+1000)=some (2,ae 1 [.int .i64 274,.int .i64 3,.int .i64 1,ae 2 [.int .u8 0,.int .u8 1]],ae 0 [],ae 0 [],ae 0 [],ae 0 [],ae 0 [],ae 0 [],ae 0 [],ae 15 [.int .u8 255,.int .u8 216,.int .u8 255,.int .u8 218,.int .u8 0,.int .u8 8,.int .u8 1,.int .u8 1,.int .u8 0,.int .u8 0,.int .u8 63,.int .u8 0,.int .u8 7,.int .u8 255,.int .u8 217],0,0,0,ae 0 []):=by kernel_rfl
theorem aaR:sO (k+1000) uG=some (DL JG sF,0):=by kernel_rfl
theorem ahm:oh (k+1000) (DL JG sF)=some (uG,0):=by kernel_rfl
theorem ahl:oh (k+1000) (ae 1 [sF])=some (sF,0):=by kernel_rfl
theorem ahk:oh (k+1000) em=some (em,1):=by kernel_rfl
theorem Z5:Gv (k+1000) uG=some (yi sF,0):=by kernel_rfl
theorem amx:rq (k+1000) (yi sF)=some (uG,0,0):=by kernel_rfl
theorem amw:rq (k+1000) (ae 1 (Bp uG))=some (em,0,2):=by kernel_rfl
theorem aiZ:oe (k+1000) sF sF=some true:=by kernel_rfl
theorem ai0:oe (k+1000) uG uG=some true:=by kernel_rfl
end
theorem ll{α β:Type}{x:Zh α}{v:α}{K:α->Zh β}{r:Zh β}(h:x=some v)(h2:K v=r):ob x K=r:=by rw[h];exact h2
theorem qh{c:Bool}{x y r:Zh Bool}(h:c=false)(h2:y=r):cond c x y=r:=by rw[h];exact h2
theorem xz{c:Bool}{x y r:Zh Bool}(h:c=true)(h2:x=r):cond c x y=r:=by rw[h];exact h2
theorem C4{v:Qu}{l:H1 Qu}{K:Qu->H1 Qu->Zh Bool}{r:Zh Bool}(h:K v l=r):af (v::l) K=r:=h
theorem ac7(K:Nat->Zh Bool):ar JG K=K 141:=rfl
theorem abp(k:Nat){one two c:Qu}(h1:yG (k+1000) (ae 1 pv)=some (one,0))(h2:yG (k+1000) (ae 2 (pv++pv))=some (two,0))(h3:sO (k+1000) two=some (DL c one,0))
 (h4:oh (k+1000) (DL c one)=some (two,0)) (h5:oh (k+1000) (ae 1 [one])=some (one,0)) (h6:oh (k+1000) em=some (em,1)) (h7:Gv (k+1000) two=some (yi one,0)) (h8:rq (k+1000) (yi one)=some (two,0,0))
 (h9:rq (k+1000) (ae 1 (Bp two))=some (em,0,2)) (s1:oe (k+1000) one one=some true) (s2:oe (k+1000) two two=some true) (hl:∀K:Nat->Zh Bool,ar c K=K 141):mD (k+1000)=some true:=by
 have a1:∀(l:H1 Qu)(K:Nat->Zh Bool),ar (ae 2 l) K=K 2:=λ_ _=>rfl;have a4:∀K:H1 Qu->Zh Bool,aJ 1 0 (ae 2 [c,one]) K=K [c,one]:=λ_=>rfl;have a5:∀K:H1 Qu->Zh Bool,aJ 1 1 (ae 2 [c,one]) K=K [one]:=λ_=>rfl;have a6:∀K:H1 Qu->Zh Bool,aJ 5 0 (yi one) K=K (Bp one++Bp one):=λ_=>rfl;have a7:∀K:H1 Qu->Zh Bool,aJ 5 1 (yi one) K=K (Bp one):=λ_=>rfl;unfold mD;refine ll (Mw k) (ll h1 (ll (Mw k) (ll (Mw k) (ll h2 (ll h3 ?_)))));refine qh rfl ((a1 _ _).trans (qh rfl ((a4 _).trans (C4 ((hl _).trans (qh rfl ((a5 _).trans (C4 (ll s1 (qh rfl (ll h4 ((a5 _).trans (C4 (ll h5 (ll h6 (ll h7 ?_))))))))))))))));refine qh rfl (qh rfl (qh rfl (qh rfl ((a1 _ _).trans (qh rfl (ll s2 (qh rfl (ll s1 (qh rfl (ll h8 (ll h9 ?_)))))))))));exact(a6 _).trans (C4 (ll s1 (xz rfl ((a7 _).trans (C4 (ll s1 (xz rfl (ll s2 (xz rfl (xz rfl (xz rfl (xz rfl rfl))))))))))))
theorem ajr(k:Nat):mD (k+1000)=some true:=abp k (ag1 k) (amq k) (aaR k) (ahm k) (ahl k) (ahk k) (Z5 k) (amx k) (amw k) (aiZ k) (ai0 k) ac7
theorem JO(k:Nat):(sO (k+1000) (ae 0 [])).isSome=true:=by kernel_rfl
theorem ajq{w:Nat}(hw:1000<=w):mD w=some true:=by obtain⟨k,rfl⟩:∃k,w=k+1000:=⟨w -1000,by omega⟩;exact ajr k
end
def pg(ms:H1 aO)(P:H1 (H1 UInt8)):Prop:=P.length<=7/\∀i (h:i<P.length),∃j,j<ms.length/\P[i]=dc ms j
def iz(P:H1 (H1 UInt8))(i:Nat):Nat:=(P.take i).flatten.length
theorem ER(P:H1 (H1 UInt8)){i:Nat}(h:i<P.length):iz P (i+1)=iz P i+(P[i]).length:=by unfold iz;rw[im h,List.flatten_append,aP];simp
theorem LA(P:H1 (H1 UInt8)):iz P P.length=P.flatten.length:=by unfold iz;rw[mL]
theorem LB(P:H1 (H1 UInt8)){i:Nat}(h:i<P.length):P.flatten.drop (iz P i)=P[i]++(P.drop (i+1)).flatten:=by
 have e:P.flatten=(P.take i).flatten++(P.drop i).flatten:=by rw[<-List.flatten_append,kF]
 rw[e];unfold iz;rw[List.drop_left,cW h,List.flatten_cons]
theorem pg.len{ms:H1 aO}(F:dX ms){P:H1 (H1 UInt8)}(H:pg ms P){i:Nat}(h:i<P.length):1<=(P[i]).length/\(P[i]).length<=3000000:=by obtain⟨j,hj,e⟩:=H.2 i h;rw[e,(nS F hj).2.2];exact mm F hj
theorem Uq{ms:H1 aO}(F:dX ms){P:H1 (H1 UInt8)}(H:pg ms P):∀i,i<=P.length->iz P i<=3000000*i
 |0,_=>gU _
 |i+1,h=>by have:=Uq F H i (by omega);have:=(H.len F (i:=i) (by omega)).2;rw[ER P (by omega)];omega
theorem LC{P:H1 (H1 UInt8)}{i:Nat}(h:i<=P.length):iz P i<=P.flatten.length:=by
 have e:P.flatten=(P.take i).flatten++(P.drop i).flatten:=by rw[<-List.flatten_append,kF]
 rw[e,aP];exact Nat.le_add_right _ _
theorem IG{ms:H1 aO}(F:dX ms){P:H1 (H1 UInt8)}(H:pg ms P):P.flatten.length<=21000000:=by have:=Uq F H P.length (aM _);have:=H.1;rw[LA] at*;omega
theorem abc{w:Nat}{ms:H1 aO}(F:dX ms)(hw:70000000<w){P:H1 (H1 UInt8)}(H:pg ms P){i:Nat}(hi:i<P.length):sQ w (ah P.flatten) (iz P i:Int)=some ((iz P (i+1):Int),true):=by
 obtain⟨j,hj,e⟩:=H.2 i hi;obtain⟨I,q1,q2⟩:=nS F hj;have t:=IG F H;have m:=LC (show i+1<=P.length by omega);have s:=ER P hi;have q:=X2 (w:=w) (s:=P.flatten) (a:=iz P i) (by omega) (by omega) (by omega) (l:=jK (fO ms[j] (eV ms j)) (aL ms j).aT) (e:=(P[i]).length) (by omega) (by
  rw[LB P hi,e];unfold dc;rw[(F.at_ hj).1];exact SF I _)
 rw[q,s]
def my(P:H1 (H1 UInt8)):H1 Int:=(List.range (P.length+1)).map λi=>(iz P i:Int)
theorem Us(P:H1 (H1 UInt8)):(my P).length=P.length+1:=by unfold my;rw[cH,List.length_range]
theorem Ur(P:H1 (H1 UInt8)){i:Nat}(h:i<(my P).length):(my P)[i]=(iz P i:Int):=by simp[my]
theorem RS{w:Nat}{ms:H1 aO}(F:dX ms)(hw:70000000<w){P:H1 (H1 UInt8)}(H:pg ms P):∀(k i f:Nat),i+k=P.length->k<f->
 sd (sQ w) (ah P.flatten) P.flatten.length f (iz P i:Int) ((List.range i).map λj=>(iz P j:Int))=some ((List.range P.length).map λj=>(iz P j:Int))
 |0,i,f+1,h,_=>by
  obtain rfl:i=P.length:=by omega
  unfold sd;rw[LA,aU,eB (by omega),aD]
 |k+1,i,f+1,h,hf=>by
  have hi:i<P.length:=by omega
  have h1:=LC (show i+1<=P.length by omega);have h3:=ER P hi;have h4:=(H.len F hi).1;have h7:=H.1;unfold sd;rw[aU,dZ (by omega),aC,abc F hw H hi,aB];rw[show((true&&ak (iz P i:Int) (iz P (i+1):Int))&&Nat.blt ((List.range i).map λj=>(iz P j:Int)).length 1000000)=true by rw[aU,dZ (by omega),cH,List.length_range];simp;omega,aC];have:=RS F hw H k (i+1) f (by omega) (by omega);rw[List.range_succ,fY] at this;exact this
theorem abx{w:Nat}{ms:H1 aO}(F:dX ms)(hw:70000000<w){P:H1 (H1 UInt8)}(H:pg ms P)(h1:1<=P.length):Gr w (ah P.flatten)=some (aA cF (my P),0):=by
 have h7:=H.1;have ht:=IG F H;unfold Gr findF;rw[show rowOf (ah P.flatten)=some (P.flatten.length,P.flatten.flatMap pC) from rfl];simp only;have:=RS F hw H P.length 0 w (by omega) (by omega);rw[show(iz P 0:Int)=0 from rfl,List.range_zero,List.map_nil] at this;rw[show Nat.ble P.flatten.length 1000000000=true by rw[iq];omega,aC,this,aB,cH,List.length_range];rw[show(Nat.blt 0 P.length&&Nat.ble P.length 1000000)=true by simp;omega,aC];have e:(List.range P.length).map (λj=>(iz P j:Int))++[(P.flatten.length:Int)]=my P:=by unfold my;rw[List.range_succ,fY,<-LA];rfl
 rw[e];unfold aA;rw[Us]
 congr 3
 exact(AL _).symm
theorem ajv{w:Nat}(L:H1 Int)(hL:∀n∈L,1<=n/\n<=3000000)(hl:L.length<=1000)(hw:2000<w)(h:Int)(P:H1 cS)(hP:P.length≠L.length):wm w (aA cF L) h (dU P)=some (ae 0 [],false):=by unfold wm;rw[Ya L hL hl hw];simp only[aB,bW,aD];rw[show dU P=aA fC P from rfl,bU,bU,bY,bO,bO,eB (by omega),fH,aC]
theorem index_none(k:Nat):(match qI (k+1000) (ae 0 []) with|some d=>!aj d.2.2.2 0|none=>false)=true:=by kernel_rfl
theorem akT{w:Nat}(hw:1000<=w):∃d,qI w (ae 0 [])=some d/\(!aj d.2.2.2 0)=true:=by
 obtain⟨k,rfl⟩:∃k,w=k+1000:=⟨w -1000,by omega⟩;have h:=index_none k;cases q:qI (k+1000) (ae 0 []) with
 |none=>rw[q] at h;cases h
 |some d=>rw[q] at h;exact⟨d,rfl,h⟩
set_option maxHeartbeats 2000000 in
theorem ajk{w:Nat}(W:cZ w)(hw:70000000<w){ms:H1 aO}(F:dX ms){P:H1 (H1 UInt8)}(H:pg ms P)(h0:P[0]? =some (dc ms 0))(h1:1<=ms.length)(hn:P.length≠ms.length):∃e,Gs w (ah P.flatten)=some (ae 0 [],e)/\(!aj e 0)=true:=by
 have h6:=F.le;have h7:=H.1;have ht:=IG F H;obtain⟨hP,hp0⟩:=mJ.1 h0;have hsplit:P.flatten=dc ms 0++(P.drop 1).flatten:=by have:=LB P hP;rwa[show iz P 0=0 from rfl,er,hp0] at this
 have hy:(P.drop 1).flatten.length<=P.flatten.length:=by rw[hsplit,aP];omega
 have h25:=YA W (by omega) F (i:=0) (by omega) (P.drop 1).flatten (by omega) (by omega);rw[<-hsplit] at h25;unfold Gs;rw[abx F hw H (by omega),aB];rw[show(!aj (aA cF (my P),(0:Int)).snd 0)=false from rfl,aD,h25,aB];rw[show(!aj 0 0)=false from rfl,aD];by_cases h2:ms.length=1
 ·obtain⟨d,hd,he⟩:=akT (w:=w) (by omega);rw[T7 h2,show ah []=ae 0 [] from rfl,hd,aB];exact⟨d.2.2.2,by rw[he,aC],he⟩
 have h2:1<ms.length:=by omega
 obtain⟨g1,k1,k2,k3⟩:=F.at_ (i:=0) (by omega);obtain⟨b,b1,b2,b3,b4⟩:=Fs F h2;have hmp:=F.mem _ (cx (show 0<ms.length by omega));have hgood:=oJ (F.qn _ (cx (show 0<ms.length by omega)));have ho:=Eg hgood.1;have hr:da 5 ms[0].view=true:=by have:=hgood.2.2.2;unfold mP at this;simpa using this
 have hvs:VS (aL ms 0).p.view:=by rw[g1];exact hmp.vs
 have hsp:=KT W (o:=(aL ms 0).p.aG.order) (by rw[g1];exact ho) (l:=gX ms) (by rw[nY];omega) (by rw[nY];omega) hvs (by rw[g1];exact hr);have h27:=O1 W (by omega) b1 hvs hsp;have hat:jF (aL ms 0).aT (eV ms 0)=(((aL ms 0).aT.length+10:Nat):Int):=by unfold jF;rw[b3,aq (by omega)]
 have hLl:(P.map λp=>(p.length:Int)).length=P.length:=cH ..;have h67:=λh=>ajv (w:=w) (P.map λp=>(p.length:Int)) (λn hn=>by obtain⟨p,hp,rfl⟩:=mK.1 hn;obtain⟨i,hi,rfl⟩:=List.mem_iff_getElem.1 hp;have:=H.len F hi;omega) (by omega) (by omega) h (gX ms) (by rw[nY,hLl];omega);have hsl:=Us P;refine⟨4,?_,rfl⟩;generalize hs:P.flatten=s at*;rw[b3,h27,aB,<-b3];rw[show(!aj 0 0)=false from rfl,aD];rw[bU,show((my P).length.ble (my P).length&&Nat.ble 1 (my P).length)=true by simp;omega,aC,r8 mg _ (aM _),bU,dk,eu,Nat.min_self,show(my P).length -1=P.length by omega];refine gV (ev:=λi (g:Qu->Qu->Int->Int->Int->Qu->Qu->Qu->Qu->Qu->Qu->Qu->Qu->Qu->Qu->Int->Int->Int->Qu->Qu->H1 Qu->Zh (Qu×Int))=>
  g (ah s) (aA cF (my P)) P.length i (aL ms 0).p.aG.order (au (aL ms 0).p.aG.cu) (au (aL ms 0).p.aG.bG) (au (aL ms 0).p.aG.bN) (au (aL ms 0).p.aG.bm) (au (aL ms 0).p.aG.first) (ah (aL ms 0).p.aG.bF) (ah (aL ms 0).p.aG.cP) (ah (aL ms 0).p.cg) (ah (aL ms 0).p.core) (ah (eV ms 0)) (jF (aL ms 0).aT (eV ms 0)) (dE ms 0) (aL ms 0).p.aG.order (dU (gX ms)) (au (aL ms 0).p.view) (bI ((P.map λp=>(p.length:Int)).take i))) P.length ?_ ?_ (by omega)
 ·intro i g hi;have e1:((i:Int)<(P.length:Int)):=by omega
  have l1:=H.len F hi;have s1:=LC (show i+1<=P.length by omega);have s2:=ER P hi;have il:∀l:H1 Int,(bI l).length=l.length:=λl=>cH ..;rw[hs] at s1;simp only[aU,e1,bd,aC];rw[cf,aQ (by omega) (by omega),show(i:Int)+1=((i+1:Nat):Int) by omega,bH,bu mg (show i+1<(my P).length by omega),Ur];simp only[cF,eD,fy,bc,bK];rw[bH,bu mg (show i<(my P).length by omega),Ur];simp only[cF,eD,fy,bc,bK];rw[jh,aQ (by omega) (by omega),show(iz P (i+1):Int) -(iz P i:Int)=((P[i]).length:Int) by omega];rw[show(aF (bI ((P.map λp=>(p.length:Int)).take i)).length&&(aF 1&&(List.take 1 (List.drop 0 [Value.int IntKind.i64 ((P[i]).length:Int)])).length.beq 1))=true by rw[il];simp[aF];omega,aC];rw[im (show i<(P.map λp=>(p.length:Int)).length by rw[hLl];exact hi),List.getElem_map];unfold bI;rw[fY];rfl
 ·intro g;have e1:¬((P.length:Int)<(P.length:Int)):=by omega
  simp only[aU,e1,bM,aD];rw[eQ (by rw[hLl];omega),show ae ((bI (P.map λp=>(p.length:Int))).length/1) (bI (P.map λp=>(p.length:Int)))=aA cF (P.map λp=>(p.length:Int)) by unfold aA;rw[AL,kG];congr 1;exact cH ..,h67,aB];rw[show∀K:Nat->Zh (Qu×Int),ar (ae 0 [],false).fst K=K 0 fromλK=>rfl];refine gV (ev:=λi (g:Qu->Bool->Qu->Qu->Int->Int->Int->Qu->Qu->Qu->Qu->Qu->Qu->Qu->Qu->Qu->Qu->Int->Int->Zh (Qu×Int))=>
   g (ah s) false (ah (eV ms 0)) (ae 0 []) 0 i (aL ms 0).p.aG.order (au (aL ms 0).p.aG.cu) (au (aL ms 0).p.aG.bG) (au (aL ms 0).p.aG.bN) (au (aL ms 0).p.aG.bm) (au (aL ms 0).p.aG.first) (ah (aL ms 0).p.aG.bF) (ah (aL ms 0).p.aG.cP) (ah (aL ms 0).p.cg) (ah (aL ms 0).p.core) (ah (eV ms 0)) (jF (aL ms 0).aT (eV ms 0)) (dE ms 0)) 0 ?_ ?_ (by omega)
  ·intro i g hi;omega
  ·intro g;rfl
theorem adD{w:Nat}(hw:70000000<w){ms:H1 aO}(F:dX ms){P:H1 (H1 UInt8)}(H:pg ms P):GA w (aA cV P)=some false:=by
 have h7:=H.1;have h50:GL w (aA cV P)=some (-1):=by
  unfold GL;rw[bU];refine gV (ev:=λi (g:Qu->Int->Int->Zh Int)=>g (aA cV P) (Int.ofNat P.length) i) P.length ?_ ?_ (by omega)
  ·intro i g hi;have e1:((i:Int)<(P.length:Int)):=by omega
   obtain⟨j,hj,e⟩:=H.2 i hi;simp only[aU,bO,e1,bd,aC,bH];rw[bu (k:=1) (λ_=>rfl) hi,e,show∀r,cV (dc ms j)++r=ah (dc ms j)::r fromλ_=>rfl,bc,ajD hw F hj,aB,aD,cf,aQ (by omega) (by omega)];rfl
  ·intro g;have e1:¬((P.length:Int)<(P.length:Int)):=by omega
   simp only[aU,bO,e1,bM,aD]
 unfold GA;rw[h50];rfl
theorem XY{w:Nat}(W:cZ w)(hw:70000000<w){ms:H1 aO}(F:dX ms){P:H1 (H1 UInt8)}(H:pg ms P)(h0:P[0]? =some (dc ms 0))(h1:1<=ms.length)(hn:P.length≠ms.length):∃e,oh w (aA cV P)=some (ae 0 [],e)/\(!aj e 0)=true:=by
 have h7:=H.1;have ht:=IG F H;obtain⟨hP,hp0⟩:=mJ.1 h0;have n0:¬((P.length:Int)=0):=by omega
 unfold oh;rw[bU,bY,bO,eB n0,aD,adD hw F H,aB,aD,X3 w _ (by omega) (by omega) (by omega),aB,bU,aU,bO];by_cases h2:1<P.length
 ·rw[dZ (show(1:Int)<(P.length:Int) by omega),bW,aD];obtain⟨e,h,he⟩:=ajk W hw F H h0 h1 hn;rw[h];simp only[aB];exact⟨e,by rw[he,aC],he⟩
 ·rw[eB (show¬(1:Int)<(P.length:Int) by omega),fH,aC];have hn1:P.length=1:=by omega
  have hf:P.flatten=dc ms 0:=by have:=LB P hP;rw[show iz P 0=0 from rfl,er,hp0,rO (by omega),List.flatten_nil,dP] at this;exact this
  have q:=(nS F (i:=0) (by omega)).2.2;have s1:=CY ms (show 2<=ms.length by omega);have s2:dF ms 2=0+dE ms 0+dE ms 1:=rfl;have l1:=(mm F (i:=1) (by omega)).1;have h29:=ajm W hw F (by omega) (s:=dc ms 0) (y:=[]) (by rw[dP]) (by decide) (by rw[q];omega);unfold GC;rw[hf,h29];exact⟨4,rfl,rfl⟩
theorem ahh{ms l:H1 aO}{n:Nat}(h0:0<n)(h:ms[n]? =l[n]?):dc ms n=dc l n:=by
 have hs:iA ms n=iA l n:=by unfold iA;rw[h];simp only[aq (show¬n=0 by omega)]
 have hg:aL ms n=aL l n:=by unfold aL;rw[h,hs]
 have hm:eV ms n=eV l n:=by unfold eV;rw[aq (by omega),aq (by omega),hg]
 unfold dc;rw[hg,hm]
theorem ub(ms:H1 aO){i:Nat}(hi:i<(bV ms).length):(bV ms)[i]=dc ms i:=by simp[bV]
theorem amo{ms:H1 aO}(F:dX ms)(h1:1<=ms.length){i:Nat}(hi:i<ms.length):pg ms (bV ms++[dc ms i])/\(bV ms++[dc ms i])[0]? =some (dc ms 0)/\(bV ms++[dc ms i]).length≠ms.length:=by
 have h6:=F.le;have hl:=lu ms;refine⟨⟨by rw[aP,hl];show _+1<=7;omega,λj hj=>?_⟩,?_,by rw[aP,hl];show _+1≠_;omega⟩
 ·rw[aP] at hj;by_cases h:j<(bV ms).length
  ·exact⟨j,by omega,by rw[List.getElem_append_left h,ub]⟩
  ·refine⟨i,hi,?_⟩;rw[List.getElem_append_right (by omega)];simp
 ·rw[rQ (by omega),cw (by omega),ub]
theorem ac8{ms:H1 aO}(F:dX ms){i:Nat}(h0:0<i)(hi:i<ms.length):pg ms ((bV ms).take i++(bV ms).drop (i+1))/\((bV ms).take i++(bV ms).drop (i+1))[0]? =some (dc ms 0)/\((bV ms).take i++(bV ms).drop (i+1)).length≠ms.length:=by
 have h6:=F.le;have hl:=lu ms;have ht:((bV ms).take i).length=i:=by rw[dk];omega
 have hd:((bV ms).drop (i+1)).length=ms.length -(i+1):=by rw[eu,hl]
 refine⟨⟨by rw[aP,ht,hd];omega,λj hj=>?_⟩,?_,by rw[aP,ht,hd];omega⟩
 ·rw[aP,ht,hd] at hj;by_cases h:j<i
  ·exact⟨j,by omega,by rw[List.getElem_append_left (by omega),List.getElem_take,ub]⟩
  ·refine⟨i+1+(j -i),by omega,?_⟩;rw[List.getElem_append_right (by omega),List.getElem_drop,ub]
   congr 1
   omega
 ·rw[rQ (by omega),o6,ay h0,cw (by omega),ub]
theorem ai7{ms l:H1 aO}(F:dX ms)(G:dX l)(i:Nat){k:Nat}(hk:k<l.length):dX (ms.set i l[k]):=by
 have key:∀(P:aO->Prop),(∀p∈ms,P p)->(∀p∈l,P p)->∀p∈ms.set i l[k],P p:=λP a b p hp=>by
  rcases List.mem_or_eq_of_mem_set hp with q|rfl
  ·exact a p q
  ·exact b _ (cx hk)
 exact⟨key _ F.mem G.mem,by rw[List.length_set];exact F.le,key _ F.qn G.qn⟩
theorem ajc(ms:H1 aO)(p:aO){i n:Nat}(h:n≠i):(ms.set i p)[n]? =ms[n]? :=by rw[List.getElem?_set_ne (by omega)]
theorem ai8(ms:H1 aO)(p:aO){i:Nat}(hi:i<ms.length)(f:aO->H1 Qu){k:Nat}(hf:∀q,(f q).length=k):aX (i*k) (f p) (ms.flatMap f)=(ms.set i p).flatMap f:=by
 have e:ms=ms.take i++ms[i]::ms.drop (i+1):=by rw[<-cW hi,kF]
 have ht:((ms.take i).flatMap f).length=i*k:=by rw[cy hf,dk];congr 1;omega
 have e2:ms.set i p=ms.take i++p::ms.drop (i+1):=List.set_eq_take_append_cons_drop ..|>.trans (by rw[ay hi]);rw[e2]
 conv=>lhs;rw[e]
 rw[fo,dG,fo,dG,V2 _ _ _ (by rw[aP,aP,ht,hf,hf];omega)];rw[List.take_left' ht,List.drop_append,rO (by rw[ht,hf];omega),fy,ht,hf,show i*k+k -i*k=k by omega,List.drop_left' (hf _)];simp[ed]
theorem XW{w:Nat}(W:cZ w)(hw:70000000<w){ms:H1 aO}(F:dX ms)(h1:1<=ms.length)(hc:ga ms=0)(hf:(fS ms).1 =0):B7 w (ah (bV ms).flatten)=some (0,ms.flatMap iW):=by
 have h6:=F.le;unfold B7;rw[XU W hw F h1 hc hf,aB];rw[show(!aj ((cI ms,(0:Int),(0:Int)).snd.snd) 0)=false from rfl,aD];rw[show∀K:Nat->Zh (Int×H1 Qu),ar (cI ms,(0:Int),(0:Int)).fst K=K ms.length fromλK=>bU cR ms K];refine gV (ev:=λi (g:Qu->Int->Int->H1 Qu->Zh (Int×H1 Qu))=>g (cI ms) (Int.ofNat ms.length) i ((ms.take i).flatMap iW)) ms.length ?_ ?_ (by omega)
 ·intro i g hi;have e1:((i:Int)<(ms.length:Int)):=by omega
  have r:=WV qy (ms.take i) (by rw[dk];omega);simp only[aU,bO,e1,bd,aC,bH];rw[show cI ms=aA cR ms from rfl,bu kj hi,nR];simp only[bc,bK];rw[ajC W (by omega) (F.mem _ (cx hi)) (F.qn _ (cx hi)),aB,r];refine Eq.trans (b:=g (aA cR ms) (ms.length:Int) (ag .i64 ((i:Int)+1)) ((ms.take i).flatMap iW++iW ms[i])) rfl ?_;rw[Zl hi,aQ (by omega) (by omega)];rfl
 ·intro g;have e1:¬((ms.length:Int)<(ms.length:Int)):=by omega
  simp only[aU,bO,e1,bM,aD];rw[mL]
theorem tC(l:H1 UInt8):(cV l).length=1:=rfl
theorem ag6{w:Nat}(W:cZ w)(hw:70000000<w){ms l:H1 aO}(F:dX ms)(G:dX l)(h1:1<=ms.length)(h41:mD w=some true){i k:Nat}(hi:i<ms.length)(hk:k<l.length):Ff w (ms.flatMap iW) (l.flatMap iW) (aA cV (bV ms)) i k=some true:=by
 have h6:=F.le;have g6:=G.le;have M:=ai7 F G i hk;have hN:(ms.set i l[k]).length=ms.length:=List.length_set;have hput:aX (0+i*5) [ah (sc l[k]),Value.int .i64 l[k].attr,Value.int .i64 l[k].ee,Value.int .i64 l[k].ef,au l[k].view] (ms.flatMap iW)=(ms.set i l[k]).flatMap iW:=by rw[fI];exact ai8 ms l[k] hi iW qy
 have hpl:=lu ms;unfold Ff;rw[bH,show(Nat.beq 5 5&&(k*5).blt (l.flatMap iW).length)=true by rw[cy qy];simp;omega,aC,fI,mT qy,cW hk,dG];rw[show∀r,iW l[k]++r=ah (sc l[k])::.int .i64 l[k].attr::.int .i64 l[k].ee::.int .i64 l[k].ef::au l[k].view::r fromλ_=>rfl];rw[bc,bc,bK,bc,bK,bc,bK,bc,bH,show(Nat.beq 5 5&&(i*5).blt (ms.flatMap iW).length)=true by rw[cy qy];simp;omega,aC];rw[show((SV.agg [SV.v (ah (sc l[k])),SV.i IntKind.i64 l[k].attr,SV.i IntKind.i64 l[k].ee,SV.i IntKind.i64 l[k].ef,SV.v (au l[k].view)]).cells.length.beq 5&&(0+i*5+5).ble (ms.flatMap iW).length)=true by rw[cy qy,show(SV.agg [SV.v (ah (sc l[k])),SV.i IntKind.i64 l[k].attr,SV.i IntKind.i64 l[k].ee,SV.i IntKind.i64 l[k].ef,SV.v (au l[k].view)]).cells.length.beq 5=true from rfl];simp;omega,aC,hput,ahs,ajs W hw M,aB];by_cases hc:ga (ms.set i l[k])=0
 case neg=>rw[aq hc];simp only;rw[show(!aj (ga (ms.set i l[k])) 0)=true by rw[bY,eB hc];rfl,aC,h41];rfl
 have hf:=(Aj _ (by omega)).1 hc;rw[ay hc];simp only;rw[show(!aj (0:Int) 0)=false from rfl,aD,XX W hw M (by omega) hc hf,aB];simp only;rw[show(!aj (0:Int) 0)=false from rfl,aD,bU,bU,lu,lu,hN,show(!aj (Int.ofNat ms.length) (Int.ofNat ms.length))=false by rw[bY,dZ rfl];rfl,aD];refine gV (ev:=λj (g:Int->Qu->Qu->Int->Zh Bool)=>g (i:Int) (aA cV (bV ms)) (aA cV (bV (ms.set i l[k]))) ((j+1:Nat):Int)) (ms.length -1) ?_ ?_ (by omega)
 ·intro j g hj;have e1:(((j+1:Nat):Int)<(ms.length:Int)):=by omega
  have w1:ag .i64 (((j+1:Nat):Int)+1)=((j+1+1:Nat):Int):=by rw[aQ (by omega) (by omega)];rfl
  rw[bU,hpl,aU,bO,dZ e1,aC,cf,w1];by_cases he:j+1=i
  ·rw[show(!aj ((j+1:Nat):Int) (i:Int))=false by rw[bY,dZ (by omega)];rfl,aD]
  ·rw[show(!aj ((j+1:Nat):Int) (i:Int))=true by rw[bY,eB (by omega)];rfl,aC,bH];rw[bu tC (show j+1<(bV (ms.set i l[k])).length by rw[lu,hN];omega),ub,show∀r,cV (dc (ms.set i l[k]) (j+1))++r=ah (dc (ms.set i l[k]) (j+1))::r fromλ_=>rfl,bc];rw[bH,bu tC (show j+1<(bV ms).length by rw[lu];omega),ub,show∀r,cV (dc ms (j+1))++r=ah (dc ms (j+1))::r fromλ_=>rfl,bc];rw[ahh (ms:=ms.set i l[k]) (l:=ms) (by omega) (ajc ms _ he)];have q:=(nS F (show j+1<ms.length by omega)).2.2;have l3:=mm F (show j+1<ms.length by omega);rw[ajh _ (by omega) (by omega),aB,bW,aD]
 ·intro g;have e1:¬(((ms.length -1+1:Nat):Int)<(ms.length:Int)):=by omega
  rw[bU,hpl,aU,bO,eB e1,aD,h41];rfl
theorem Q3(P:H1 (H1 UInt8)){i:Nat}(K:Qu->Zh Bool):DM 1 0 i (aA cV P) K=K (Ee i ((P.take i).flatMap cV)):=by show K (Ee (i -0) (((P.flatMap cV).drop (0*1)).take ((i -0)*1)))=_;rw[Nat.zero_mul,er,Nat.sub_zero,vr tC]
theorem QA(A B:H1 (H1 UInt8))(hA:A.length<=1000)(hB:B.length<=1000)(K:Qu->Zh Bool):zX 1 B.length (B.flatMap cV) (Ee A.length (A.flatMap cV)) K=K (aA cV (A++B)):=by show cond (Nat.beq (A.flatMap cV).length (A.length*1)&&(Nat.beq (B.flatMap cV).length (B.length*1)&&(aF A.length&&aF B.length))) (K (ae (A.length+B.length) (A.flatMap cV++B.flatMap cV))) none=_;rw[cy tC,cy tC,show(Nat.beq (A.length*1) (A.length*1)&&(Nat.beq (B.length*1) (B.length*1)&&(aF A.length&&aF B.length)))=true by simp[aF];omega,aC];unfold aA;rw[aP,fo]
theorem ajf{w:Nat}(W:cZ w)(hw:70000000<w){ms l:H1 aO}(B:C7 w ms)(C:C7 w l)(c d:Int):N2 w (cI ms) (cI l) c d=some true:=by
 have h41:=ajq (w:=w) (by omega);unfold N2;rw[XV (by omega) B,aB];cases hv:zC ms with
 |true=>rw[aC,h41];rfl
 |false=>
 obtain⟨hl,hm⟩:=ZL hv;rw[aD,XV (by omega) C,aB];cases hv2:zC l with
 |true=>rw[aC,h41];rfl
 |false=>
 obtain⟨kl,km⟩:=ZL hv2;rw[aD];by_cases z0:c<0
 ·rw[aU,dZ z0,aC,h41];rfl
 rw[aU,eB z0,aD];by_cases y0:d<0
 ·rw[aU,dZ y0,aC,h41];rfl
 rw[aU,eB y0,aD];obtain⟨i,rfl⟩:∃i:Nat,c=(i:Int):=⟨c.toNat,by omega⟩;obtain⟨k,rfl⟩:∃k:Nat,d=(k:Int):=⟨d.toNat,by omega⟩;rw[show∀K:Nat->Zh Bool,ar (cI ms) K=K ms.length fromλK=>bU cR ms K,aU,bO];by_cases hi:i<ms.length
 case neg=>rw[eB (show¬(i:Int)<(ms.length:Int) by omega),fH,aC,h41];rfl
 rw[dZ (show(i:Int)<(ms.length:Int) by omega),bW,aD];rw[show∀K:Nat->Zh Bool,ar (cI l) K=K l.length fromλK=>bU cR l K,aU,bO];by_cases hk:k<l.length
 case neg=>rw[eB (show¬(k:Int)<(l.length:Int) by omega),fH,aC,h41];rfl
 rw[dZ (show(k:Int)<(l.length:Int) by omega),bW,aD];rw[Gq W (by omega) hm (.inl hl) (by omega),aB,Gq W (by omega) km (.inl kl) (by omega),aB];by_cases hc:ga ms=0
 case neg=>rw[aq hc,show(!aj (ae 0 [],ga ms).snd 0)=true by rw[bY,eB hc];rfl,aC,h41];rfl
 by_cases kc:ga l=0
 case neg=>rw[ay hc,aq kc,show(!aj (ah (bV ms).flatten,(0:Int)).snd 0)=false from rfl,aD,show(!aj (ae 0 [],ga l).snd 0)=true by rw[bY,eB kc];rfl,aC,h41];rfl
 obtain⟨F,h1⟩:=AD hm (.inl hl) hc;obtain⟨G,k1⟩:=AD km (.inl kl) kc;have hf:=(Aj ms h1).1 hc;have kf:=(Aj l k1).1 kc;have hpl:=lu ms;have tl:=ag6 W hw F G h1 h41 hi hk;obtain⟨t1,t2,t3⟩:=amo F h1 hi;obtain⟨e,he,cA⟩:=XY W hw F t1 t2 h1 t3;rw[ay hc,ay kc];simp only;rw[show(!aj (0:Int) 0)=false from rfl,aD,aD,XW W hw F h1 hc hf,aB,XW W hw G k1 kc kf,aB,XX W hw F h1 hc hf,aB];simp only;rw[show(!aj (0:Int) 0)=false from rfl,aD,aD,aD];rw[show∀K:Nat->Zh Bool,ar (cI ms) K=K ms.length fromλK=>bU cR ms K,show(!aj (Int.ofNat ((ms.flatMap iW).length/5)) (Int.ofNat ms.length))=false by rw[cy qy,ir _ (by decide),bY,dZ rfl];rfl,aD];rw[show∀K:Nat->Zh Bool,ar (cI l) K=K l.length fromλK=>bU cR l K,show(!aj (Int.ofNat ((l.flatMap iW).length/5)) (Int.ofNat l.length))=false by rw[cy qy,ir _ (by decide),bY,dZ rfl];rfl,aD];rw[bU,hpl,show(!aj (Int.ofNat ms.length) (Int.ofNat ((ms.flatMap iW).length/5)))=false by rw[cy qy,ir _ (by decide),bY,dZ rfl];rfl,aD];rw[bU,bU,bU,hpl,show(ms.length.ble ms.length&&(ms.length.ble ms.length&&Nat.ble 0 ms.length))=true by simp,aC,show ms.length.beq ms.length=true by simp,aC,Q3,eQ (by omega),bH,bu tC (show i<(bV ms).length by omega),ub,show∀r,cV (dc ms i)++r=ah (dc ms i)::r fromλ_=>rfl,bc];have ap1:=λK=>QA (bV ms) [dc ms i] (by omega) (by show 1<=1000;decide) K;rw[hpl,show[dc ms i].length=1 from rfl,show[dc ms i].flatMap cV=List.take 1 (List.drop 0 [ah (dc ms i)]) from rfl] at ap1;rw[ap1,he,aB,show aj (ae 0 [],e).snd 0=false by simpa using cA,aD];by_cases i0:i=0
 ·subst i0;rw[show ak 0 ((0:Nat):Int)=false from rfl,aD];exact tl
 ·obtain⟨u1,u2,u3⟩:=ac8 F (show 0<i by omega) hi;obtain⟨e2,he2,hne2⟩:=XY W hw F u1 u2 h1 u3;have ht:((bV ms).take i).length=i:=by rw[dk];omega
  have hd:((bV ms).drop (i+1)).length=ms.length -(i+1):=by rw[eu,hpl]
  rw[aU,dZ (show(0:Int)<(i:Int) by omega),aC,bU,hpl,bH,bH,show(i.ble ms.length&&(i.ble i&&Nat.ble 0 i))=true by simp;omega,aC,show i.beq i=true by simp,aC,Q3,bU,hpl,cf,aQ (by omega) (by omega),show(i:Int)+1=((i+1:Nat):Int) by omega,bH,show(ms.length.ble ms.length&&(i+1).ble ms.length)=true by simp;omega,aC];rw[r8 tC _ (by omega),eQ (by rw[hd];exact aM _),vw tC];have ap2:=λK=>QA ((bV ms).take i) ((bV ms).drop (i+1)) (by omega) (by omega) K;rw[ht] at ap2;rw[ap2,he2,aB,show aj (ae 0 [],e2).snd 0=false by simpa using hne2,aD];exact tl
section
open Go.ChangeShapes Go.WideShapes Go.ChangeAt Go.RowKit Go.Joins Go.Deep
open YtcfjfbeadhnknaaGreatDoor
theorem aaI(H:Type)(enc:TypeId×Qu->H)(W:Hx)(base:Nat)(args:Array Qu)(ds gs:H1 (DataW H))(before:H1 MemPlace)
 (hval:∀(j:Nat) t v,Tryz.f10.params[j]? =some t->args[j]? =some v->Value.okWide Tryz.prog W .any base t v)
 (hW:DataW.Whole enc Tryz.prog Tryz.f10.params.toList Rows.splitOtherSpec.vars false W args.toList ds gs before):
 Calls Tryz.prog 10 args W λe W'=>∃v,e=.returned v/\Rows.splitOtherSpec.post enc Tryz.prog Tryz.f10 false true false false W args v W':=by
 have hW':=hW;obtain⟨p,q,hA0,hV,rfl,hfz,hnd⟩:=hW;have hA:DataW.TrodAll enc Tryz.prog W 0 (λ_=>true) true Tryz.f10.params.toList args.toList ds p:=hA0;rw[Tryz.params10] at hA hval;obtain⟨v1,vs1,d1,ds1,p1,q1,hargs,rfl,rfl,h1,r1⟩:=trodAll_cons hA;obtain⟨v2,vs2,d2,ds2,p2,q2,rfl,rfl,rfl,h2,r2⟩:=trodAll_cons r1;obtain⟨v3,vs3,d3,ds3,p3,q3,rfl,rfl,rfl,h3,r3⟩:=trodAll_cons r2;obtain⟨v4,vs4,d4,ds4,p4,q4,rfl,rfl,rfl,h4,r4⟩:=trodAll_cons r3;obtain⟨rfl,rfl,rfl⟩:=trodAll_nil r4;obtain rfl:args=#[v1,v2,v3,v4]:=by cases args;simp_all
 obtain⟨rfl,rfl⟩:=trodVars_none hV;have k1:=h1;have lt1:∀x∈p1,x.block<W.heap.size:=by obtain⟨m,hm⟩:=k1;exact DataW.trod_lt m _ _ _ hm
 obtain⟨D1,rfl,_⟩:=okWide_struct Tryz.underlying24 (hval 0 24 v1 rfl rfl);obtain⟨fuel1,hf1⟩:=h1;obtain⟨Lo,u1,e1,L1,hn1,hr1⟩:=WH hf1;have hD1:D1=#[u1]:=by
  have:D1.toList=[u1]:=by simpa[Value.cells] using e1
  cases D1;simp_all
 subst hD1;have k2:=h2;have lt2:∀x∈p2,x.block<W.heap.size:=by obtain⟨m,hm⟩:=k2;exact DataW.trod_lt m _ _ _ hm
 obtain⟨D2,rfl,_⟩:=okWide_struct Tryz.underlying24 (hval 1 24 v2 rfl rfl);obtain⟨fuel2,hf2⟩:=h2;obtain⟨Lp,u2,e2,L2,hn2,hr2⟩:=WH hf2;have hD2:D2=#[u2]:=by
  have:D2.toList=[u2]:=by simpa[Value.cells] using e2
  cases D2;simp_all
 subst hD2;obtain⟨n3,rfl,rfl,rfl,w3⟩:=open_int Tryz.underlying3 (hval 2 3 v3 rfl rfl) h3;obtain⟨n4,rfl,rfl,rfl,w4⟩:=open_int Tryz.underlying3 (hval 3 3 v4 rfl rfl) h4;clear hA0;refine(QL (k:=true) (adL (maxLen+1) [.v (cI Lo),.v (cI Lp),.i n3,.i n4] true (ajf wok (by decide) (QJ Lo hn1 hr1) (QJ Lp hn2 hr2) n3 n4) (λx hx=>by simp at hx;rcases hx with rfl|rfl<;>rfl) _ rfl) (m:=λb i=>fJ W b i) (λ_ _ _ h=>h) (.cons (.EM (.cons L1 .nil)) (.cons (.EM (.cons L2 .nil)) (.cons (.int _ _) (.cons (.int _ _) .nil))))).mono λe W' ⟨he,fZ⟩=>?_
 subst he;exact⟨_,rfl,_,_,_,[],_,[],hW',trodAll_mk1 (shut_bool Tryz.underlying4 _),(trodAll_cons_mk (Below.trod laidOut (by kernel_rfl) (ny (by kernel_rfl)) k1 fZ lt1) (trodAll_cons_mk (Below.trod laidOut (by kernel_rfl) (ny (by kernel_rfl)) k2 fZ lt2) (trodAll_cons_mk (shut_int Tryz.underlying3 w3) (trodAll_cons_mk (shut_int Tryz.underlying3 w4) trodAll_mk0)))),rfl,Below.frame fZ _,λh=>by cases h⟩
def Jr:Array Qu:=#[.agg #[.slice none 0 0],.agg #[.slice none 0 0],.int .i64 0,.int .i64 0]
def acS:H1 (String×DataW Unit):=Rows.splitOtherRow.laid
theorem aa1(os:Os)(args:Array Qu):laidMetH Tryz.prog acS ((World.doorLaid Tryz.prog 400 os).forCall (λ_ _=>0) ⟨#[],args,[]⟩).memory:=
 laidMetH_of_parts3 (fuel:=8) (laidMet_of_run' 8 (by kernel_rfl) (by kernel_rfl)) (by kernel_rfl) (by kernel_rfl)
theorem aih(os:Os){H:Type}(enc:TypeId×Qu->H):∃places,DataW.whole enc Tryz.prog ((World.doorLaid Tryz.prog 400 os).forCall (λ_ _=>0) ⟨#[],Jr,[]⟩).memory Tryz.f10.params.toList Rows.splitOtherSpec.vars false Jr.toList 8=some ([.agg [.nil],.agg [.nil],.lit (.int .i64 0),.lit (.int .i64 0)],[],places):=
 ⟨[],by kernel_rfl⟩
theorem ada(os:Os)(started:os.Started)(H:Type)(enc:TypeId×Qu->H)(F:Stop.Interp):
 ReturnsInHanded {} Tryz.checked os 10 .any ((OpenSpec.ofChange Rows.splitOtherSpec).preRow enc Tryz.prog Tryz.f10 Rows.splitOtherRow.domain false Rows.splitOtherRow.laid) (((OpenSpec.ofChange Rows.splitOtherSpec).at F).post enc Tryz.prog Tryz.f10 false true false false):=by
 obtain⟨places,hx⟩:=aih os enc;refine returnsInHanded_of_row (C:=Tryz.checked) (s:=OpenSpec.ofChange Rows.splitOtherSpec) own started (by kernel_rfl) Tryz.func10
  (witness_row_atRef (enc:=enc) (C:=Tryz.checked) false (World.doorLaid Tryz.prog 400 os) Jr rfl (by kernel_rfl) (by kernel_rfl) (by kernel_rfl)
   (OpenSpec.preRow_of_cond 8 hx (by kernel_rfl) (λk hk=>by cases hk) (by kernel_rfl) (aa1 os _))) ?_
 intro W base args ds gs before hval hW _ _ _ hL hsh _;exact aaI H enc W base args ds gs before hval hW
end
end Lt
end Go.Proofs.YtcfjfbeadhnknaaGreatDoor

import Derived.Test.YtcfjfbeadhnknaaGreatDoorDF
namespace Go.Proofs.YtcfjfbeadhnknaaGreatDoor
set_option linter.unusedVariables false
set_option linter.unusedSimpArgs false
set_option linter.unusedSectionVars false
set_option linter.constructorNameAsVariable false
set_option maxRecDepth 100000
namespace Lt
def eM(l:qr UInt8):qr H1:=[ag l]
structure Hand(w:Nat):Prop where
 may:∀o ds,ds.length<1000000000->(∀d∈ds,∃(sh:List bg)(s:Nat),cR sh s d=true)->kV ds<=w->wu w o (dc ds)=some true
 set:∀(l:List aL)(x:aL),fR l=true->l.length<2^20->l.length+2<w->(∀t∈l,t.data.length<=1000000000)->x.data.length<=1000000000->Cq w (ar l) x.tag x.ty x.az (ag x.data)=some (ar (ku l x))
 drop:∀(l:List aL)(t:Int),fR l=true->l.length<2^20->l.length+2<w->(∀t∈l,t.data.length<=1000000000)->zc w (ar l) t=some (ar (pw l t))
 cut:∀b:List UInt8,b.length<=65519->CD w (ag b)=some (aB eM (gp b),0)
 cat:∀a b c d:List UInt8,0<a.length->a.length+b.length+c.length+d.length<2^29->ug w (ag a) (ag b) (ag c) (d.map aZ)=some ((d++(a++(b++c))).map aZ)
theorem rR(w:Nat)(l:qr UInt8)(hl:l.length<=1000000000):nV w (ag l)=some (ag l):=by
 unfold nV;by_cases h:l.length=0
 ·have e:Nat.beq l.length 0=true:=by rw[h];rfl
  rw[mO h];rfl
 ·have e:Nat.beq l.length 0=false:=by simp[h]
  unfold Oo F4;rw[im,gZ];have e1:Nat.blt 0 l.length=true:=by simp;omega
  have hn:=nextslicecap_le (need:=0+l.length) (old:=0) (by omega);have e4:(Builtin.nextslicecap (0+l.length) 0).ble 5000000000=true:=by rw[iy];omega
  simp_all;rw[ve _ _ rfl]
theorem Z7(w:Nat)(l:qr aL)(h:l.length≠0)(hl:l.length<=1000000000):Hr w (ar l)=some (l.flatMap cC):=by
 unfold Hr ar;rw[xG gW];have hn:=nextslicecap_le (need:=0+l.length) (old:=0) (by omega);have e4:(Builtin.nextslicecap (0+l.length) 0).ble 5000000000=true:=by rw[iy];omega
 have e5:(l.flatMap cC).length.beq (l.length*4)=true:=by rw[da gW];exact np _
 simp_all
theorem sq{w:Nat}(l:qr aL)(hl:l.length<=100000000)(hd:∀t∈l,t.data.length<=1000000000)(hw:l.length<w):my w (ar l)=some (ar l):=by
 unfold my;rw[(show∀K:Nat->Hx H1,aw (ar l) K=K l.length fromλK=>cd cC l K)];by_cases h:l.length=0
 ·have e:Nat.beq l.length 0=true:=by rw[h];rfl
  rw[mO h];rfl
 have e:Nat.beq l.length 0=false:=by simp[h]
 rw[e];unfold OD;rw[Z7 w l h (by omega)];have hfl:=da gW l;simp only[aA,hfl,ja _ (show 0<4 by decide)];refine gO (ev:=λi (g:Int->Int->qr H1->Hx H1)=>g (l.length:Int) i (l.flatMap cC)) l.length ?_ ?_ hw
 ·intro i g hi;have e1:((i:Int)<(l.length:Int)):=by omega
  have e2:i*4<(l.flatMap cC).length:=by omega
  have e3:0+i*4+1+2+1<=(l.flatMap cC).length:=by omega
  have hdr:(l.flatMap cC).drop (0+i*4+1+2)=ag l[i].data::(l.drop (i+1)).flatMap cC:=by rw[show 0+i*4+1+2=i*4+3 by omega,<-List.drop_drop,nI gW,dk hi];rfl
  simp only[aU,e1,aY,aE,bP,mK,e2,gF,e3];rw[hdr];simp only[aX];rw[rR w _ (hd _ (cA hi))];simp only[aA,aE,Ft,cc];rw[aP (by omega) (by omega)];have hset:(l.flatMap cC).set (0+i*4+1+2) (ag l[i].data)=l.flatMap cC:=by
   have hg:(l.flatMap cC)[0+i*4+1+2]'(by omega)=ag l[i].data:=by have:=dk (l:=l.flatMap cC) (i:=0+i*4+1+2) (by omega);rw[hdr] at this;exact(List.cons.inj this).1.symm
   rw[<-hg];exact List.set_getElem_self _
  rw[hset];rfl
 ·intro g;simp only[aU,(show¬((l.length:Int)<(l.length:Int)) from by omega),bL,aD];unfold ar aB;rw[hfl,ja _ (show 0<4 by decide)]
theorem max_eq{w:Nat}(a:Int)(l:qr Int)(hl:l.length<2^40)(hw:l.length+1<w):Hs w (aB cM (a::l))=some (l.foldl (λm x=>if m<x then x else m) a):=by
 unfold Hs;simp only[aU,bU];refine nN (ev:=λi s (g:H1->Int->Int->Hx Int)=>g (aB cM (a::l)) s ((i+1:Nat):Int)) (Inv:=λi s=>(l.drop i).foldl (λm x=>if m<x then x else m) s=l.foldl (λm x=>if m<x then x else m) a) l.length a (by rfl) ?_ ?_ (by omega)
 ·rintro i g s hi h1
  rw[dk hi] at h1;refine⟨_,h1,?_⟩;simp only[(show∀K:Nat->Hx Int,aw (aB cM (a::l)) K=K (l.length+1) fromλK=>cd cM (a::l) K),(show(((i+1:Nat):Int)<((l.length+1:Nat):Int)) from by omega),bP];rw[bn ma (show i+1<(a::l).length by simp;omega)];simp;rw[aP (by omega) (by omega)];rfl
 simp
theorem RU:∀(l:qr Int)(a:Int),0<l.foldl (λm x=>if m<x then x else m) a↔(0<a\/∃x∈l,0<x)
 |[],a=>by simp
 |b::l,a=>by
  rw[List.foldl_cons,RU l];by_cases h:a<b
  ·rw[ay h];constructor
   ·simp_all
   grind
  grind
theorem Px{w:Nat}(hw:20<=w)(a:Int)(l:qr Int)(hl:l.length<10):yT w (aB cM (a::l))=some (decide (0<a\/∃x∈l,0<x)):=by
 unfold yT;rw[max_eq a l (by omega) (by omega)];simp only[aA,aU]
 congr 1
 rw[iH,cf,cf];exact RU l a
structure jI(x:dF)(m:Nat):Prop where
 rows:q9 x m
 d0:∀t∈x.cn,t.data.length<=m
 d2:∀t∈x.bD,t.data.length<=m
 d3:∀t∈x.bG,t.data.length<=m
 d4:∀t∈x.bj,t.data.length<=m
 d1:∀t∈x.first,t.data.length<=m
 TN:x.bC.length<=m
 th:x.cF.length<=m
theorem XZ{w m:Nat}{x:dF}(h:jI x m)(hm:m<2^26)(hw:m+20<w):
 Co w x.order (ar x.cn) (ar x.bD) (ar x.bG) (ar x.bj) (ar x.first) (ag x.bC) (ag x.cF)=some (iT x):=by
 obtain⟨⟨r0,r2,r3,r4,r1⟩,d0,d2,d3,d4,d1,hmk,hth⟩:=h;have q0:=ri (w:=w) (by omega) 0 x.cn (by omega) (λt ht=>by have:=d0 t ht;omega) (by omega);have q2:=ri (w:=w) (by omega) 2 x.bD (by omega) (λt ht=>by have:=d2 t ht;omega) (by omega);have q3:=ri (w:=w) (by omega) 3 x.bG (by omega) (λt ht=>by have:=d3 t ht;omega) (by omega);have q4:=ri (w:=w) (by omega) 4 x.bj (by omega) (λt ht=>by have:=d4 t ht;omega) (by omega);have q1:=ri (w:=w) (by omega) 1 x.first (by omega) (λt ht=>by have:=d1 t ht;omega) (by omega);have hlr:∀(l:qr aL)(K:Nat->Hx Int),aw (ar l) K=K l.length:=λl K=>cd cC l K;have hs:=Px (w:=w) (by omega) (x.cn.length:Int) [(x.bD.length:Int),(x.bG.length:Int),(x.bj.length:Int),(x.bC.length:Int)] (by simp);have e:aB cM [(x.cn.length:Int),(x.bD.length:Int),(x.bG.length:Int),(x.bj.length:Int),(x.bC.length:Int)]=ae 5 (List.drop 0 [Value.int IntKind.i64 (Int.ofNat x.cn.length),Value.int IntKind.i64 (Int.ofNat x.bD.length),Value.int IntKind.i64 (Int.ofNat x.bG.length),Value.int IntKind.i64 (Int.ofNat x.bj.length),Value.int IntKind.i64 (Int.ofNat x.bC.length)]):=rfl;rw[e] at hs;have hany:(decide ((0:Int)<(x.cn.length:Int)\/∃y∈[(x.bD.length:Int),(x.bG.length:Int),(x.bj.length:Int),(x.bC.length:Int)],0<y))=!decide (x.cn.length=0/\x.bD.length=0/\x.bG.length=0/\x.bj.length=0/\x.bC.length=0):=by rw[iH,cf,uI,gJ];simp only[cZ,nk,nr,exists_eq_or_imp,exists_eq_left];omega
 rw[hany] at hs;simp only[bU] at hs;have h95:zm w x.order (ar x.cn) (ar x.bD) (ar x.bG) (ar x.bj) (ar x.first) (ag x.bC) (ag x.cF)=some (0,ar x.cn,2,ar x.bD,3,ar x.bG,4,ar x.bj,1,ar x.first):=rfl;unfold Co iT Nw;simp only[h95,aA,q0,q2,q3,q4,q1,hlr,cI,hs,cj,aU,bU];have fin:(bif !db 0 x.cn then some (6:Int) else bif !db 2 x.bD then some 6 else bif !db 3 x.bG then some 6 else bif !db 4 x.bj then some 6 else bif !db 1 x.first then some 6 else bif decide ((65536:Int)<(x.bC.length:Int)) then some 6 else bif !(!decide (x.cn.length=0/\x.bD.length=0/\x.bG.length=0/\x.bj.length=0/\x.bC.length=0)) then some 6 else some 0)=
  some (if(db 0 x.cn&&(db 2 x.bD&&(db 3 x.bG&&(db 4 x.bj&&db 1 x.first))))=false then 6 else if 65536<x.bC.length\/(x.cn.length=0/\x.bD.length=0/\x.bG.length=0/\x.bj.length=0/\x.bC.length=0) then 6 else 0):=by
  cases db 0 x.cn<;>cases db 2 x.bD<;>cases db 3 x.bG<;>cases db 4 x.bj<;>cases db 1 x.first<;>try rfl
  simp_all;by_cases c1:65536<x.bC.length
  ·rw[ay (by omega),ay (.inl c1)]
  ·rw[aq (by omega)];by_cases c2:(x.cn.length=0/\x.bD.length=0/\x.bG.length=0/\x.bj.length=0/\x.bC.length=0)<;>grind
 by_cases o1:x.order=1
 ·have:¬¬(x.order=1\/x.order=2):=by omega
  rw[aq this];simp only[o1,aY,bH,aD,hs,aA];exact fin
 ·by_cases o2:x.order=2
  ·have:¬¬(x.order=1\/x.order=2):=by omega
   rw[aq this];simp only[o2,show decide ((2:Int)=1)=false from rfl,gj,aE,aY,bH,aD,hs,aA];exact fin
  ·have:¬(x.order=1\/x.order=2):=by omega
   rw[ay this];simp only[o1,o2,bL,gj,aE]
theorem ac7(w:Nat)(b:qr UInt8)(hb:b.length<=1000000000):Ht w (ag b)=some ((jQ b).tag,(jQ b).ty,(jQ b).az,ag (jQ b).data):=by unfold Ht;rw[rR w b hb];rfl
theorem akf{w m:Nat}(A:Hand w){x:dF}(h:jI x m)(hm:m<=70000)(hw:m+20<w)(hp:fR x.bD=true)(a b c d:H1)(o:Int):
 Hf w o a (ar x.bD) b (ar x.bj) c (ag x.bC) d=some (dT (jV x),dS (jV x),dB (jV x)):=by
 obtain⟨⟨r0,r2,r3,r4,r1⟩,d0,d2,d3,d4,d1,hmk,hth⟩:=h;have q4:=sq (w:=w) x.bj (by omega) (λt ht=>by have:=d4 t ht;omega) (by omega);have hs:=A.set x.bD (jQ x.bC) hp (by omega) (by omega) (λt ht=>by have:=d2 t ht;omega) (by show x.bC.length<=_;omega);have hlr:∀(l:qr aL)(K:Nat->Hx (H1×H1×H1)),aw (ar l) K=K l.length:=λl K=>cd cC l K;unfold Hf ND;rw[(sq (w:=w) x.bD (by omega) (λt ht=>by have:=d2 t ht;omega) (by omega))];simp only[cI,hlr,aU,bU];unfold jV;by_cases a1:x.bC.length=0
 ·have e1:¬((0:Int)<(x.bC.length:Int)):=by omega
  simp only[e1,aD,ay a1];by_cases a2:x.bj.length=0
  ·have e2:¬((0:Int)<(x.bj.length:Int)):=by omega
   simp only[e2,aD,ay a2];rfl
  ·have e2:((0:Int)<(x.bj.length:Int)):=by omega
   simp only[e2,aE,aq a2,q4,aA];rfl
 ·have e1:((0:Int)<(x.bC.length:Int)):=by omega
  simp only[e1,aE,aq a1];rw[ac7 w _ (by omega)];simp only[aA];rw[hs];by_cases a2:x.bj.length=0
  ·have e2:¬((0:Int)<(x.bj.length:Int)):=by omega
   simp only[e2,aD,ay a2];rfl
  ·have e2:((0:Int)<(x.bj.length:Int)):=by omega
   simp only[e2,aE,aq a2,q4,aA];rfl
theorem als{w:Nat}(hw:10<=w):pO w (ae 0 [])=some ():=by obtain⟨v,rfl⟩:=wV hw;rfl
theorem alu{w:Nat}(hw:10<=w)(t:Int)(a b c:H1):pO w (ae 1 [.int .i64 t,a,b,c])=some ():=by obtain⟨v,rfl⟩:=wV hw;rfl
theorem alv{w:Nat}(hw:10<=w)(a b c d e f:H1):pO w (ae 2 [.int .i64 34665,a,b,c,.int .i64 34853,d,e,f])=some ():=by obtain⟨v,rfl⟩:=wV hw;rfl
set_option maxHeartbeats 1000000 in
theorem XN{w m:Nat}(A:Hand w){x:dF}(h:jI x m)(hm:m<=70000)(hw:m+20<w):
 Cf w x.order (ar x.cn) (ar x.bD) (ar x.bG) (ar x.bj) (ar x.first) (ag x.bC) (ag x.cF)=some (if iT x=0 then(x.order,dc (fj x).dJ,0) else(0,ae 0 [],iT x)):=by
 unfold Cf BJ qy qz qA;rw[XZ h (by omega) hw];simp only[aA,cj];by_cases hc:iT x=0
 case neg=>rw[aq hc];simp only[hc,bL,gj,aE]
 rw[ay hc];simp only[hc,aY,bH,aD];have hp:=(yq (tw hc).2.2.1).1;have q196:=λa b c d o=>akf A h hm hw hp a b c d o;obtain⟨⟨r0,r2,r3,r4,r1⟩,d0,d2,d3,d4,d1,hmk,hth⟩:=h;have q0:=sq (w:=w) x.cn (by omega) (λt ht=>by have:=d0 t ht;omega) (by omega);have q3:=sq (w:=w) x.bG (by omega) (λt ht=>by have:=d3 t ht;omega) (by omega);have q1:=sq (w:=w) x.first (by omega) (λt ht=>by have:=d1 t ht;omega) (by omega);have qt:=rR w x.cF (by omega);have hlr:∀(l:qr aL)(K:Nat->Hx (Int×H1×Int)),aw (ar l) K=K l.length:=λl K=>cd cC l K;have s3:=Px (w:=w) (by omega) (x.bD.length:Int) [(x.bj.length:Int),(x.bC.length:Int)] (by simp);have e3:aB cM [(x.bD.length:Int),(x.bj.length:Int),(x.bC.length:Int)]=ae 3 (List.drop 0 [Value.int IntKind.i64 (Int.ofNat x.bD.length),Value.int IntKind.i64 (Int.ofNat x.bj.length),Value.int IntKind.i64 (Int.ofNat x.bC.length)]):=rfl;have a3:(decide ((0:Int)<(x.bD.length:Int)\/∃y∈[(x.bj.length:Int),(x.bC.length:Int)],0<y))=!decide (x.bD.length=0/\x.bj.length=0/\x.bC.length=0):=by rw[iH,cf,uI,gJ];simp only[cZ,nk,nr,exists_eq_or_imp,exists_eq_left];omega
 rw[e3,a3] at s3;have s2:=Px (w:=w) (by omega) (x.first.length:Int) [(x.cF.length:Int)] (by simp);have e2:aB cM [(x.first.length:Int),(x.cF.length:Int)]=ae 2 (List.drop 0 [Value.int IntKind.i64 (Int.ofNat x.first.length),Value.int IntKind.i64 (Int.ofNat x.cF.length)]):=rfl;have a2:(decide ((0:Int)<(x.first.length:Int)\/∃y∈[(x.cF.length:Int)],0<y))=!decide (x.first.length=0/\x.cF.length=0):=by rw[iH,cf,uI,gJ];simp only[cZ,nk,nr,exists_eq_left];omega
 rw[e2,a2] at s2;have n0:=als (w:=w) (by omega);have n1:=λt a b c=>alu (w:=w) (by omega) t a b c;have n2:=λa b c d e f=>alv (w:=w) (by omega) a b c d e f;simp only[ew,bU] at s2 s3;simp only[q0,q3,q1,qt,q196,aA,hlr,cI,s3,s2,ew,oa,oZ,ec,eK,bW,List.length_nil,Nat.reduceAdd,Nat.reduceDiv,n0,n1,n2,aU,bU];unfold fj jT nJ;by_cases c1:x.bD.length=0/\x.bj.length=0/\x.bC.length=0
 ·rw[eY c1];by_cases c2:x.bG.length=0
  ·have f2:¬((0:Int)<(x.bG.length:Int)):=by omega
   by_cases c3:x.first.length=0/\x.cF.length=0
   ·rw[eY c3];simp only[f2,bL,bH,aD,ay c1,ay c2,ay c3];rfl
   ·rw[fI c3];simp only[f2,bL,bH,gj,aE,aD,ay c1,ay c2,aq c3];rfl
  ·have f2:((0:Int)<(x.bG.length:Int)):=by omega
   by_cases c3:x.first.length=0/\x.cF.length=0
   ·rw[eY c3];simp only[f2,aY,bH,aE,aD,ay c1,aq c2,ay c3];rfl
   ·rw[fI c3];simp only[f2,aY,bH,gj,aE,aD,ay c1,aq c2,aq c3];rfl
 ·rw[fI c1];have tk:∀r:cP,gR (.cons 34665 (jV x) r)=.int .i64 34665::dT (jV x)::dS (jV x)::dB (jV x)::gR r:=by
   intro r;show Value.int .i64 34665::(dw (jV x)++gR r)=_;rw[qk];rfl
  have td:∀(t:qr aL)(r:cP)(b:qr UInt8),dw (.mk t r b)=[ar t,ae (cm r) (gR r),ag b]:=λ_ _ _=>rfl;by_cases c2:x.bG.length=0
  ·have f2:¬((0:Int)<(x.bG.length:Int)):=by omega
   by_cases c3:x.first.length=0/\x.cF.length=0
   ·rw[eY c3];simp only[f2,bL,bH,gj,aE,aD,aq c1,ay c2,ay c3];unfold dc aB;simp only[dN,lH,td,tk];rfl
   ·rw[fI c3];simp only[f2,bL,bH,gj,aE,aD,aq c1,ay c2,aq c3];unfold dc aB;simp only[dN,lH,td,tk];rfl
  ·have f2:((0:Int)<(x.bG.length:Int)):=by omega
   by_cases c3:x.first.length=0/\x.cF.length=0
   ·rw[eY c3];simp only[f2,aY,bH,gj,aE,aD,aq c1,aq c2,ay c3];unfold dc aB;simp only[dN,lH,td,tk];rfl
   ·rw[fI c3];simp only[f2,aY,bH,gj,aE,aD,aq c1,aq c2,aq c3];unfold dc aB;simp only[dN,lH,td,tk];rfl
noncomputable section
def Gn(w:Nat):H1->Int->Int->Hx (H1×Bool):=λa b c=>aw a λd=>lp (α:=H1->Int->Int->Int->H1->Int->Int->qr H1->Hx (H1×Bool)) (λ_ _ _ _ _ _ _ _=>none) (λm n o p q r s t u=>bif ak t s then aF t λv=>aJ 5 v r λy=>af y λz a0=>au .i64 z λa1=>af a0 λa2 a3=>au .i64 a2 λa4=>af a3 λa5 a6=>au .i64 a5 λa7=>af a6 λa8 a9=>au .i64 a8 λb0=>af a9 λb1 b2=>au .i64 b1 λb3=>bif ak 0 t then bif !aj (ah .i64 (a7.add o)) q then some (ae 0 [],false) else bif ak a4 1 then some (ae 0 [],false) else bif ak (ah .i64 (p.sub q)) a4 then some (ae 0 [],false) else bif aH u.length&&(aH ([Value.int .i64 (ah .i64 (a7.add o))].length/1)&&[Value.int .i64 (ah .i64 (a7.add o))].length.beq ([Value.int .i64 (ah .i64 (a7.add o))].length/1*1)) then m n o p (ah .i64 (q.add a4)) r s (ah .i64 (t.add 1)) (u++[Value.int .i64 (ah .i64 (a7.add o))]) else none else bif !aj a7 q then some (ae 0 [],false) else bif ak a4 1 then some (ae 0 [],false) else bif ak (ah .i64 (p.sub q)) a4 then some (ae 0 [],false) else bif aH u.length&&(aH ([Value.int .i64 a7].length/1)&&[Value.int .i64 a7].length.beq ([Value.int .i64 a7].length/1*1)) then m n o p (ah .i64 (q.add a4)) r s (ah .i64 (t.add 1)) (u++[Value.int .i64 a7]) else none else aw n λb4=>bif aj (Int.ofNat b4) 0 then some (ae 0 [],false) else bif !aj q p then some (ae 0 [],false) else bif aH u.length&&(aH ([Value.int .i64 q].length/1)&&[Value.int .i64 q].length.beq ([Value.int .i64 q].length/1*1)) then some (ae ((u++[Value.int .i64 q]).length/1) (u++[Value.int .i64 q]),true) else none) w a b c 0 a (Int.ofNat d) 0 []
def Cb(w:Nat):Int->Int->H1->Int->H1->H1->H1->qr H1->qr H1->Hx (Int×H1×Int×H1×H1×H1×qr H1×qr H1):=λa b c d e f g h i=>aw c λj=>aF b λk=>aF b λl=>aF a λm=>bif k.ble j&&(l.ble k&&m.ble l) then gL 1 m l c λn=>ob (uo w n) λo=>bif !aj o.2.2.2.2.2.2.2.2.2.2.2.2.2 0 then some (o.2.2.2.2.2.2.2.2.2.2.2.2.2,c,d,e,f,g,h,i) else bif aH i.length&&(aH 1&&(List.take 13 (List.drop 0 [Value.int .i64 o.1,o.2.1,o.2.2.1,o.2.2.2.1,o.2.2.2.2.1,o.2.2.2.2.2.1,o.2.2.2.2.2.2.1,o.2.2.2.2.2.2.2.1,o.2.2.2.2.2.2.2.2.1,o.2.2.2.2.2.2.2.2.2.1,o.2.2.2.2.2.2.2.2.2.2.1,Value.int .i64 o.2.2.2.2.2.2.2.2.2.2.2.1,Value.int .i64 o.2.2.2.2.2.2.2.2.2.2.2.2.1])).length.beq 13) then some (0,c,d,e,f,g,h,i++List.take 13 (List.drop 0 [Value.int .i64 o.1,o.2.1,o.2.2.1,o.2.2.2.1,o.2.2.2.2.1,o.2.2.2.2.2.1,o.2.2.2.2.2.2.1,o.2.2.2.2.2.2.2.1,o.2.2.2.2.2.2.2.2.1,o.2.2.2.2.2.2.2.2.2.1,o.2.2.2.2.2.2.2.2.2.2.1,Value.int .i64 o.2.2.2.2.2.2.2.2.2.2.2.1,Value.int .i64 o.2.2.2.2.2.2.2.2.2.2.2.2.1])) else none else none
def GG(w:Nat):H1->Int->H1->H1->H1->qr H1->qr H1->Hx (Int×H1×Int×H1×H1×H1×qr H1×qr H1):=λa b c d e f g=>aw a λh=>bif ak 4294967295 (Int.ofNat h) then some (7,a,b,c,d,e,f,g) else aw a λi=>ob (Cb w 0 (Int.ofNat i) a b c d e f g) λj=>some (j.1,j.2.1,j.2.2.1,j.2.2.2.1,j.2.2.2.2.1,j.2.2.2.2.2.1,j.2.2.2.2.2.2.1,j.2.2.2.2.2.2.2)
def yM(E:H1->H1->Hx (Int×H1×Int×H1×H1×H1×qr H1×qr H1)->Hx (Int×H1×Int×H1×H1×H1×qr H1×qr H1))(w:Nat):H1->Int->H1->H1->H1->qr H1->qr H1->Hx (Int×H1×Int×H1×H1×H1×qr H1×qr H1):=λa b c d e f g=>bif Nat.beq 13 13&&Nat.blt 0 g.length then af (List.drop 0 g) λh i=>au .i64 h λj=>af i λk l=>af l λm n=>af n λo p=>af p λq r=>af r λs t=>af t λu v=>af v λy z=>af z λa0 a1=>af a1 λa2 a3=>af a3 λa4 a5=>af a5 λa6 a7=>au .i64 a6 λa8=>af a7 λa9 b0=>au .i64 a9 λb1=>aw a λb2=>aw a4 λb3=>bif ak 0 (Int.ofNat b3) then ob (uv w a4) λb4=>bif !aj b4.2.2.2 0 then some (b4.2.2.2,a,b,ae 2 (List.drop 0 [Value.int .i64 0,Value.int .i64 (Int.ofNat b2)]),ae 1 (List.drop 0 (rep 1 (Value.agg #[Value.int .i64 0,Value.int .i64 0,Value.int .i64 0,Value.int .i64 0,Value.int .i64 0]).cells.toList)),e,f,g) else aw a λb5=>ob (Gn w b4.2.1 (ah .i64 (a8.add 4)) (Int.ofNat b5)) λb6=>bif !b6.2 then some (4,a,b,ae 2 (List.drop 0 [Value.int .i64 0,Value.int .i64 (Int.ofNat b2)]),ae 1 (List.drop 0 (rep 1 (Value.agg #[Value.int .i64 0,Value.int .i64 0,Value.int .i64 0,Value.int .i64 0,Value.int .i64 0]).cells.toList)),e,f,g) else E b4.2.2.1 b4.2.2.1 (E b4.2.1 b4.2.1 (E b4.2.2.1 b4.2.2.1 (aJ 1 1 b6.1 λb7=>af b7 λb8 b9=>au .i64 b8 λc0=>bif !aj b1 c0 then some (2,a,b,b6.1,b4.2.1,b4.2.2.1,f,g) else some (0,a,b,b6.1,b4.2.1,b4.2.2.1,f,g)))) else bif !aj b1 (Int.ofNat b2) then some (2,a,b,ae 2 (List.drop 0 [Value.int .i64 0,Value.int .i64 (Int.ofNat b2)]),ae 1 (List.drop 0 (rep 1 (Value.agg #[Value.int .i64 0,Value.int .i64 0,Value.int .i64 0,Value.int .i64 0,Value.int .i64 0]).cells.toList)),e,f,g) else some (0,a,b,ae 2 (List.drop 0 [Value.int .i64 0,Value.int .i64 (Int.ofNat b2)]),ae 1 (List.drop 0 (rep 1 (Value.agg #[Value.int .i64 0,Value.int .i64 0,Value.int .i64 0,Value.int .i64 0,Value.int .i64 0]).cells.toList)),e,f,g) else none
def sL(w:Nat):H1->Int->H1->H1->H1->qr H1->qr H1->Hx (Int×H1×Int×H1×H1×H1×qr H1×qr H1):=yM (λ_ _ r=>r) w
def Cc(E:H1->H1->Hx (H1×Int×H1×H1×H1×qr H1×qr H1)->Hx (H1×Int×H1×H1×H1×qr H1×qr H1))(w:Nat):Int->H1->H1->Int->H1->H1->H1->qr H1->qr H1->Hx (H1×Int×H1×H1×H1×qr H1×qr H1):=λa b c d e f g h i=>aF a λj=>bif Nat.beq 13 13&&(j*13).blt i.length then af (List.drop (0+j*13) i) λk l=>au .i64 k λm=>af l λn o=>af o λp q=>af q λr s=>af s λt u=>af u λv y=>af y λz a0=>af a0 λa1 a2=>af a2 λa3 a4=>af a4 λa5 a6=>af a6 λa7 a8=>af a8 λa9 b0=>au .i64 a9 λb1=>af b0 λb2 b3=>au .i64 b2 λb4=>aF a λb5=>aJ 5 b5 f λb6=>af b6 λb7 b8=>au .i64 b7 λb9=>af b8 λc0 c1=>au .i64 c0 λc2=>af c1 λc3 c4=>au .i64 c3 λc5=>af c4 λc6 c7=>au .i64 c6 λc8=>af c7 λc9 d0=>au .i64 c9 λd1=>E f f (bif aH h.length&&(aH 1&&(List.take 14 (List.drop 0 [Value.int .i64 m,n,p,r,t,v,z,a1,a3,a5,Value.int .i64 b9,Value.int .i64 c8,Value.int .i64 d1,b])).length.beq 14) then some (c,d,e,f,g,h++List.take 14 (List.drop 0 [Value.int .i64 m,n,p,r,t,v,z,a1,a3,a5,Value.int .i64 b9,Value.int .i64 c8,Value.int .i64 d1,b]),i) else none) else none
def rj(w:Nat):Int->H1->H1->Int->H1->H1->H1->qr H1->qr H1->Hx (H1×Int×H1×H1×H1×qr H1×qr H1):=Cc (λ_ _ r=>r) w
def GN(w:Nat):H1->Hx (Int×H1×Int):=λa=>ob (yP w) λb=>ob (rn w a b) λc=>bif !aj c.2.2.2 0 then some (0,ae 0 [],c.2.2.2) else aJ 3 0 c.2.1 λd=>af (List.drop 0 d) λe f=>ob (nU w 5 e) λg=>bif !g then some (0,ae 0 [],6) else aJ 3 0 c.2.1 λh=>af (List.drop 0 h) λi j=>some (c.1,i,0)
def GH(w:Nat):H1->Int->H1->H1->H1->qr H1->qr H1->Hx (Int×H1×Int×H1×H1×H1×qr H1×qr H1):=λa b c d e f g=>ob (rj w 0 e a b c d e f g) λh=>lp (α:=Int->H1->Int->H1->H1->H1->qr H1->qr H1->Hx (Int×H1×Int×H1×H1×H1×qr H1×qr H1)) (λ_ _ _ _ _ _ _ _=>none) (λq r s t u v y z a0=>aw v λa1=>bif ak r (Int.ofNat a1) then aF r λa2=>aJ 1 a2 u λa3=>af a3 λa4 a5=>au .i64 a4 λa6=>aF (ah .i64 (r.add 1)) λa7=>aJ 1 a7 u λa8=>af a8 λa9 b0=>au .i64 a9 λb1=>ob (Cb w a6 b1 s r u v y z a0) λb2=>bif !aj b2.1 0 then some (b2.1,b2.2.1,b2.2.2.1,b2.2.2.2.1,b2.2.2.2.2.1,b2.2.2.2.2.2.1,b2.2.2.2.2.2.2.1,b2.2.2.2.2.2.2.2) else aF r λb3=>bif Nat.beq 13 13&&(b3*13).blt (List.length b2.2.2.2.2.2.2.2) then af (List.drop (0+b3*13) b2.2.2.2.2.2.2.2) λb4 b5=>au .i64 b4 λb6=>af b5 λb7 b8=>af b8 λb9 c0=>af c0 λc1 c2=>af c2 λc3 c4=>af c4 λc5 c6=>af c6 λc7 c8=>af c8 λc9 d0=>af d0 λd1 d2=>af d2 λd3 d4=>af d4 λd5 d6=>af d6 λd7 d8=>au .i64 d7 λd9=>af d8 λe0 e1=>au .i64 e0 λe2=>aF (ah .i64 (r.add 1)) λe3=>aJ 1 e3 b2.2.2.2.1 λe4=>af e4 λe5 e6=>au .i64 e5 λe7=>aF r λe8=>aJ 1 e8 b2.2.2.2.1 λe9=>af e9 λf0 f1=>au .i64 f0 λf2=>bif !aj e2 (ah .i64 (e7.sub f2)) then some (2,b2.2.1,b2.2.2.1,b2.2.2.2.1,b2.2.2.2.2.1,b2.2.2.2.2.2.1,b2.2.2.2.2.2.2.1,b2.2.2.2.2.2.2.2) else aw d5 λf3=>bif ak 0 (Int.ofNat f3) then ob (GN w d5) λf4=>bif !aj f4.2.2 0 then some (f4.2.2,b2.2.1,b2.2.2.1,b2.2.2.2.1,b2.2.2.2.2.1,b2.2.2.2.2.2.1,b2.2.2.2.2.2.2.1,b2.2.2.2.2.2.2.2) else ob (rj w r f4.2.1 b2.2.1 b2.2.2.1 b2.2.2.2.1 b2.2.2.2.2.1 b2.2.2.2.2.2.1 b2.2.2.2.2.2.2.1 b2.2.2.2.2.2.2.2) λf5=>q (ah .i64 (r.add 1)) f5.1 f5.2.1 f5.2.2.1 f5.2.2.2.1 f5.2.2.2.2.1 f5.2.2.2.2.2.1 f5.2.2.2.2.2.2 else ob (rj w r (ae 0 []) b2.2.1 b2.2.2.1 b2.2.2.2.1 b2.2.2.2.2.1 b2.2.2.2.2.2.1 b2.2.2.2.2.2.2.1 b2.2.2.2.2.2.2.2) λf6=>q (ah .i64 (r.add 1)) f6.1 f6.2.1 f6.2.2.1 f6.2.2.2.1 f6.2.2.2.2.1 f6.2.2.2.2.2.1 f6.2.2.2.2.2.2 else none else some (0,s,t,u,v,y,z,a0)) w 1 h.1 h.2.1 h.2.2.1 h.2.2.2.1 h.2.2.2.2.1 h.2.2.2.2.2.1 h.2.2.2.2.2.2
def GI(w:Nat):H1->Int->H1->H1->H1->qr H1->qr H1->Hx (Int×H1×Int×H1×H1×H1×qr H1×qr H1):=λa b c d e f g=>ob (CL w (ae (f.length/14) f)) λh=>ob (yO w (ae (f.length/14) f)) λi=>some (i,a,h.2,c,d,e,f,g)
def BZ(w:Nat):H1->Hx (Int×H1×Int×H1×H1×H1×qr H1×qr H1):=λa=>ob (GG w a 0 (ae 0 []) (ae 0 []) (ae 0 []) [] []) λb=>bif !aj b.1 0 then some (b.1,b.2.1,b.2.2.1,b.2.2.2.1,b.2.2.2.2.1,b.2.2.2.2.2.1,b.2.2.2.2.2.2.1,b.2.2.2.2.2.2.2) else ob (sL w b.2.1 b.2.2.1 b.2.2.2.1 b.2.2.2.2.1 b.2.2.2.2.2.1 b.2.2.2.2.2.2.1 b.2.2.2.2.2.2.2) λc=>bif !aj c.1 0 then some (c.1,c.2.1,c.2.2.1,c.2.2.2.1,c.2.2.2.2.1,c.2.2.2.2.2.1,c.2.2.2.2.2.2.1,c.2.2.2.2.2.2.2) else ob (GH w c.2.1 c.2.2.1 c.2.2.2.1 c.2.2.2.2.1 c.2.2.2.2.2.1 c.2.2.2.2.2.2.1 c.2.2.2.2.2.2.2) λd=>bif !aj d.1 0 then some (d.1,d.2.1,d.2.2.1,d.2.2.2.1,d.2.2.2.2.1,d.2.2.2.2.2.1,d.2.2.2.2.2.2.1,d.2.2.2.2.2.2.2) else ob (GI w d.2.1 d.2.2.1 d.2.2.2.1 d.2.2.2.2.1 d.2.2.2.2.2.1 d.2.2.2.2.2.2.1 d.2.2.2.2.2.2.2) λe=>bif !aj e.1 0 then some (e.1,e.2.1,e.2.2.1,e.2.2.2.1,e.2.2.2.2.1,e.2.2.2.2.2.1,e.2.2.2.2.2.2.1,e.2.2.2.2.2.2.2) else some (0,e.2.1,e.2.2.1,e.2.2.2.1,e.2.2.2.2.1,e.2.2.2.2.2.1,e.2.2.2.2.2.2.1,e.2.2.2.2.2.2.2)
def uc(w:Nat):H1->Hx (H1×Int×Int):=λa=>ob (BZ w a) λb=>bif !aj b.1 0 then bif aj b.2.2.1 b.2.2.1 then some (ae 0 [],b.2.2.1,b.1) else none else some (ae (List.length b.2.2.2.2.2.2.1 /14) b.2.2.2.2.2.2.1,0,0)
def XF(w:Nat):Int->Int->Int->H1->Int->Int->Int->H1->Hx (Bool):=λa b c d e f g h=>bif aj a e then ob (Ie w b c d f g h) λi=>some i else some false
def Pg(w:Nat):H1->H1->Hx (Bool):=λa b=>aw a λc=>aw b λd=>bif !aj (Int.ofNat c) (Int.ofNat d) then some false else aw a λe=>lp (α:=H1->H1->Int->Int->Hx Bool) (λ_ _ _ _=>none) (λj k l m n=>bif ak n m then aF n λo=>aJ 4 o l λp=>af p λq r=>au .i64 q λs=>af r λt u=>au .i64 t λv=>af u λy z=>au .i64 y λa0=>af z λa1 a2=>aF n λa3=>aJ 4 a3 k λa4=>af a4 λa5 a6=>au .i64 a5 λa7=>af a6 λa8 a9=>au .i64 a8 λb0=>af a9 λb1 b2=>au .i64 b1 λb3=>af b2 λb4 b5=>ob (XF w s v a0 a1 a7 b0 b3 b4) λb6=>bif !b6 then some false else j k l m (ah .i64 (n.add 1)) else some true) w b a (Int.ofNat e) 0
def Gw(w:Nat):Int->H1->H1->H1->H1->H1->H1->H1->H1->H1->Int->Int->Int->H1->Int->H1->H1->H1->H1->H1->H1->H1->H1->H1->Int->Int->Int->H1->Hx (Bool):=λa b c d e f g h i j k l m n o p q r s t u v y z a0 a1 a2 a3=>ob (Ig w a b c d e f g h o p q r s t u v) λa4=>bif a4 then ob (sQ w i y) λa5=>bif a5 then ob (sQ w j z) λa6=>bif a6 then bif aj k a0 then bif aj l a1 then bif aj m a2 then ob (Pg w n a3) λa7=>some a7 else some false else some false else some false else some false else some false else some false
def N0(w:Nat):H1->H1->Hx (Bool):=λa b=>aw a λc=>aw b λd=>bif !aj (Int.ofNat c) (Int.ofNat d) then some false else aw a λe=>lp (α:=H1->H1->Int->Int->Hx Bool) (λ_ _ _ _=>none) (λj k l m n=>bif ak n m then aF n λo=>aJ 14 o l λp=>af p λq r=>au .i64 q λs=>af r λt u=>af u λv y=>af y λz a0=>af a0 λa1 a2=>af a2 λa3 a4=>af a4 λa5 a6=>af a6 λa7 a8=>af a8 λa9 b0=>af b0 λb1 b2=>af b2 λb3 b4=>au .i64 b3 λb5=>af b4 λb6 b7=>au .i64 b6 λb8=>af b7 λb9 c0=>au .i64 b9 λc1=>af c0 λc2 c3=>aF n λc4=>aJ 14 c4 k λc5=>af c5 λc6 c7=>au .i64 c6 λc8=>af c7 λc9 d0=>af d0 λd1 d2=>af d2 λd3 d4=>af d4 λd5 d6=>af d6 λd7 d8=>af d8 λd9 e0=>af e0 λe1 e2=>af e2 λe3 e4=>af e4 λe5 e6=>af e6 λe7 e8=>au .i64 e7 λe9=>af e8 λf0 f1=>au .i64 f0 λf2=>af f1 λf3 f4=>au .i64 f3 λf5=>af f4 λf6 f7=>ob (Gw w s t v z a1 a3 a5 a7 a9 b1 b5 b8 c1 c2 c8 c9 d1 d3 d5 d7 d9 e1 e3 e5 e9 f2 f5 f6) λf8=>bif !f8 then some false else j k l m (ah .i64 (n.add 1)) else some true) w b a (Int.ofNat e) 0
def Gp(w:Nat):H1->H1->Hx (Bool):=λa b=>ob (N0 w a b) λc=>some c
end
noncomputable section
def GF(w:Nat):H1->Hx (Int×Bool):=λa=>ob (uv w a) λb=>bif !aj b.2.2.2 0 then some (0,false) else ob (uy w) λc=>ob (rn w a c) λd=>aw d.2.2.1 λe=>lp (α:=H1->Int->Int->Hx (Int×Bool)) (λ_ _ _=>none) (λi j k l=>bif ak l k then aF l λm=>aJ 5 m j λn=>af n λo p=>au .i64 o λq=>af p λr s=>au .i64 r λt=>af s λu v=>au .i64 u λy=>af v λz a0=>au .i64 z λa1=>af a0 λa2 a3=>au .i64 a2 λa4=>bif aj q 3 then bif aj t 0 then bif aj y 45058 then some (ah .i64 (Int.add 4 a1),true) else i j k (ah .i64 (l.add 1)) else i j k (ah .i64 (l.add 1)) else i j k (ah .i64 (l.add 1)) else some (0,false)) w d.2.2.1 (Int.ofNat e) 0
def Gu(w:Nat):H1->Int->Int->Int->Int->Int->Int->Hx (H1×Bool):=λa b c d e f g=>ob (uv w a) λh=>bif !aj h.2.2.2 0 then some (ae 0 [],false) else bif ak b 0 then some (ae 0 [],false) else aw h.2.1 λi=>bif !ak b (Int.ofNat i) then some (ae 0 [],false) else ob (Ci w c d e f g h.1) λj=>ob (GF w a) λk=>bif !j.2 then some (ae 0 [],false) else bif !k.2 then some (ae 0 [],false) else aw a λl=>bif Nat.blt 0 1&&Nat.beq 1 1&&Nat.ble 1 10000&&(l.ble l&&l.ble 1000000000) then dQ 1 a λm n=>bif n.length.beq (m*1)&&(0+m.min l*1).ble (rep l (Value.int .u8 0).cells.toList,5).1.length then aF (ah .i64 (Int.add k.1 (ah .i64 (Int.mul 16 b)))) λo=>bif l.ble l&&o.ble l then dQ 1 j.1 λp q=>bif q.length.beq (p*1)&&((bif l.beq o then 0 else 0+o*1)+p.min (l -o)*1).ble (aW 0 (List.take (m.min l*1) n) (rep l (Value.int .u8 0).cells.toList,5).1,5).1.length then some (ae l (List.drop 0 (aW (bif l.beq o then 0 else 0+o*1) (List.take (p.min (l -o)*1) q) (aW 0 (List.take (m.min l*1) n) (rep l (Value.int .u8 0).cells.toList,5).1,5).1)),true) else none else none else none else none
def sJ(w:Nat):H1->Int->Hx (Int×Bool):=λa b=>bif ak b 0 then some (0,false) else aw a λc=>bif ak (Int.ofNat c) b then some (0,false) else aw a λd=>aF b λe=>bif d.ble d&&e.ble d then gL 1 e d a λf=>ob (wD w f) λg=>bif !aj g.2.2.2 0 then some (0,false) else some (ah .i64 (b.add g.2.1),true) else none
def Gl(w:Nat):H1->Hx (H1×Int):=findF w (sJ w)
def Gm(w:Nat):H1->Hx (H1×Int):=λa=>ob (Gl w a) λb=>bif !aj b.2 0 then some (ae 0 [],b.2) else ob (uo w a) λc=>bif !aj c.2.2.2.2.2.2.2.2.2.2.2.2.2 0 then some (ae 0 [],c.2.2.2.2.2.2.2.2.2.2.2.2.2) else ob (uv w c.2.2.2.2.2.2.2.2.2.2.1) λd=>bif !aj d.2.2.2 0 then some (ae 0 [],d.2.2.2) else aw b.1 λe=>bif e.ble e&&Nat.ble 1 e then gL 1 1 e b.1 λf=>aw f λg=>lp (α:=H1->H1->Int->Int->Int->H1->H1->H1->H1->H1->H1->H1->H1->H1->H1->Int->Int->Int->H1->H1->qr H1->Hx (H1×Int)) (λ_ _ _ _ _ _ _ _ _ _ _ _ _ _ _ _ _ _ _ _ _=>none) (λa4 a5 a6 a7 a8 a9 b0 b1 b2 b3 b4 b5 b6 b7 b8 b9 c0 c1 c2 c3 c4 c5=>bif ak a8 a7 then aF (ah .i64 (a8.add 1)) λc6=>aJ 1 c6 a6 λc7=>af c7 λc8 c9=>au .i64 c8 λd0=>aF a8 λd1=>aJ 1 d1 a6 λd2=>af d2 λd3 d4=>au .i64 d3 λd5=>bif aH c5.length&&(aH 1&&(List.take 1 (List.drop 0 [Value.int .i64 (ah .i64 (d0.sub d5))])).length.beq 1) then a4 a5 a6 a7 (ah .i64 (a8.add 1)) a9 b0 b1 b2 b3 b4 b5 b6 b7 b8 b9 c0 c1 c2 c3 c4 (c5++List.take 1 (List.drop 0 [Value.int .i64 (ah .i64 (d0.sub d5))])) else none else ob (BY w (ae (c5.length/1) c5) (ah .i64 (c0.add 4)) c3) λd6=>aw d6.1 λd7=>lp (α:=H1->Bool->H1->H1->Int->Int->Int->H1->H1->H1->H1->H1->H1->H1->H1->H1->H1->Int->Int->Hx (H1×Int)) (λ_ _ _ _ _ _ _ _ _ _ _ _ _ _ _ _ _ _ _=>none) (λf7 f8 f9 g0 g1 g2 g3 g4 g5 g6 g7 g8 g9 h0 h1 h2 h3 h4 h5 h6=>bif ak g3 g2 then aF g3 λh7=>aJ 5 h7 g1 λh8=>af h8 λh9 i0=>au .i64 h9 λi1=>af i0 λi2 i3=>au .i64 i2 λi4=>af i3 λi5 i6=>au .i64 i5 λi7=>af i6 λi8 i9=>au .i64 i8 λj0=>af i9 λj1 j2=>au .i64 j1 λj3=>ob (Gu w g0 g3 i1 i4 i7 j0 j3) λj4=>bif !j4.2 then bif !j4.2 then some (ae 0 [],4) else aw f8 λj5=>bif Nat.blt 0 1&&Nat.beq 1 1&&Nat.ble 1 10000&&(j5.ble j5&&j5.ble 1000000000) then dQ 1 f8 λj6 j7=>bif j7.length.beq (j6*1)&&(0+j6.min j5*1).ble (rep j5 (Value.int .u8 0).cells.toList,5).1.length then aF h5 λj8=>bif j5.ble j5&&j8.ble j5 then dQ 1 j4.1 λj9 k0=>bif k0.length.beq (j9*1)&&((bif j5.beq j8 then 0 else 0+j8*1)+j9.min (j5 -j8)*1).ble (aW 0 (List.take (j6.min j5*1) j7) (rep j5 (Value.int .u8 0).cells.toList,5).1,5).1.length then some (ae j5 (List.drop 0 (aW (bif j5.beq j8 then 0 else 0+j8*1) (List.take (j9.min (j5 -j8)*1) k0) (aW 0 (List.take (j6.min j5*1) j7) (rep j5 (Value.int .u8 0).cells.toList,5).1,5).1)),0) else none else none else none else none else f7 f8 j4.2 j4.1 g1 g2 (ah .i64 (g3.add 1)) g4 g5 g6 g7 g8 g9 h0 h1 h2 h3 h4 h5 h6 else bif !f9 then some (ae 0 [],4) else aw f8 λk1=>bif Nat.blt 0 1&&Nat.beq 1 1&&Nat.ble 1 10000&&(k1.ble k1&&k1.ble 1000000000) then dQ 1 f8 λk2 k3=>bif k3.length.beq (k2*1)&&(0+k2.min k1*1).ble (rep k1 (Value.int .u8 0).cells.toList,5).1.length then aF h5 λk4=>bif k1.ble k1&&k4.ble k1 then dQ 1 g0 λk5 k6=>bif k6.length.beq (k5*1)&&((bif k1.beq k4 then 0 else 0+k4*1)+k5.min (k1 -k4)*1).ble (aW 0 (List.take (k2.min k1*1) k3) (rep k1 (Value.int .u8 0).cells.toList,5).1,5).1.length then some (ae k1 (List.drop 0 (aW (bif k1.beq k4 then 0 else 0+k4*1) (List.take (k5.min (k1 -k4)*1) k6) (aW 0 (List.take (k2.min k1*1) k3) (rep k1 (Value.int .u8 0).cells.toList,5).1,5).1)),0) else none else none else none else none) w a5 d6.2 b9 d6.1 (Int.ofNat d7) 0 a9 b0 b1 b2 b3 b4 b5 b6 b7 b8 b9 c0 c1) w a b.1 (Int.ofNat g) 0 c.1 c.2.1 c.2.2.1 c.2.2.2.1 c.2.2.2.2.1 c.2.2.2.2.2.1 c.2.2.2.2.2.2.1 c.2.2.2.2.2.2.2.1 c.2.2.2.2.2.2.2.2.1 c.2.2.2.2.2.2.2.2.2.1 c.2.2.2.2.2.2.2.2.2.2.1 c.2.2.2.2.2.2.2.2.2.2.2.1 c.2.2.2.2.2.2.2.2.2.2.2.2.1 d.1 d.2.1 d.2.2.1 [] else none
end
theorem agG{t:aL}{m:Nat}(h:eH t.ty t.az t.data=true)(hd:t.data.length<=m):bQ t.ty t.az<=m:=by
 have:=yf h
 grind
theorem Ao{m:Nat}:∀(l:qr aL)(e:Nat),(∀t∈l,eH t.ty t.az t.data=true/\t.data.length<=m)->cq e l<=e+l.length*(m+1)
 |[],e,_=>by simp[cq]
 |t::l,e,h=>by
  have h1:=h t (by simp);have ho:=agG h1.1 h1.2;have ih:=λe=>Ao l e λt ht=>h t (by grind);have hev:=vl e;rw[bW,Rh]
  grind
theorem aly(no:Nat)(l:qr aL)(e:Nat):(dr no e l).length<=l.length:=PB no l e
mutual
theorem Re{sh:qr bg}{m B:Nat}(hB:24*m+40+m*(m+1)+m<=B):∀(d:aV)(s e:Nat),cR sh s d=true->iK m d->bE e d<=e+dI d*B
 | .mk tags subs blob,s,e,hh,hd=>by
  have hd:tags.length<=m/\cm subs<=m/\blob.length<=m/\(∀t∈tags,t.data.length<=m)/\iL m subs:=hd;simp[cR] at hh;obtain⟨⟨n1,n2⟩,ht,hbl,hr,hss⟩:=hh;have htg:∀t∈tags,eH t.ty t.az t.data=true/\t.data.length<=m:=λt h=>by simp[kx] at ht;simp_all
  have hN:bF (.mk tags subs blob)<=2*m+2:=by
   show tags.length+cm subs+(if blob.length=0 then 0 else 2)<=2*m+2
   grind
  have h1:=Ao tags (aI e+(6+12*bF (.mk tags subs blob))) htg;have h2:=Rg hB subs (aQ sh s) (cq (aI e+(6+12*bF (.mk tags subs blob))) tags) hss hd.2.2.2.2;have h3:=vl e;have h4:=vl (eA (cq (aI e+(6+12*bF (.mk tags subs blob))) tags) subs);have h5:tags.length*(m+1)<=m*(m+1):=wW _ hd.1;rw[dI,lP,bE]
  grind
theorem Rg{sh:qr bg}{m B:Nat}(hB:24*m+40+m*(m+1)+m<=B):∀(r:cP)(S:bg)(e:Nat),jh sh S r=true->iL m r->eA e r<=e+iA r*B
 | .nil,S,e,_,_=>by unfold eA;omega
 | .cons t d r,S,e,hh,hd=>by simp[jh] at hh;have h1:=Re hB d _ e hh.2.1 hd.1;have h2:=Rg hB r S (bE e d) hh.2.2 hd.2;rw[eA,iA,lP];omega
end
mutual
theorem YA{m:Nat}:∀(d:aV)(no e:Nat),iK m d->(ga no e d).length<=dI d*(m+2)
 | .mk tags subs blob,no,e,hd=>by
  have hd:tags.length<=m/\cm subs<=m/\blob.length<=m/\(∀t∈tags,t.data.length<=m)/\iL m subs:=hd;have h1:=aly no tags (aI e+(6+12*bF (.mk tags subs blob)));have h2:=YC subs (no+1) (cq (aI e+(6+12*bF (.mk tags subs blob))) tags) hd.2.2.2.2;rw[dI,ga]
  grind
theorem YC{m:Nat}:∀(r:cP)(no e:Nat),iL m r->(kM no e r).length<=iA r*(m+2)
 | .nil,no,e,_=>by unfold kM;simp
 | .cons t d r,no,e,hd=>by have h1:=YA d no e hd.1;have h2:=YC r (no+dI d) (bE e d) hd.2;rw[kM,iA,lP,aT];omega
end
theorem Q9{sh:qr bg}{m B:Nat}(hB:24*m+40+m*(m+1)+m<=B):∀(ds:qr aV)(s:Int)(e:Nat),gG sh s ds=true->oo m ds->eG e ds<=e+ig ds*B
 |[],s,e,_,_=>by simp[eG]
 |d::ds,s,e,hh,hd=>by simp[gG] at hh;have h1:=Re hB d _ e hh.2.1 (hd d (by simp));have h2:=Q9 hB ds _ (bE e d) hh.2.2 λd h=>hd d (by grind);rw[eG,ig,lP];omega
theorem CR{m:Nat}:∀(ds:qr aV)(no e:Nat),oo m ds->(jn no e ds).length<=ig ds*(m+2)
 |[],no,e,_=>by simp[jn]
 |d::ds,no,e,hd=>by have h1:=YA d no e (hd d (by simp));have h2:=CR ds (no+dI d) (bE e d) λd h=>hd d (by grind);rw[jn,ig,lP,aT];omega
theorem KF{sh:qr bg}:∀{ds:qr aV}{s:Int},gG sh s ds=true->∀d∈ds,∃s,cR sh s d=true
 |[],_,_,d,h=>by grind
 |a::ds,s,hh,d,h=>by
  simp[gG] at hh;rcases cZ.1 h with rfl|h
  ·grind
  ·exact KF hh.2.2 d h
structure cX(w:Nat):Prop where
 hand:Hand w
 kF:200000<=w
theorem PN{w:Nat}(W:cX w){sh:qr bg}{o:Int}{ds:qr aV}(ok:jd sh)(tI:rl w (cu sh)=some true)(s0:0<sh.length)(bR:∀s,s<sh.length->(aQ sh s).bR.length<=10000)(ho:o=1\/o=2)(cL:ds≠[])(iO:ds.length<=10000)(hd:oo 10000 ds)(kg:kV ds<=10)(hc:ig ds<=8)(hh:gG sh 0 ds=true):o8 w 10000 sh o ds:=by have hb:=W.kF;have h1:=Q9 (B:=100360040) (by simp) ds 0 8 hh hd;have h2:=CR ds 0 8 hd;have h5:(eJ ⟨o,ds⟩).length=(jn 0 8 ds).length+1:=rfl;exact⟨(by simp),(by omega),(by omega),ok,tI,s0,bR,ho,cL,iO,hd,by omega,hh,by omega,by omega,by omega,by omega,(W.hand.may o ds (by omega) (λd hd=>by obtain⟨s,h⟩:=KF hh d hd;exact⟨sh,s,h⟩) (by omega))⟩
theorem RF(s:Nat)(hs:s<dC.length):(aQ dC s).bR.length<=10000:=by
 have:s=0\/s=1\/s=2\/s=3\/s=4:=by simp[dC] at hs;omega
 rcases this with rfl|rfl|rfl|rfl|rfl<;>decide
theorem aiJ{m:Nat}{l:qr aL}{x:aL}(h:∀t∈l,t.data.length<=m)(hx:x.data.length<=m):∀t∈ku l x,t.data.length<=m:=by intro t ht;rcases Xz ht with rfl|ht<;>grind
theorem al1{x:dF}{m:Nat}(h:jI x m)(h1:1<=m):iK (m+1) (jV x)/\dI (jV x)<=2/\gq (jV x)<=2:=by
 obtain⟨⟨r0,r2,r3,r4,r1⟩,d0,d2,d3,d4,d1,hmk,hth⟩:=h;unfold jV;have hl:=Xy x.bD (jQ x.bC);have hsub:iL (m+1) (if x.bj.length=0 then .nil else .cons 40965 (.mk x.bj .nil []) .nil)/\cm (if x.bj.length=0 then .nil else .cons 40965 (.mk x.bj .nil []) .nil)<=1/\iA (if x.bj.length=0 then .nil else .cons 40965 (.mk x.bj .nil []) .nil)<=1/\jZ (if x.bj.length=0 then .nil else .cons 40965 (.mk x.bj .nil []) .nil)<=1:=by
  split
  ·exact⟨trivial,by decide,by decide,by decide⟩
  ·refine⟨⟨⟨by omega,by show 0<=_;omega,by show 0<=_;omega,λt ht=>by have:=d4 t ht;omega,trivial⟩,trivial⟩,by simp[cm],by simp[iA,dI],by simp[jZ,gq]⟩
 refine⟨⟨?_,by omega,by show 0<=_;omega,?_,hsub.1⟩,by rw[dI];omega,by rw[gq];omega⟩
 ·grind
 ·split
  ·grind
  ·exact aiJ (λt ht=>by have:=d2 t ht;omega) (by show x.bC.length<=_;omega)
theorem YY{x:dF}{m:Nat}(h:jI x m)(h1:2<=m):oo (m+1) (fj x).dJ/\ig (fj x).dJ<=5/\kV (fj x).dJ<=3/\(fj x).dJ.length<=2:=by
 obtain⟨t1,t2,t3⟩:=al1 h (by omega);obtain⟨⟨r0,r2,r3,r4,r1⟩,d0,d2,d3,d4,d1,hmk,hth⟩:=h;have hg:iL (m+1) (nJ x)/\cm (nJ x)<=1/\iA (nJ x)<=1/\jZ (nJ x)<=1:=by
  unfold nJ;split
  ·exact⟨trivial,by decide,by decide,by decide⟩
  ·exact⟨⟨⟨by omega,by show 0<=_;omega,by show 0<=_;omega,λt ht=>by have:=d3 t ht;omega,trivial⟩,trivial⟩,by simp[cm],by simp[iA,dI],by simp[jZ,gq]⟩
 have hs:iL (m+1) (jT x)/\cm (jT x)<=2/\iA (jT x)<=3/\jZ (jT x)<=2:=by
  unfold jT;split
  ·exact⟨hg.1,by omega,by omega,by omega⟩
  ·refine⟨⟨t1,hg.1⟩,by rw[cm];omega,by rw[iA];omega,by rw[jZ];omega⟩
 have h0:iK (m+1) (.mk x.cn (jT x) []):=⟨by omega,by omega,by show 0<=_;omega,λt ht=>by have:=d0 t ht;omega,hs.1⟩;unfold fj;by_cases c:x.first.length=0/\x.cF.length=0
 ·simp only[ay c];refine⟨λd hd=>?_,by simp only[ig,dI];omega,by simp only[kV,gq];omega,by simp⟩;rw[nj.1 hd];exact h0
 ·simp only[aq c];refine⟨λd hd=>?_,by simp only[ig,dI,iA];omega,by simp only[kV,gq,jZ];omega,by simp⟩;simp_all;rcases hd with rfl|rfl
  ·exact h0
  ·exact(⟨by omega,by show 0<=_;omega,by omega,λt ht=>by have:=d1 t ht;omega,trivial⟩)
theorem iK.mono{m m':Nat}(h:m<=m'):∀{d:aV},iK m d->iK m' d:=by
 have key:(∀d:aV,iK m d->iK m' d)/\∀r:cP,iL m r->iL m' r:=by
  refine⟨λd=>?_,λr=>?_⟩
  ·exact aV.rec (motive_2:=λr=>iL m r->iL m' r) (λtags subs blob ih hd=>by have hd:tags.length<=m/\cm subs<=m/\blob.length<=m/\(∀t∈tags,t.data.length<=m)/\iL m subs:=hd;exact⟨by omega,by omega,by omega,λt ht=>by have:=hd.2.2.2.1 t ht;omega,ih hd.2.2.2.2⟩) (λ_=>trivial) (λt d r i1 i2 hd=>⟨i1 hd.1,i2 hd.2⟩) d
  ·exact cP.rec (motive_1:=λd=>iK m d->iK m' d) (λtags subs blob ih hd=>by have hd:tags.length<=m/\cm subs<=m/\blob.length<=m/\(∀t∈tags,t.data.length<=m)/\iL m subs:=hd;exact⟨by omega,by omega,by omega,λt ht=>by have:=hd.2.2.2.1 t ht;omega,ih hd.2.2.2.2⟩) (λ_=>trivial) (λt d r i1 i2 hd=>⟨i1 hd.1,i2 hd.2⟩) r
 grind
theorem D5{w:Nat}(W:cX w){x:dF}(h:jI x 9000)(hc:iT x=0):o8 w 10000 dC x.order (fj x).dJ:=by obtain⟨a,b,c,d⟩:=YY h (by simp);have hr:=h.rows;refine PN W Ki (akj (by have:=W.kF;omega)) (by decide) RF (tw hc).1 (by simp[fj]) (by omega) (λd hd=>(a d hd).mono (by simp)) (by omega) (by omega) (YZ hc ?_);unfold q9 at hr⊢;omega
theorem al6(x:dF):(⟨x.order,(fj x).dJ⟩:mH)=fj x:=rfl
theorem Oh(w:Nat):Ch w=some (cu dC):=rfl
theorem alk{w:Nat}(W:cX w){x:dF}(h:jI x 9000):Ip w x.order (ar x.cn) (ar x.bD) (ar x.bG) (ar x.bj) (ar x.first) (ag x.bC) (ag x.cF)=some (if iT x=0 then(ag (eC (fj x) dC),0) else(ae 0 [],iT x)):=by
 have hb:=W.kF;unfold Ip;rw[XN W.hand h (by simp) (by omega)];by_cases hc:iT x=0
 ·rw[ay hc,ay hc];rw[Oh];simp;rw[XO (D5 W h hc)];rfl
 simp_all
theorem alj{w:Nat}(W:cX w){x:dF}(h:jI x 9000):Io w x.order (ar x.cn) (ar x.bD) (ar x.bG) (ar x.bj) (ar x.first) (ag x.bC) (ag x.cF)=some (if iT x=0 then(65527 -(gX (fj x):Int),0) else(0,iT x)):=by
 have hb:=W.kF;unfold Io;rw[XN W.hand h (by simp) (by omega)];simp;by_cases hc:iT x=0
 ·rw[ay hc,ay hc];have T:=D5 W h hc;have:=T.he;rw[T.cJ];simp;rw[aP (by omega) (by omega)];rfl
 grind
theorem QM(a:qr Int)(b:qr UInt8)(h:a=b.map λc=>(c.toNat:Int)):bm a=b.map aZ:=by subst h;unfold bm;rw[List.map_map];rfl
theorem O7{w:Nat}(W:cX w){x:dF}(h:jI x 9000):Cv w x.order (ar x.cn) (ar x.bD) (ar x.bG) (ar x.bj) (ar x.first) (ag x.bC) (ag x.cF)=some (match iS x with| .ok b=>(ag b,0)| .error e=>(ae 0 [],e)):=by
 unfold Cv zV iS;rw[alj W h,alk W h];by_cases hc:iT x=0
 case neg=>simp_all
 rw[ay hc,ay hc,aq (by omega)];simp only[aA,aU];by_cases h2:65533<6+gX (fj x)
 ·have:(65527:Int) -(gX (fj x):Int)<0:=by omega
  simp_all
 ·have h3:¬((65527:Int) -(gX (fj x):Int)<0):=by omega
  simp only[h3,bL,aq h2];unfold u7;have hl:=wN (D5 W h hc).hh;have hpos:8<=gX (fj x):=ql _ _;simp only[show aj 0 0=true from rfl];rw[rP];have r2:((eC (fj x) dC).map λb=>(b.toNat:Int)).isEmpty=false:=by
   cases q:eC (fj x) dC with
   |nil=>rw[q] at hl;simp at hl;omega
   |cons _ _=>rfl
  simp only[(show aH ((eC (fj x) dC).map λb=>(b.toNat:Int)).length=true from by simp;omega),r2,aE,aD];rw[QM _ (nH++eC (fj x) dC) (by rw[fS];rfl),ve _ _ (by simp[nH];omega)]
theorem XT{w:Nat}{sh:qr bg}{o:Int}{ds:qr aV}(T:o8 w 10000 sh o ds):wi w o (dc ds) (cu sh)=some (if 65533<4+gX ⟨o,ds⟩ then(ae 0 [],7) else(ag (fC++eC ⟨o,ds⟩ sh),0)):=by
 unfold wi tQ;rw[XO T];have hl:(eC ⟨o,ds⟩ sh).length=gX ⟨o,ds⟩:=wN T.hh;have he:gX ⟨o,ds⟩<=1000000000:=T.he;have hpos:8<=gX ⟨o,ds⟩:=ql _ _;simp only[aA,show aj 0 0=true from rfl];rw[rP];have r2:((eC ⟨o,ds⟩ sh).map λb=>(b.toNat:Int)).isEmpty=false:=by
  cases q:eC ⟨o,ds⟩ sh with
  |nil=>grind
  |cons _ _=>rfl
 simp only[cD,hl,(show aH (gX ⟨o,ds⟩)=true from by simp;omega),r2,aE,aD,mK,qM];split
 ·rfl
 ·rw[QM _ (fC++eC ⟨o,ds⟩ sh) (by rw[fS];rfl),ve _ _ (by simp[fC];omega)]
theorem N2(w:Nat)(m:Int):yJ w m=some (je m):=by
 unfold yJ je;simp
 grind
theorem X2(w:Nat)(m:Int):yW w m=some (oN m):=by
 unfold yW oN;by_cases h1:m<208
 ·have:¬(208<=m/\m<=215):=by omega
  simp_all
 ·by_cases h2:m<216
  ·have:(208<=m/\m<=215):=by omega
   simp_all
  ·have:¬(208<=m/\m<=215):=by omega
   simp[h2,this]
theorem XV(w:Nat)(m:Int):Cj w m=some (lL m):=by
 unfold Cj lL;rw[N2,X2];simp
 grind
theorem Je{b:UInt8}:ah IntKind.i64 (b.toNat:Int)=(b.toNat:Int):=by have:=b.toNat_lt;exact aP (by simp) (by omega)
theorem al5{w:Nat}(l:qr UInt8)(hl:l.length<2^60):Cp w (ag l)=some (match l.getLast? with|some b=>if b=255 then 1 else 0|none=>0):=by
 unfold Cp;by_cases h:l.length=0
 ·rw[mO h];rfl
 ·have e1:((0:Int)<(l.length:Int)):=by omega
  simp_all;rw[aP (by omega) (by omega),lU (by omega),show((l.length:Int) -1).toNat=l.length -1 by omega,oG (show l.length -1<l.length by omega)];simp;have hg:l.getLast? =some l[l.length -1]:=by rw[List.getLast?_eq_getElem?,cG (by omega)]
  rw[hg];simp only;by_cases h5:l[l.length -1]=255
  ·rw[ay h5,ay (by rw[h5];rfl)]
  ·rw[aq h5,aq (by intro q;exact h5 (oe.1 (by have:(255:UInt8).toNat=255:=rfl;omega)))]
theorem XU{w:Nat}(l:qr UInt8)(hl:l.length<2^60)(hw:l.length<w):yQ w (ag l)=some (gx l:Int):=by
 have key:∀(z:H1->Int->Hx Int)(F:(H1->Int->Hx Int)->H1->Int->Hx Int)(hF:F=λ(x3:H1->Int->Hx Int)(x4:H1)(x5:Int)=>aw x4 λ(x6:Nat)=>bif ak (ah IntKind.i64 (x5.add 1)) (Int.ofNat x6) then aF x5 λ(x7:Nat)=>aJ 1 x7 x4 λ(x8:qr H1)=>af x8 λ(x9:H1)(x10:qr H1)=>au IntKind.u8 x9 λ(x11:Int)=>bif aj x11 255 then aF (ah IntKind.i64 (x5.add 1)) λ(x12:Nat)=>aJ 1 x12 x4 λ(x13:qr H1)=>af x13 λ(x14:H1)(x15:qr H1)=>au IntKind.u8 x14 λ(x16:Int)=>bif !aj x16 0 then aF (ah IntKind.i64 (x5.add 1)) λ(x17:Nat)=>aJ 1 x17 x4 λ(x18:qr H1)=>af x18 λ(x19:H1)(x20:qr H1)=>au IntKind.u8 x19 λ(x21:Int)=>ob (yW w (ah IntKind.i64 x21)) λ(x22:Bool)=>bif !x22 then some x5 else x3 x4 (ah IntKind.i64 (x5.add 1)) else x3 x4 (ah IntKind.i64 (x5.add 1)) else x3 x4 (ah IntKind.i64 (x5.add 1)) else aw x4 λ(x23:Nat)=>ob (Cp w x4) λ(x24:Int)=>some (ah IntKind.i64 ((Int.ofNat x23).sub x24))),
  ∀(d i v:Nat),i+d+1=l.length->d<v->lp z F v (ag l) (i:Int)=some ((i+gx (l.drop i):Nat):Int):=by
  intro z F hF d;induction d with
  |zero=>
   intro i v hi hv;rw[eB z F (by omega),hF];simp only[cI,cc];rw[aP (by omega) (by omega)];have e1:¬((i:Int)+1<(l.length:Int)):=by omega
   have hlt:i<l.length:=by omega
   have hll:l.drop i=[l[i]]:=by rw[dk hlt,uJ (by omega)]
   have hg:l.getLast? =some l[i]:=by rw[List.getLast?_eq_getElem?,show l.length -1=i by omega,cG hlt]
   simp only[aU,bU,e1,bL,aD];rw[al5 l hl,hll,hg];simp only[aA,ji];by_cases h5:l[i]=255
   ·rw[ay h5,h5,aiE,aP (by omega) (by omega)]
    congr 1;omega
   ·rw[aq h5,BQ h5,aP (by omega) (by omega)]
    congr 1
    show(l.length:Int) -0=((i+(0+1):Nat):Int);omega
  |succ d ih=>
   intro i v hi hv;have hlt:i<l.length:=by omega
   have hlt2:i+1<l.length:=by omega
   have hll:l.drop i=l[i]::l[i+1]::l.drop (i+2):=by rw[dk hlt,dk hlt2]
   have hll2:l.drop (i+1)=l[i+1]::l.drop (i+2):=dk hlt2;have ih:=ih (i+1) (v -1) (by omega) (by omega);rw[hll2] at ih;rw[hll,eB z F (by omega)];generalize lp z F (v -1)=g at ih⊢;rw[hF];have e1:((i:Int)+1<(l.length:Int)):=by omega
   simp only[cI,cc];rw[aP (by omega) (by omega)];simp only[aU,bU,e1,aY,aE,bP];rw[show(i:Int)+1=((i+1:Nat):Int) by omega];simp only[bP];rw[oG hlt,oG hlt2];simp only[aX,qe,cj,X2,Je,aA];by_cases h5:l[i]=255
   ·have e5:((l[i].toNat:Int)=255):=by rw[h5];rfl
    rw[h5,NM] at*;simp only[show(((255:UInt8).toNat:Int)=255) from rfl,aY,aE];by_cases h6:l[i+1]=0
    ·have e6:((l[i+1].toNat:Int)=0):=by rw[h6];rfl
     have:¬(l[i+1]≠0/\oN (l[i+1].toNat:Int)=false):=λq=>q.1 h6;rw[aq this];simp only[e6,aY,bH,aD];rw[ih]
     congr 2;omega
    ·have e6:¬((l[i+1].toNat:Int)=0):=by
      intro q;exact h6 (oe.1 (by have:(0:UInt8).toNat=0:=rfl;omega))
     simp only[e6,bL,gj,aE];rw[oG hlt2];simp only[aX,qe,Je];cases hr:oN (l[i+1].toNat:Int) with
     |true=>
      have:¬(l[i+1]≠0/\true=false):=λq=>by cases q.2
      rw[aq this];simp only[bH,aD];rw[ih]
      congr 2;omega
     |false=>rw[ay ⟨h6,rfl⟩];rfl
   ·have e5:¬((l[i].toNat:Int)=255):=by
     intro q;exact h5 (oe.1 (by have:(255:UInt8).toNat=255:=rfl;omega))
    rw[BQ h5];simp only[e5,bL,aD];rw[ih]
    congr 2;omega
 by_cases h0:l.length=0
 ·rw[mO h0];unfold yQ;rw[eB _ _ (by omega)];rfl
 ·unfold yQ;refine Eq.trans (key _ _ rfl (l.length -1) 0 w (by omega) (by omega)) ?_;rw[ew,fU]
def cW(s:bM):qr H1:=[.int .i64 s.cg,ag s.data,ag s.scan]
theorem jR(s:bM):(cW s).length=3:=rfl
def dZ(l:qr bM):H1:=aB cW l
theorem EG(w:Nat)(n:Int)(b:qr UInt8)(p:Nat)(hb:b.length<2^60)(hp:p<=b.length):wj w n (ag b) (p:Int)=some (if((b.length -p:Nat):Int)<n then .inr ((b.length:Int),3,ag b,(p:Int)) else .inl (ag b,(p:Int))):=by
 unfold wj;simp only[cI,ji,bU];rw[aP (by omega) (by omega)];simp
 grind
theorem ajc(w:Nat)(b:qr UInt8)(p:Nat)(hb:b.length<2^60)(hp:p<=b.length):uf w (ag b) (p:Int)=some (match b.drop p with
 |[]=>.inr ((b.length:Int),3,ag b,(p:Int))
 |[x]=>if x=255 then .inr ((b.length:Int),3,ag b,(p:Int)) else .inr ((p:Int),2,ag b,(p:Int))
 |x::m::_=>if x≠255 then .inr ((p:Int),2,ag b,(p:Int)) else if((decide (p=0)!=decide (m=216))||!(je m.toNat||lL m.toNat))=true then .inr ((p:Int),2,ag b,(p:Int)) else .inl ((m.toNat:Int),ag b,((p+2:Nat):Int))):=by
 unfold uf Gc;rw[EG w 1 b p hb hp];simp only[aA];by_cases h1:p<b.length
 case neg=>rw[ay (by omega),uJ (by omega)];rfl
 rw[aq (by omega),dk h1];simp only[iQ,bP];rw[oG h1];simp only[aX,qe,cj];by_cases h2:b[p]=255
 case neg=>
  have e2:¬((b[p].toNat:Int)=255):=by intro q;exact h2 (oe.1 (by have:(255:UInt8).toNat=255:=rfl;omega))
  simp only[e2,bL,gj,aE];generalize b.drop (p+1)=r;cases r with
  |nil=>simp only;rw[aq h2]
  |cons m r=>simp only;rw[ay h2]
 have e2:((b[p].toNat:Int)=255):=by rw[h2];rfl
 simp only[e2,aY,aD];rw[EG w 2 b p hb hp];simp only[aA];by_cases h3:p+1<b.length
 case neg=>rw[ay (by omega),uJ (show b.length<=p+1 by omega),h2];simp
 rw[aq (by omega),dk h3,h2];simp only[iQ,cc,ne_eq,gY];rw[aP (by omega) (by omega),show(p:Int)+1=((p+1:Nat):Int) by omega];simp only[bP];rw[oG h3];simp only[aX,qe,Je,XV];generalize b[p+1]=m;have hp0:decide ((p:Int)=0)=decide (p=0):=by rw[iH,cf,cf];omega
 have h216:decide ((m.toNat:Int)=216)=decide (m=216):=by
  rw[iH,cf,cf];constructor
  ·intro q;exact oe.1 (by have:(216:UInt8).toNat=216:=rfl;omega)
  ·rintro rfl;rfl
 have h217:decide ((m.toNat:Int)=217)=decide (m=217):=by
  rw[iH,cf,cf];constructor
  ·intro q;exact oe.1 (by have:(217:UInt8).toNat=217:=rfl;omega)
  ·rintro rfl;rfl
 have hal:je (m.toNat:Int)=(decide (m=216)||decide (m=217)):=by rw[<-h216,<-h217];unfold je;simp
 rw[hp0,h216,h217,hal,aP (by omega) (by omega)];by_cases c0:p=0
 ·by_cases c1:m=216
  ·subst c1;simp[c0]
  ·simp[c0,c1]
 ·by_cases c1:m=216
  ·subst c1;simp[c0]
  ·by_cases c2:m=217
   ·subst c2;simp[c0]
   ·cases lL (m.toNat:Int)<;>simp[c0,c1,c2]
theorem ac9(b:qr UInt8)(p:Nat)(h:p+1<b.length):pB b p 2 2=some ((b[p].toNat*256+b[p+1].toNat:Nat):Int):=by
 have:=xH (l:=b) (p:=p) (.inr (.inl rfl)) (.inr rfl) (by omega);rw[show((2:Nat):Int)=2 from rfl] at this;rw[this];have:gV b p 2 2=[b[p],b[p+1]]:=by unfold gV;rw[dk (by omega),dk (show p+1<b.length by omega)];rfl
 rw[this];unfold iu;simp
theorem aja{w:Nat}(m:Int)(b:qr UInt8)(p:Nat)(hb:b.length<2^29)(hp:p<=b.length)(hw:b.length+10<w):ue w m (ag b) (p:Int)=some (if je m=true then .inl (m,ag [],ag [],ag b,(p:Int)) else match b.drop p with
 |x::y::t=>if x.toNat*256+y.toNat<2 then .inr ((p:Int),2,ag b,(p:Int)) else if b.length -p<x.toNat*256+y.toNat then .inr ((b.length:Int),3,ag b,(p:Int)) else
  .inl (m,ag ((b.drop (p+2)).take (x.toNat*256+y.toNat -2)),ag ((b.drop (p+(x.toNat*256+y.toNat))).take (if m=218 then gx (b.drop (p+(x.toNat*256+y.toNat))) else 0)),ag b,((p+(x.toNat*256+y.toNat)+(if m=218 then gx (b.drop (p+(x.toNat*256+y.toNat))) else 0):Nat):Int))
 |_=>.inr ((b.length:Int),3,ag b,(p:Int))):=by
 unfold ue;rw[N2];simp only[aA];cases ha:je m with
 |true=>rfl
 |false=>
 simp only[aD,kO,gY];rw[EG w 2 b p (by omega) hp];simp only[aA];by_cases h3:p+1<b.length
 case neg=>
  rw[ay (by omega)];have hl:(b.drop p).length<=1:=by rw[er];omega
  split
  ·rename_i q;rw[q] at hl;simp at hl
  ·rfl
 rw[aq (by omega),dk (show p<b.length by omega),dk h3];simp only[iQ];rw[Cd (by omega) b (by omega) _ _ _ (by omega),ac9 b p h3];simp only[aA,aU];have hx:=b[p].toNat_lt;have hy:=b[p+1].toNat_lt;generalize hn:b[p].toNat*256+b[p+1].toNat=n;by_cases c1:n<2
 ·have:((n:Int)<2):=by omega
  simp_all
 have e4:¬((n:Int)<2):=by omega
 simp only[e4,bL,aD,aq c1];rw[EG w (n:Int) b p (by omega) hp];simp only[aA];by_cases c2:b.length -p<n
 ·have:((b.length -p:Nat):Int)<(n:Int):=by omega
  rw[ay this,ay c2];rfl
 rw[aq (by omega),aq c2];simp only[iQ,cc,cI];rw[aP (n:=(p:Int)+(n:Int)) (by omega) (by omega),aP (n:=(p:Int)+2) (by omega) (by omega),show(p:Int)+(n:Int)=((p+n:Nat):Int) by omega,show(p:Int)+2=((p+2:Nat):Int) by omega];have e6:p+n<=b.length:=by omega
 have e7:p+2<=p+n:=by omega
 simp only[bP,gF,e6,e7,aM,aY,jG,aE];rw[lY b e6,show p+n -(p+2)=n -2 by omega,rR w _ (by rw[dE,er];omega)];simp only[aA,cj];by_cases c3:m=218
 ·simp only[c3,aY,aE,dW];rw[lY b (aM _),eQ (by rw[er];omega),XU _ (by rw[er];omega) (by rw[er];omega)];simp only[aA];have hs:=Gd (b.drop (p+n));rw[er] at hs;rw[aP (by omega) (by omega),show((p+n:Nat):Int)+(gx (b.drop (p+n)):Int)=((p+n+gx (b.drop (p+n)):Nat):Int) by omega];have e8:p+n+gx (b.drop (p+n))<=b.length:=by omega
  have e9:p+n<=p+n+gx (b.drop (p+n)):=by omega
  simp only[bP,e8,e9,aY,jG,aE];rw[lY b e8,IT,rR w _ (by rw[dE,er];omega)];simp only[aA]
 ·simp_all;rfl
theorem step_eq{β:Type}{w:Nat}(b:qr UInt8)(p:Nat)(hb:b.length<2^29)(hp:p<=b.length)(hw:b.length+10<w)(G:Int×H1×H1×H1×Int->Hx β)(E:Int×Int×H1×Int->Hx β):
 match lu (decide (p=0)) (b.drop p) with
 | .short=>∃q,(ob (uf w (ag b) (p:Int)) λx14=>dG x14 (λx15=>ob (ue w x15.fst x15.snd.fst x15.snd.snd) λx16=>dG x16 G E) E)=E ((b.length:Int),3,ag b,q)
 | .form k=>∃q,(ob (uf w (ag b) (p:Int)) λx14=>dG x14 (λx15=>ob (ue w x15.fst x15.snd.fst x15.snd.snd) λx16=>dG x16 G E) E)=E (((p+k:Nat):Int),2,ag b,q)
 | .last s t=>∃q:Nat,(ob (uf w (ag b) (p:Int)) λx14=>dG x14 (λx15=>ob (ue w x15.fst x15.snd.fst x15.snd.snd) λx16=>dG x16 G E) E)=G (s.cg,ag s.data,ag s.scan,ag b,(q:Int))/\b.drop q=t/\p+2<=q/\q<=b.length/\s.cg=217
 | .more s t=>∃q:Nat,(ob (uf w (ag b) (p:Int)) λx14=>dG x14 (λx15=>ob (ue w x15.fst x15.snd.fst x15.snd.snd) λx16=>dG x16 G E) E)=G (s.cg,ag s.data,ag s.scan,ag b,(q:Int))/\b.drop q=t/\p+2<=q/\q<=b.length/\s.cg≠217:=by
 rw[ajc w b p (by omega) hp];have hlen:(b.drop p).length=b.length -p:=er;have hd2:b.drop (p+2)=(b.drop p).drop 2:=by rw[List.drop_drop]
 generalize hr:b.drop p=r at hlen hd2;cases r with
 |nil=>exact⟨_,rfl⟩
 |cons x r=>
  cases r with
  |nil=>
   dsimp only[lu];by_cases h1:x=255
   ·simp_all;exact⟨_,rfl⟩
   ·simp_all;exact⟨_,rfl⟩
  |cons m t=>
   have h2:p+2<=b.length:=by simp at hlen;omega
   dsimp only[lu];by_cases h1:x=255
   case neg=>have h1':x≠255:=h1;simp_all;exact⟨_,rfl⟩
   have h1':¬(x≠255):=λq=>q h1;simp only[aq h1'];by_cases h3:((decide (p=0)!=decide (m=216))||!(je m.toNat||lL m.toNat))=true
   ·simp_all;exact⟨_,rfl⟩
   simp only[aq h3,aA,iQ];have hdt:b.drop (p+2)=t:=hd2;by_cases h4:m=217
   ·subst h4;have:je ((217:UInt8).toNat:Int)=true:=rfl;exact⟨p+2,rfl,hdt,aM _,h2,by first|rfl|trivial⟩
   simp only[aq h4];by_cases h5:m=216
   ·subst h5;have:je ((216:UInt8).toNat:Int)=true:=rfl;exact⟨p+2,rfl,hdt,aM _,h2,by decide⟩
   simp only[aq h5];have hal:je (m.toNat:Int)=false:=by
    unfold je;rw[fI]
    rintro (e|e)
    ·exact h5 (oe.1 (by have:(216:UInt8).toNat=216:=rfl;omega))
    ·exact h4 (oe.1 (by have:(217:UInt8).toNat=217:=rfl;omega))
   have h218:((m.toNat:Int)=218)=(m=218):=by
    apply propext;constructor
    ·intro q;exact oe.1 (by have:(218:UInt8).toNat=218:=rfl;omega)
    ·rintro rfl;rfl
   have hm217:(m.toNat:Int)≠217:=by intro q;exact h4 (oe.1 (by have:(217:UInt8).toNat=217:=rfl;omega))
   rw[aja _ b (p+2) hb h2 hw,hdt];simp only[hal,kO,gY,h218,aA];have htl:t.length=b.length -(p+2):=by rw[<-hdt,er]
   cases t with
   |nil=>simp only[IB];exact⟨_,rfl⟩
   |cons a t=>
    cases t with
    |nil=>simp only[IB];exact⟨_,rfl⟩
    |cons c t=>
     simp only;generalize a.toNat*256+c.toNat=n;by_cases c1:n<2
     ·simp only[ay c1,IB];exact⟨_,rfl⟩
     simp only[aq c1];by_cases c2:(a::c::t).length<n
     ·have c2':b.length -(p+2)<n:=by omega
      simp_all;exact⟨_,rfl⟩
     have c2':¬(b.length -(p+2)<n):=by omega
     simp only[aq c2,aq c2',iQ];have e1:b.drop (p+2+n)=(a::c::t).drop n:=by rw[<-hdt,List.drop_drop]
     have e2:b.drop (p+2+2)=(a::c::t).drop 2:=by rw[<-hdt,List.drop_drop]
     rw[e1,e2];have hk:(if m=218 then gx ((a::c::t).drop n) else 0)<=b.length -(p+2+n):=by have:=Gd ((a::c::t).drop n);rw[<-e1,er] at this;rw[<-e1];split<;>omega
     refine⟨_,rfl,?_,by omega,by omega,hm217⟩;rw[<-List.drop_drop,e1]
theorem Ih{w:Nat}(b:qr UInt8)(hb:b.length<2^28)(hw:b.length+10<w):wD w (ag b)=some (match ofM b with| .ok l e=>(dZ l,(e:Int),0,0)| .bad a e=>(ae 0 [],0,(a:Int),e)):=by
 have key:∀(f:Nat)(l:qr bM)(p v:Nat),(b.drop p).length<f->p<=b.length->f+1<v->(p=0↔l=[])->(∀s,l.getLast? =some s->s.cg≠217)->l.length<=p->
  ∀(z:Int->Int->Int->H1->Int->qr H1->R6)(F:(Int->Int->Int->H1->Int->qr H1->R6)->Int->Int->Int->H1->Int->qr H1->R6),(∀g a c d e k x,F g a c d e k x=(bif aj (Int.ofNat (x.length/3)) 0 then sD w e k x g a c d else aF (ah .i64 ((Int.ofNat (x.length/3)).sub 1)) λo=>bif Nat.beq 3 3&&(o*3).blt x.length then af (List.drop (0+o*3+0) x) λp q=>au .i64 p λr=>bif !aj r 217 then sD w e k x g a c d else bif aj k k then some (ae (x.length/3) x,k,0,0) else none else none))->
  lp z F v 0 0 0 (ag b) (p:Int) (l.flatMap cW)=some (match mn b.length f (decide (p=0)) (b.drop p) with| .ok l' e=>(dZ (l++l'),(e:Int),0,0)| .bad a e=>(ae 0 [],0,(a:Int),e)):=by
  intro f;induction f with
  |zero=>intro l p v h;omega
  |succ f ih=>
   intro l p v h hp hv h0 hlast hlp z F hF;have iO:(b.drop p).length=b.length -p:=er;have hfl:(l.flatMap cW).length=l.length*3:=da jR l;have hr:aH (l.length*3)=true:=by simp;omega
   have hrefl:∀n:Int,aj n n=true:=λn=>by simp
   rw[eB z F (by omega),hF];have hst:=step_eq (w:=w) b p (by omega) hp hw (λk=>bif aH (l.flatMap cW).length&&(aH 1&&(List.take 3 (List.drop 0 [Value.int .i64 k.1,k.2.1,k.2.2.1])).length.beq 3) then lp z F (v -1) 0 0 0 k.2.2.2.1 k.2.2.2.2 (l.flatMap cW++List.take 3 (List.drop 0 [Value.int .i64 k.1,k.2.1,k.2.2.1])) else none) yy;have red:(bif aj (Int.ofNat ((l.flatMap cW).length/3)) 0 then sD w (ag b) p (l.flatMap cW) (lp z F (v -1)) 0 0 0 else aF (ah .i64 ((Int.ofNat ((l.flatMap cW).length/3)).sub 1)) λo=>bif Nat.beq 3 3&&(o*3).blt (l.flatMap cW).length then af (List.drop (0+o*3+0) (l.flatMap cW)) λs q=>au .i64 s λr=>bif !aj r 217 then sD w (ag b) p (l.flatMap cW) (lp z F (v -1)) 0 0 0 else bif aj p p then some (ae ((l.flatMap cW).length/3) (l.flatMap cW),p,0,0) else none else none)=sD w (ag b) p (l.flatMap cW) (lp z F (v -1)) 0 0 0:=by
    rw[hfl,ja _ (show 0<3 by decide)];by_cases q:l=[]
    ·subst q;rfl
    ·have hpos:0<l.length:=List.length_pos_iff.2 q;have e1:aj (Int.ofNat l.length) 0=false:=by simp;omega
     rw[e1,aD,ji,bU,aP (by omega) (by omega),lU (by omega),show((l.length:Int) -1).toNat=l.length -1 by omega];have e2:(Nat.beq 3 3&&((l.length -1)*3).blt (l.length*3))=true:=by simp;omega
     rw[e2,aE,show 0+(l.length -1)*3+0=(l.length -1)*3 by omega,nI jR,dk (show l.length -1<l.length by omega),dN];have tg:∀(s:bM)(r:qr H1),cW s++r=.int .i64 s.cg::ag s.data::ag s.scan::r:=λ_ _=>rfl;simp only[tg,aX,bu];have hm:l[l.length -1].cg≠217:=hlast _ (by rw[List.getLast?_eq_getElem?,cG (by omega)]);have e3:(!aj l[l.length -1].cg 217)=true:=by simp[hm]
     rw[e3,aE]
   refine Eq.trans red ?_;clear red;unfold sD;unfold mn;generalize hs:lu (decide (p=0)) (b.drop p)=sr at hst;cases sr with
   |short=>obtain⟨q,e⟩:=hst;rw[e];unfold yy;simp only[hrefl,aE]
   |form k=>obtain⟨q,e⟩:=hst;rw[e];unfold yy;simp only[hrefl,aE];rw[iO,show b.length -(b.length -p)+k=p+k by omega]
   |last s t=>
    obtain⟨q,e,e1,e2,e3,e4⟩:=hst;rw[e];rw[hfl] at*;simp only[hr,show aH 1=true from rfl,ew,oa,oZ,bW,List.length_nil,eV];rw[show Nat.beq (0+1+1+1) 3=true from rfl,aE,eB z F (by omega),hF];have hfl2:(l.flatMap cW++[Value.int .i64 s.cg,ag s.data,ag s.scan])=(l++[s]).flatMap cW:=by rw[fD,dN];rfl
    rw[hfl2];have hfl3:((l++[s]).flatMap cW).length=(l.length+1)*3:=by rw[da jR,aT];rfl
    rw[hfl3,ja _ (show 0<3 by decide)];have e5:aj (Int.ofNat (l.length+1)) 0=false:=by simp;omega
    rw[e5,aD,ji,bU,aP (by omega) (by omega),lU (by omega),show(((l.length+1:Nat):Int) -1).toNat=l.length by omega];have e6:(Nat.beq 3 3&&(l.length*3).blt ((l.length+1)*3))=true:=by simp
    rw[e6,aE,show 0+l.length*3+0=l.length*3 by omega,nI jR,List.drop_left];have tg:∀(s:bM)(r:qr H1),cW s++r=.int .i64 s.cg::ag s.data::ag s.scan::r:=λ_ _=>rfl;simp only[dN,tg,aX,bu,e4];rw[show(!aj 217 217)=false from rfl,aD,hrefl,aE];have e7:b.length -t.length=q:=by rw[<-e1,er];omega
    rw[e7]
    congr 1
    unfold dZ aB;rw[aT];rfl
   |more s t=>
    obtain⟨q,e,e1,e2,e3,e4⟩:=hst;rw[e];rw[hfl] at*;simp only[hr,show aH 1=true from rfl,ew,oa,oZ,bW,List.length_nil,eV];rw[show Nat.beq (0+1+1+1) 3=true from rfl,aE];have hfl2:(l.flatMap cW++[Value.int .i64 s.cg,ag s.data,ag s.scan])=(l++[s]).flatMap cW:=by rw[fD,dN];rfl
    have hdq:(b.drop q).length=b.length -q:=er;have:=ih (l++[s]) q (v -1) (by omega) e3 (by omega) (by constructor;intro;omega;intro q;simp at q) (λs' h'=>by simp at h';rw[<-h'];exact e4) (by rw[aT];simp;omega) z F hF;rw[hfl2,this,e1];have hq0:decide (q=0)=false:=by simp;omega
    rw[hq0];cases mn b.length f false t with
    |ok l' e=>simp
    |bad a e=>rfl
 unfold wD ofM sD yy;refine Eq.trans (key (b.length+1) [] 0 w (by simp) (by omega) (by omega) (by simp) (λs h=>by simp at h) (by simp) _ _ (λ_ _ _ _ _ _ _=>rfl)) ?_;rfl
theorem NR{w:Nat}(l:qr bM)(p:bM->Bool)(P:Int->H1->H1->Hx Bool)(hP:∀s∈l,P s.cg (ag s.data) (ag s.scan)=some (p s))(hl:l.length<2^40)(hw:l.length<w):
 (aw (dZ l) λx1=>lp (λx2 (x3 x4:Int)=>none) (λx5 (x6:H1) (x7 x8:Int)=>bif ak x8 x7 then aF x8 λx9=>aJ 3 x9 x6 λx10=>af x10 λx11 (x12:qr H1)=>au .i64 x11 λx13=>af x12 λx14 (x15:qr H1)=>af x15 λx16 (x17:qr H1)=>ob (P x13 x14 x16) λx18=>bif x18 then some x8 else x5 x6 x7 (ah .i64 (x8.add 1)) else some (-1)) w (dZ l) (Int.ofNat x1) 0)=some (dD p l):=by
 refine mQ l p (ev:=λi (g:H1->Int->Int->Hx Int)=>g (aB cW l) l.length i) ?_ ?_ hw
 ·intro i g h;simp_all;rw[bn jR h];simp[(show∀(s:bM)(r:qr H1),cW s++r=.int .i64 s.cg::ag s.data::ag s.scan::r fromλ_ _=>rfl)];rw[hP _ (cA h),aP (by omega) (by omega)];simp
 simp
theorem KK{α:Type}(p:α->Bool)(l:qr α):(!decide (dD p l<0))=l.any p:=by
 have:=xK p l;cases h:l.any p with
 |true=>grind
 |false=>grind
theorem aiT{w:Nat}(l:qr bM)(hl:l.length<2^40)(hw:l.length<w):Gi w (dZ l)=some (l.any λs=>s.cg==218):=by unfold Gi Oj;rw[NR l (λs=>s.cg==218) (G5 w) (λs _=>by unfold G5;rw[cj];rfl) hl hw];simp[KK]
theorem aiX(w:Nat)(m:Int)(a b:H1):BW w m a b=some (qd m):=by
 unfold BW On qd;by_cases h1:m<224
 ·have:¬(224<=m/\m<=239):=by omega
  simp_all
 ·by_cases h2:m<240
  ·have:(224<=m/\m<=239):=by omega
   simp[h1,h2,this]
  ·have:¬(224<=m/\m<=239):=by omega
   simp[h2,this]
theorem aiS{w:Nat}(l:qr bM)(hl:l.length<2^40)(hw:l.length<w):Gk w (dZ l)=some (l.any λs=>qd s.cg):=by unfold Gk Ol;rw[NR l (λs=>qd s.cg) (BW w) (λs _=>aiX w _ _ _) hl hw];simp[KK]
theorem EN(L:Nat):∀(f:Nat)(first:Bool)(r:qr UInt8)(l:qr bM)(e:Nat),mn L f first r=.ok l e->l.length<=f
 |0,_,_,_,_,h=>by cases h
 |f+1,first,r,l,e,h=>by
  unfold mn at h;split at h
  ·grind
  ·grind
  ·grind
  ·split at h
   ·rename_i q;cases h;have:=EN L f _ _ _ _ q;simp_all
   grind
theorem Ph{w:Nat}(b:qr UInt8)(hb:b.length<2^28)(hw:b.length+10<w):zg w (ag b)=some (nE b):=by
 unfold zg NV nE;rw[Ih b hb hw];cases h:ofM b with
 |bad a e=>
  have he:e≠0:=by
   have:∀(L f:Nat)(first:Bool)(r:qr UInt8)(a:Nat)(e:Int),r.length<f->mn L f first r=.bad a e->e≠0:=by
    intro L f;induction f with
    |zero=>omega
    |succ f ih=>
     intro first r a e hr h
     unfold mn at h;split at h
     ·cases h;decide
     ·cases h;decide
     ·cases h
     ·rename_i s t hs;split at h
      ·cases h
      ·refine ih false t a e ?_ h;cases first with
       |true=>
        obtain⟨h1,h2⟩:=Xq hs;have hs2:2<=(cV s).length:=by unfold cV;split<;>simp<;>omega
        have:=bY List.length h2;rw[aT] at this;omega
       |false=>
        obtain⟨h1,h2⟩:=Xr hs;have hs2:2<=(cV s).length:=by unfold cV;split<;>simp<;>omega
        have:=bY List.length h2;rw[aT] at this;omega
   exact this _ _ _ _ _ _ (by omega) h
  simp_all
 |ok l e=>
  have hl:=EN _ _ _ _ _ _ h;have he:=(Ua h).2.1;simp only[aA,aD,cI,aU,bU];by_cases h1:e=b.length
  ·have e1:¬((b.length:Int)<(b.length:Int)):=by omega
   simp_all;rw[aiT l (by omega) (by omega)];cases l.any (λs=>s.cg==218) with
   |false=>rfl
   |true=>
    simp;rw[aiS l (by omega) (by omega)];simp only[aA]
    congr 1
    rw[List.not_any_eq_all_not]
  ·have e1:((e:Int)<(b.length:Int)):=by omega
   simp only[e1,aY,aE,h1,aA];rfl
theorem C1:∀l:qr UInt8,pS (l.map aZ)=some (l.map λb=>(b.toNat:Int))
 |[]=>rfl
 |b::l=>by show ob (pS (l.map aZ)) _=_;rw[C1 l];rfl
theorem EE(l:qr UInt8):(mkStr (l.map λb=>(b.toNat:Int))).data.toList=l:=by
 unfold mkStr;simp
 conv=>rhs;rw[<-List.map_id l]
 apply List.map_congr_left;simp
theorem ze(w:Nat)(a b:qr UInt8):sQ w (ag a) (ag b)=some (decide (a=b)):=by
 unfold sQ;rw[im,gZ,C1];simp;rw[im,gZ,C1];simp;rw[EE,EE,Dx]
 grind
theorem yG(w:Nat)(a p:qr UInt8):yF w (ag a) (ag p)=some (p.isPrefixOf a):=by
 unfold yF;simp only[cI,aU,bU];by_cases h:p.length<=a.length
 ·have e1:¬((a.length:Int)<(p.length:Int)):=by omega
  simp only[e1,aE,gF,h];rw[lY a h,ze];simp
  congr 1
  rw[iH,cf,pY];constructor
  ·intro q;rw[<-q];exact List.take_prefix _ _
  ·intro q;exact(List.prefix_iff_eq_take.1 q).symm
 ·have e1:((a.length:Int)<(p.length:Int)):=by omega
  simp only[e1,aY,bH,aD]
  congr 1
  rw[eq_comm,Bool.eq_false_iff];intro q;exact h (List.IsPrefix.length_le (pY.1 q))
theorem Pj(w:Nat)(a:qr UInt8):CE w (ag a)=some (fC.isPrefixOf a):=by unfold CE yz;have:ae 4 (List.drop 0 [Value.int IntKind.u8 77,Value.int IntKind.u8 80,Value.int IntKind.u8 70,Value.int IntKind.u8 0])=ag fC:=rfl;rw[this,yG];rfl
theorem aj1{w:Nat}(s:bM)(h1:s.scan.length<2^60)(hw:s.scan.length<w):G7 w s.cg (ag s.data) (ag s.scan)=some (mX s):=by
 unfold G7 mX;rw[XV,XU _ h1 hw];simp only[aA,cI,aU,bU,cj];cases lL s.cg with
 |false=>rfl
 |true=>
  by_cases c1:s.data.length<=65533
  ·have e1:¬((65533:Int)<(s.data.length:Int)):=by omega
   simp only[e1,bL,gj,aE,c1];by_cases c2:s.scan.length=0
   ·have e2:((s.scan.length:Int)=0):=by omega
    rw[mO c2];rfl
   ·have e2:¬((s.scan.length:Int)=0):=by omega
    have e3:s.scan.isEmpty=false:=by
     cases q:s.scan with
     |nil=>rw[q] at c2;exact absurd rfl c2
     |cons _ _=>rfl
    simp only[e2,bL,aD,e3,zI];by_cases c3:s.cg=218
    ·simp only[c3,aY,aE,eV]
     congr 1
     rw[iH,cf,cf];omega
    ·simp_all
  ·have e1:((65533:Int)<(s.data.length:Int)):=by omega
   simp[e1,aY,bH,aD,c1,bL]
theorem XW(w:Nat)(s:bM)(m:Int)(h1:s.data.length+s.scan.length<2^60):Ck w s.cg (ag s.data) (ag s.scan) m=some (lW s m):=by
 unfold Ck lW;simp_all;rw[aP (by omega) (by omega)];by_cases c1:s.cg=m
 ·simp_all
  congr 1
  rw[iH,cf,bB,List.isEmpty_iff,List.isEmpty_iff];constructor
  ·intro q;exact⟨mO (by omega),mO (by omega)⟩
  grind
 grind
theorem K9:∀(t:qr bM),jC t=true↔∃(h:t≠[]),lW (t.getLast h) 217=true/\∀s∈t.dropLast,mX s=true
 |[]=>by simp[jC]
 |[s]=>by simp[jC]
 |s::s'::t=>by
  simp only[jC,bB,(K9 (s'::t))]
  grind
def xe(l:qr bM)(m:Nat):Prop:=∀s∈l,s.data.length+s.scan.length<=m
theorem aje{w m:Nat}(l:qr bM)(hm:m<2^59)(hs:xe l m)(hl:l.length<2^40)(hw:l.length<w/\m<w)(h:mS l=true):Gv w (dZ l)=some true:=by
 cases l with
 |nil=>cases h
 |cons s t=>
  simp[mS] at h;obtain⟨h1,h2⟩:=h;obtain⟨cL,h3,h4⟩:=(K9 t).1 h2;have hpos:=List.length_pos_iff.2 cL;have hlr:∀K:Nat->Hx Bool,aw (dZ (s::t)) K=K (t.length+1):=λK=>cd cW (s::t) K;have tg:∀(s:bM)(r:qr H1),cW s++r=.int .i64 s.cg::ag s.data::ag s.scan::r:=λ_ _=>rfl;unfold Gv;simp at hl hw;simp only[hlr,ji,bU];rw[aP (by omega) (by omega)];have e1:¬((t.length:Int)<1):=by omega
  simp[e1];unfold dZ;rw[bn jR (show 0<(s::t).length by simp)];simp_all;have b1:=hs s (by simp);rw[XW w s 216 (by omega)];rw[bn jR (show t.length<(s::t).length by simp)];have e2:(s::t)[t.length]=t.getLast cL:=by rw[List.getLast_eq_getElem];simp only[List.getElem_cons];rw[dif_neg (by omega)]
  simp_all;have b2:=hs (t.getLast cL) (by simp);rw[XW w _ 217 (by omega)];have e4:1<=t.length:=hpos;simp_all;rw[tz jR (s::t) (show t.length<=(s::t).length by simp)];have e5:((s::t).drop 1).take (t.length -1)=t.dropLast:=by rw[List.drop_one,List.tail_cons,List.dropLast_eq_take]
  rw[e5];unfold NX Om;have:=NR (w:=w) t.dropLast (λs=>!mX s) (G6 w) (λx hx=>by unfold G6;have b3:=hs x (by simp[(λx hx=>List.dropLast_subset t hx) x hx]);rw[aj1 x (by omega) (by omega)];rfl) (by rw[List.length_dropLast];omega) (by rw[List.length_dropLast];omega);unfold dZ at this;rw[this];simp only[aA,aU,KK];have:(t.dropLast.any λs=>!mX s)=false:=by rw[List.any_eq_false];intro x hx;rw[h4 x hx];simp
  rw[this];rfl
theorem P0{l:qr bM}(h:mS l=true){s:bM}(hs:s∈l):0<=s.cg/\s.cg<256/\(je s.cg=true->s.data=[]/\s.scan=[])/\s.data.length<=65533:=by
 cases l with
 |nil=>grind
 |cons a t=>
  simp[mS] at h;obtain⟨h1,h2⟩:=h;obtain⟨cL,h3,h4⟩:=(K9 t).1 h2;have bare:∀(x:bM)(m:Int),lW x m=true->x.cg=m/\x.data=[]/\x.scan=[]:=λx m q=>by unfold lW at q;simp_all
  rcases cZ.1 hs with rfl|hs
  ·grind
  ·have:=List.dropLast_concat_getLast cL;rw[<-this] at hs;rcases fT.1 hs with hs|hs
   ·have q:=h4 s hs;unfold mX lL at q
    grind
   grind
theorem agF(n:Nat):bc n 2 2=[UInt8.ofNat (n/256%256),UInt8.ofNat (n%256)]:=rfl
theorem Yp{w m:Nat}(A:Hand w)(l:qr bM)(hm:m<2^27)(hs:xe l m)(hl:l.length<2^27)(hw:l.length<w/\m<w/\20<=w)(h:mS l=true)(hb:(dt l).length<2^28):wE w (dZ l)=some (ag (dt l),0):=by
 unfold wE;rw[aje l (by omega) hs (by omega) ⟨hw.1,hw.2.1⟩ h];have hlr:∀K:Nat->Hx (H1×Int),aw (dZ l) K=K l.length:=λK=>cd cW l K;rw[hlr];unfold dZ;refine nN (σ:=qr UInt8) (ev:=λi s (g:H1->Int->Int->qr H1->Hx (H1×Int))=>g (aB cW l) l.length i (s.map aZ)) (Inv:=λi s=>s++dt (l.drop i)=dt l) l.length [] ?_ ?_ ?_ (by omega)
 ·rfl
 ·rintro i g s hi hI
  rw[dk hi,kN] at hI;refine⟨s++cV l[i],by rw[<-hI,dM],?_⟩;have hmem:=cA hi;obtain⟨m1,m2,m3,m4⟩:=P0 h hmem;have hsz:=hs _ hmem;have e1:((i:Int)<(l.length:Int)):=by omega
  have hlen:=bY List.length hI;simp only[aT] at hlen;simp only[aU,e1,aY,aE,bP];rw[bn jR hi];have tg:∀(s:bM)(r:qr H1),cW s++r=.int .i64 s.cg::ag s.data::ag s.scan::r:=λ_ _=>rfl;simp only[tg,aX,bu];have hw8:ah IntKind.u8 l[i].cg=((UInt8.ofNat l[i].cg.toNat).toNat:Int):=by rw[pc,IntKind.wrap_u8,wX];omega
  have e2:Value.int IntKind.u8 255=aZ 255:=rfl;have e3:Value.int IntKind.u8 ((UInt8.ofNat l[i].cg.toNat).toNat:Int)=aZ (UInt8.ofNat l[i].cg.toNat):=rfl;have r1:aH s.length=true:=by simp;omega
  simp only[hw8,e2,e3,cD,r1,show aH 2=true from rfl,ew,oa,oZ,bW,List.length_nil,eV];rw[show Nat.beq (0+1+1) 2=true from rfl,aE,N2];simp only[aA,cI,cc,bU];rw[aP (n:=(i:Int)+1) (by omega) (by omega)];cases ha:je l[i].cg with
  |true=>
   simp only[aE];have:cV l[i]=[255,UInt8.ofNat l[i].cg.toNat]:=by unfold cV;rw[ay ha]
   rw[this,fS];rfl
  |false=>
   simp only[aD];have hsb:cV l[i]=[255,UInt8.ofNat l[i].cg.toNat]++(bc (l[i].data.length+2) 2 2++(l[i].data++l[i].scan)):=by unfold cV;rw[ha,agF,qH (show(l[i].data.length+2)/256<256 by omega)];simp
   rw[aP (n:=(l[i].data.length:Int)+2) (by omega) (by omega),sK (by omega),ay (show gw 2 2=true from rfl)];have hp:pL ((l[i].data.length:Int)+2) (2:Int).toNat 2=some (bc (l[i].data.length+2) 2 2):=by
    unfold pL;rw[ay ⟨by omega,by show _<((256^2:Nat):Int);omega⟩]
    congr 1
   rw[hp];simp only[aA];have hc:=A.cat (bc (l[i].data.length+2) 2 2) l[i].data l[i].scan (s++[255,UInt8.ofNat l[i].cg.toNat]) (by rw[eI];omega) (by rw[eI,aT];simp only[bW,List.length_nil];omega);rw[fS] at hc;have hc:ug w (ag (bc (l[i].data.length+2) 2 2)) (ag l[i].data) (ag l[i].scan) (s.map aZ++[aZ 255,aZ (UInt8.ofNat l[i].cg.toNat)])=_:=hc;rw[hc];simp only[aA];rw[hsb];simp only[dM];rfl
 ·rintro g s hI
  rw[rG] at hI;simp only[dt,lH,ea] at hI;subst hI;have e1:¬((l.length:Int)<(l.length:Int)):=by omega
  simp only[aU,e1,bL,aD];rw[ve _ _ (by rw[kB,cD])];rfl
noncomputable def TQ(w:Nat)(rest ch:H1)(cs:qr H1):Hx (H1×Int):=
 aw ch λ(x31:Nat)=>lp (λ(x32 x33:H1)(x34 x35:Int)(x36:qr H1)=>none) (λ(x37:H1->H1->Int->Int->qr H1->Hx (H1×Int))(x38 x39:H1)(x40 x41:Int)(x42:qr H1)=>bif ak x41 x40 then aF x41 λ(x43:Nat)=>aJ 1 x43 x39 λ(x44:qr H1)=>af x44 λ(x45:H1)(x46:qr H1)=>ob (zh w 226 x45 x42) λ(x47:qr H1)=>x37 x38 x39 x40 (ah .i64 (x41.add 1)) x47 else aw x38 λ(x48:Nat)=>bif x48.ble x48&&Nat.ble 1 x48 then gL 3 1 x48 x38 λ(x49:H1)=>dQ 3 x49 λ(x50:Nat)(x51:qr H1)=>bif aH x42.length&&(aH x50&&x51.length.beq (x50*3)) then ob (wE w (ae ((x42++x51).length/3) (x42++x51))) λ(x52:H1×Int)=>some (x52.fst,x52.snd) else none else none) w rest ch (Int.ofNat x31) 0 cs
theorem ZO(l:qr UInt8):(eM l).length=1:=rfl
theorem Xt(l:qr bM):ae ((l.flatMap cW).length/3) (l.flatMap cW)=dZ l:=by unfold dZ aB;rw[da jR,ja _ (show 0<3 by decide)]
theorem Yo(w:Nat)(m:Int)(d:qr UInt8)(P:qr bM)(h:P.length<300000000):zh w m (ag d) (P.flatMap cW)=some ((P++([⟨m,d,[]⟩]:qr bM)).flatMap cW):=by unfold zh BN;simp only[(da jR P),(show aH (P.length*3)=true from by simp;omega)];rw[fD];rfl
theorem ac1{w m:Nat}(A:Hand w)(s0:bM)(r P:qr bM)(ch:qr (qr UInt8))(L:qr bM)(hL:L=P++(ch.map (λc=>⟨226,c,[]⟩)++r))(hm:m<2^27)(hs:xe L m)(hl:L.length<2^27)(hw:L.length<w/\m<w/\20<=w)(h:mS L=true)(hb:(dt L).length<2^28):TQ w (dZ (s0::r)) (aB eM ch) (P.flatMap cW)=some (ag (dt L),0):=by
 have hLl:L.length=P.length+(ch.length+r.length):=by rw[hL];simp
 unfold TQ;refine nN (σ:=qr bM) (ev:=λi s (g:H1->H1->Int->Int->qr H1->Hx (H1×Int))=>g (dZ (s0::r)) (aB eM ch) ch.length i (s.flatMap cW)) (Inv:=λi s=>s++((ch.drop i).map (λc=>⟨226,c,[]⟩)++r)=L) ch.length P ?_ ?_ ?_ (by omega)
 ·rw[ew,<-hL]
 ·rintro i g s hi hI
  rw[dk hi,iw] at hI;refine⟨s++[⟨226,ch[i],[]⟩],by rw[<-hI];simp,?_⟩;have hlen:=bY List.length hI;simp at hlen;have e1:((i:Int)<(ch.length:Int)):=by omega
  simp only[aU,e1,aE,bP];rw[bn ZO hi];have tg:∀(b:qr UInt8)(r:qr H1),eM b++r=ag b::r:=λ_ _=>rfl;simp only[tg,aX];rw[Yo w 226 ch[i] s (by omega)];simp only[cc];rw[aP (by omega) (by omega)];rfl
 ·rintro g s hI
  simp at hI;have hlen:=bY List.length hI;simp at hlen;have e1:¬((ch.length:Int)<(ch.length:Int)):=by omega
  simp only[aU,e1,aD];have hlr:∀K:Nat->Hx (H1×Int),aw (dZ (s0::r)) K=K (r.length+1):=λK=>cd cW (s0::r) K;simp only[hlr,gF,(by omega),aM,aY,jG,aE];unfold dZ;rw[tz jR (s0::r) (show r.length+1<=(s0::r).length by simp)];have e3:((s0::r).drop 1).take (r.length+1 -1)=r:=by simp
  rw[e3,xG jR];have hf2:(r.flatMap cW).length=r.length*3:=da jR r;have r1:aH (s.length*3)=true:=by simp;omega
  have r2:aH r.length=true:=by simp;omega
  rw[(da jR s),hf2,r1,r2,np];rw[<-fD,hI,Xt,Yp A L hm hs hl hw h hb];rfl
theorem NS:∀{r:qr bM}{s:bM},s∈r->(cV s).length<=(dt r).length
 |[],s,h=>by grind
 |a::r,s,h=>by
  rw[kN,aT];rcases cZ.1 h with rfl|h
  ·simp
  ·have:=NS h;omega
theorem X5{w m:Nat}(W:cX w){x:nv}{aO:qr UInt8}(h:xb x aO)(hx:jI x.aC 9000)(hm:m<2^24)(hc:x.core.length<=m/\x.bZ.length<=m/\x.cy.length<=m)(hw:2*m+200000<w)(a b:Int):
 yX w x.aC.order (ar x.aC.cn) (ar x.aC.bD) (ar x.aC.bG) (ar x.aC.bj) (ar x.aC.first) (ag x.aC.bC) (ag x.aC.cF) (ag x.bZ) (ag x.core) (ag x.cy) a b=some (ag (eR x aO),0):=by
 have hb:=W.kF;have hA:=W.hand;obtain⟨-,hp1,hp2,hp3,-⟩:=zZ h.app h.rows;obtain⟨r,c1,c2,c3,c4,c5,c6⟩:=DJ h.core;have hmayL:=KM h.core hp2 h.bZ (by rcases h.cy with q|q;omega;exact q.2);have hcl:(⟨216,[],[]⟩::r:qr bM).length<=x.core.length+1:=EN _ _ _ _ _ _ c1;have hrl:r.length<=x.core.length:=by simpa using hcl
 have hchl:(gp x.bZ).length<=1:=by unfold gp;split<;>simp
 have hLdef:jB x aO=[⟨216,[],[]⟩,⟨225,aO,[]⟩]++((if x.cy.length=0 then[] else[⟨226,x.cy,[]⟩])++((gp x.bZ).map (λc=>⟨226,c,[]⟩)++r)):=by unfold jB;rw[c2];rfl
 have hLl:(jB x aO).length<=x.core.length+4:=by rw[hLdef];simp only[aT,cD,bW,List.length_nil];split<;>simp<;>omega
 have hwr:∀s∈r,(cV s).length<=x.core.length:=by intro s hs;have:=bY List.length c4;rw[kN,aT] at this;have hle:=NS hs;omega
 have hmayC:mS (⟨216,[],[]⟩::r)=true:=by show(true&&jC r)=true;rw[c3];rfl
 have hsegs:xe (jB x aO) (m+70000):=by
  intro s hs;rw[hLdef] at hs;rcases fT.1 hs with hs|hs
  ·simp only[cZ,nk,nr] at hs;rcases hs with rfl|rfl
   ·simp
   ·simp only[List.length_nil];omega
  ·rcases fT.1 hs with hs|hs
   ·split at hs
    ·cases hs
    ·rw[nj.1 hs];simp only[List.length_nil];omega
   ·rcases fT.1 hs with hs|hs
    ·obtain⟨c,hc',rfl⟩:=mF.1 hs;have:=QX h.bZ hc';simp only[List.length_nil];omega
    ·have h1:=hwr s hs;by_cases ha:je s.cg=true
     ·obtain⟨-,-,q,-⟩:=P0 hmayC (mE _ hs);obtain⟨q1,q2⟩:=q ha;rw[q1,q2];simp
     ·unfold cV at h1;rw[aq ha] at h1;simp at h1;omega
 have hwl:(dt (jB x aO)).length<2^28:=by
  have e:dt (jB x aO)=cV ⟨216,[],[]⟩++(cV ⟨225,aO,[]⟩++(dt (if x.cy.length=0 then[] else[⟨226,x.cy,[]⟩])++(dt ((gp x.bZ).map (λc=>⟨226,c,[]⟩))++dt r))):=by rw[hLdef];simp[dt]
  have k1:(cV ⟨216,[],[]⟩).length=2:=rfl;have k2:(cV ⟨225,aO,[]⟩).length<=aO.length+4:=by unfold cV;split<;>simp<;>omega
  have k3:(dt (if x.cy.length=0 then[] else[⟨226,x.cy,[]⟩])).length<=x.cy.length+4:=by
   split
   ·simp[dt]
   ·simp only[dt,dN,lH,ea];unfold cV;split<;>simp<;>omega
  have k4:(dt ((gp x.bZ).map (λc=>⟨226,c,[]⟩))).length<=x.bZ.length+30:=by
   unfold gp;split
   ·simp[dt]
   ·simp[dt];unfold cV;split<;>simp[fX]<;>omega
  have k5:(dt r).length<=x.core.length:=by have:=bY List.length c4;rw[kN,aT] at this;omega
  rw[e];simp only[aT,k1];omega
 have hcut:=hA.cut x.bZ h.bZ;have h32:=O7 W hx;rw[h.app] at h32;have hmb:x.core.length<2^28:=by omega
 have h50:=Ph (w:=w) x.core hmb (by omega);rw[h.core] at h50;have h52:=Ih (w:=w) x.core hmb (by omega);rw[c1] at h52;have ix0:∀(K:qr H1->Hx (H1×Int)),aJ 3 0 (dZ (⟨216,[],[]⟩::r)) K=K (.int .i64 216::ag []::ag []::r.flatMap cW):=by intro K;unfold dZ;rw[bn jR (show 0<(⟨216,[],[]⟩::r:qr bM).length by simp)];rfl
 have h53:Pk w 225 (ag aO) [Value.int .i64 216,ag [],ag []]=some ([⟨216,[],[]⟩,⟨225,aO,[]⟩].flatMap cW):=rfl;have fin:=λP hL=>ac1 (m:=m+70000) hA ⟨216,[],[]⟩ r P (gp x.bZ) (jB x aO) hL (by omega) hsegs (by omega) ⟨by omega,by omega,by omega⟩ hmayL hwl;unfold yX NB NL;rw[h32];simp only[aA,show aj 0 0=true from rfl,bH,aD];rw[hcut];simp only[aA,show aj 0 0=true from rfl,bH,aD];rw[h50];simp only[aA,bH,aD,cI];by_cases hmp:x.cy.length=0
 ·have e1:ak 0 (Int.ofNat x.cy.length)=false:=by rw[hmp];rfl
  have e2:ak 65533 (Int.ofNat x.cy.length)=false:=by rw[hmp];rfl
  simp only[e1,e2,aD];rw[h52];simp only[aA,ix0,aX,bu];rw[h53];simp only[aA];exact fin _ (by rw[hLdef,ay hmp];rfl)
 ·have e1:ak 0 (Int.ofNat x.cy.length)=true:=by simp;omega
  obtain⟨m1,m2⟩:=h.cy.resolve_left hmp;have e2:ak 65533 (Int.ofNat x.cy.length)=false:=by simp;omega
  simp only[e1,aE];rw[Pj,m1];simp only[aA,bH,aD,e2];rw[h52];simp only[aA,ix0,aX,bu];rw[h53];simp only[aA];rw[Yo w 226 x.cy _ (by simp)];simp only[aA];exact fin _ (by rw[hLdef,aq hmp];simp)
def eP(T:qr Nat):qr H1:=T.map λn:Nat=>.int .u64 (n:Int)
theorem Zl{T:qr Nat}{i:Nat}(h:i<T.length):(eP T).drop i=.int .u64 (T[i]:Int)::eP (T.drop (i+1)):=by unfold eP;rw[<-List.map_drop,dk h,iw]
def Dz(T:qr Nat)(p:Nat):Bool:=((T[p/64]?).getD 0).testBit (p%64)
def gH(S:qr bq)(p:Nat):Bool:=S.any λs=>decide (s.at_<=p/\p<s.at_+s.cJ)
structure Tk(T:List Nat)(L:Nat)(P:Nat->Bool):Prop where
 len:T.length=L/64+1
 lt:∀n∈T,n<2^64
 bit:∀p,p<L->Dz T p=P p
theorem TB(p:Nat)(hp:p<2^60):ah IntKind.u64 (((BitVec.ofInt 64 (ah IntKind.u64 (p:Int))&&&BitVec.ofInt 64 63).toNat:Nat):Int)=((p%64:Nat):Int):=by
 rw[tb (n:=(p:Int)) (by simp) (by omega)];have e:(BitVec.ofInt 64 (p:Int)&&&BitVec.ofInt 64 63).toNat=p%64:=by rw[BitVec.ofInt_natCast,BitVec.toNat_and,BitVec.toNat_ofNat,qH (by omega)];exact Nat.and_two_pow_sub_one_eq_mod p 6
 rw[e];exact tb (by omega) (by omega)
theorem ZI(n k:Nat)(hn:n<2^64)(hk:k<64):aj (((BitVec.ofInt 64 ((n:Int).fdiv (2^min ((k:Int)).toNat 64))&&&BitVec.ofInt 64 1).toNat:Nat):Int) 1=n.testBit k:=by
 rw[nh,kC (by omega)];have e:(n:Int).fdiv (2^k)=((n/2^k:Nat):Int):=by grind
 rw[e,BitVec.ofInt_natCast,cj]
 grind
theorem or_eq(n k:Nat)(hn:n<2^64)(hk:k<64):ah IntKind.u64 (((BitVec.ofInt 64 (n:Int)|||BitVec.ofInt 64 (ah IntKind.u64 (Int.mul 1 (2^min ((k:Int)).toNat 64)))).toNat:Nat):Int)=((n|||2^k:Nat):Int)/\n|||2^k<2^64:=by have hk2:2^k<2^64:=Nat.pow_lt_pow_right (by simp) hk;have hor:=Nat.or_lt_two_pow hn hk2;refine⟨?_,hor⟩;rw[nh,kC (by omega),oD,Int.one_mul,(show(2:Int)^k=((2^k:Nat):Int) from(Int.natCast_pow 2 k).symm),tb (n:=((2^k:Nat):Int)) (Int.natCast_nonneg _) (by grind),BitVec.ofInt_natCast,BitVec.ofInt_natCast,BitVec.toNat_or,BitVec.toNat_ofNat,BitVec.toNat_ofNat,qH hn,qH hk2];exact tb (by simp) (by omega)
theorem JN(p:Nat)(hp:p<2^60):(p:Int).fdiv (2^6)=((p/64:Nat):Int):=by grind
theorem akQ(w:Nat){T:qr Nat}{L:Nat}{P:Nat->Bool}(H:Tk T L P)(hL:L<2^50)(p:Nat)(hp:p<L)(b:H1)(o:Int)(sh:H1)(c:Nat)(no so:Int)(S:qr H1):
 HZ w (p:Int) b o sh T.length c no so (eP T) S=some (P p,b,o,sh,T.length,c,no,so,eP T,S):=by
 have hlt:p/64<T.length:=by rw[H.len];omega
 have hb:=H.bit p hp;unfold Dz at hb;rw[cG hlt,qI] at hb;unfold HZ yw;rw[JN p (by omega)];simp only[bP,mK,hlt,aY,aE,gk,fU];rw[Zl hlt];simp only[aX,bu];rw[(TB p (by omega))];simp only[aU,(show¬(((p%64:Nat):Int)<0) from by omega),bL,aD];have hx:=ZI T[p/64] (p%64) (H.lt _ (cA hlt)) (by omega);rw[hb] at hx;have hle:(BitVec.ofInt 64 ((T[p/64]:Int).fdiv (2^min (((p%64:Nat):Int)).toNat 64))&&&BitVec.ofInt 64 1).toNat<=1:=by rw[BitVec.toNat_and];have:(BitVec.ofInt 64 1).toNat=1:=rfl;rw[this,Nat.and_one_is_mod];omega
 rw[(λz hz=>tb (by omega) (by omega)) _ hle,hx]
theorem aiI{T:qr Nat}{L:Nat}{P:Nat->Bool}(H:Tk T L P){p:Nat}(hp:p<L):Tk (T.set (p/64) ((T[p/64]?).getD 0|||2^(p%64))) L (λq=>P q||decide (q=p)):=by
 have hlt:p/64<T.length:=by rw[H.len];omega
 have hw:(T[p/64]?).getD 0<2^64:=by rw[cG hlt];exact H.lt _ (cA hlt)
 refine⟨by rw[List.length_set,H.len],λn hn=>?_,λq hq=>?_⟩
 ·rcases List.mem_or_eq_of_mem_set hn with h|h
  ·exact H.lt n h
  ·rw[h];exact Nat.or_lt_two_pow hw (Nat.pow_lt_pow_right (by simp) (by omega))
 ·have hb:=H.bit q hq;unfold Dz at hb⊢
  grind
theorem Hy{w:Nat}{T:qr Nat}{L:Nat}{S S':qr bq}{x:bq}(H:Tk T L (gH S))(hL:L<2^50)(hw:L+2<w)(ht:lE L S x=.ok S')(hS:S.length<100000000)(b:qr UInt8)(hb:b.length=L)(o:Int)(sh:H1)(c:Nat)(no so:Int):
 S'=S++[x]/\∃T',Tk T' L (gH S')/\T'.length=T.length/\rm w x.nX x.dir x.tag (x.at_:Int) (x.cJ:Int) (ag b) o sh T.length c no so (eP T) (S.flatMap bV)=some (.inl (ag b,o,sh,T.length,c,no,so,eP T',S'.flatMap bV)):=by
 unfold lE at ht;split at ht
 case isFalse=>cases ht
 rename_i h1;split at ht
 ·cases ht
 rename_i h2;injection ht with ht;subst ht;refine⟨rfl,?_⟩;obtain⟨he,hr⟩:=h1;have hcl:∀q,x.at_<=q->q<x.at_+x.cJ->gH S q=false:=by intro q q1 q2;unfold gH;rw[List.any_eq_false];intro s hs;simp only[cf];intro hq;apply h2;unfold DH;rw[List.any_eq_true];exact⟨s,hs,by simp only[cf];omega⟩
 have hfin:∀q,(gH (S++[x]) q)=(gH S q||decide (x.at_<=q/\q<x.at_+x.cJ)):=by intro q;unfold gH;rw[List.any_append];simp
 have H0:Tk T L (λq=>gH S q||decide (x.at_<=q/\q<x.at_+0)):=by
  refine⟨H.len,H.lt,λq hq=>?_⟩;rw[H.bit q hq];have:decide (x.at_<=q/\q<x.at_+0)=false:=by simp
  rw[this,Bool.or_false]
 unfold rm NH NK yw;have hmod:(x.at_:Int).tmod 2=0:=by rw[Int.tmod_eq_emod_of_nonneg (by omega)];omega
 rw[hmod];simp only[show aj 0 0=true from rfl,aE,cI];rw[HY w ⟨by simp only[oV];omega,by simp only[oV];omega⟩ (by omega)];have hroom:(0<=(x.at_:Int)/\0<=(x.cJ:Int)/\(x.at_:Int)<=Int.ofNat b.length/\(x.cJ:Int)<=Int.ofNat b.length -(x.at_:Int)):=by simp only[oV];omega
 simp only[aA,hroom,and_self,aY];have h232:fq w true 4=some (.inl ()):=rfl;rw[h232];simp only[aA,iQ];generalize hG:lp _ _=G;have hF:=acL hG;clear hG;have key:∀(d k v:Nat)(T:qr Nat),k+d=x.cJ->d<v->Tk T L (λq=>gH S q||decide (x.at_<=q/\q<x.at_+k))->
  ∃T',Tk T' L (gH (S++[x]))/\T'.length=T.length/\G v ((x.at_+k:Nat):Int) (ag b) o sh T.length c no so x.nX x.dir x.tag (x.at_:Int) (x.cJ:Int) (eP T) (S.flatMap bV)=some (.inl (ag b,o,sh,T.length,c,no,so,eP T',(S++[x]).flatMap bV)):=by
  intro d;induction d with
  |zero=>
   intro k v T hk hv HT;obtain⟨u,rfl⟩:∃u,v=u+1:=⟨v -1,by omega⟩;refine⟨T,⟨HT.len,HT.lt,λq hq=>?_⟩,rfl,?_⟩
   ·rw[HT.bit q hq,hfin,show k=x.cJ by omega]
   ·simp only[hF];rw[cc,aP (by omega) (by omega)];have e1:¬(((x.at_+k:Nat):Int)<(x.at_:Int)+(x.cJ:Int)):=by omega
    have hr1:aH (S.length*5)=true:=by simp;omega
    simp only[aU,e1,bL,aD,wG,hr1,show aH 1=true from rfl,ew,oa,oZ,bW,List.length_nil,eV];rw[show Nat.beq (0+1+1+1+1+1) 5=true from rfl,aE,fD];rfl
  |succ d ih=>
   intro k v T hk hv HT;obtain⟨u,rfl⟩:∃u,v=u+1:=⟨v -1,by omega⟩;have hpL:x.at_+k<L:=by omega
   have hlt:(x.at_+k)/64<T.length:=by rw[HT.len];omega
   have H2:=aiI HT hpL;have H3:Tk (T.set ((x.at_+k)/64) ((T[(x.at_+k)/64]?).getD 0|||2^((x.at_+k)%64))) L (λq=>gH S q||decide (x.at_<=q/\q<x.at_+(k+1))):=by
    refine⟨H2.len,H2.lt,λq hq=>?_⟩;rw[H2.bit q hq,Bool.or_assoc]
    congr 1
    rw[iH,sU,cf,cf,cf];omega
   obtain⟨T',t1,t2,t3⟩:=ih (k+1) u _ (by omega) (by omega) H3;refine⟨T',t1,by rw[t2,List.length_set],?_⟩;simp only[hF];rw[cc,aP (n:=(x.at_:Int)+(x.cJ:Int)) (by omega) (by omega)];have e1:(((x.at_+k:Nat):Int)<(x.at_:Int)+(x.cJ:Int)):=by omega
   simp only[aU,e1,aY,aE];have hno:(gH S (x.at_+k)||decide (x.at_<=x.at_+k/\x.at_+k<x.at_+k))=false:=by rw[hcl _ (by omega) (by omega)];simp
   rw[akQ w HT hL (x.at_+k) hpL,hno];simp only[aA];have h232:fq w (!false) 5=some (.inl ()):=rfl;rw[h232];simp only[aA,iQ];rw[JN _ (by omega)];simp only[bP,mK,hlt,aY,aE,gk,fU];rw[Zl hlt];simp only[aX,bu];rw[TB _ (by omega)];have e2:¬((((x.at_+k)%64:Nat):Int)<0):=by omega
   simp only[e2,bL,aD];obtain⟨o1,o2⟩:=or_eq T[(x.at_+k)/64] ((x.at_+k)%64) (HT.lt _ (cA hlt)) (by omega);rw[o1];have e3:(x.at_+k)/64+1<=(eP T).length:=by unfold eP;rw[cD];omega
   simp only[show∀n:Int,(SV.i IntKind.u64 n).cells.length.beq 1=true fromλ_=>rfl,eV,gF,e3,aY,aE,Ft,cc];rw[aP (by omega) (by omega),show((x.at_+k:Nat):Int)+1=((x.at_+(k+1):Nat):Int) by omega];have hset:(eP T).set ((x.at_+k)/64) (Value.int IntKind.u64 ((T[(x.at_+k)/64]|||2^((x.at_+k)%64):Nat):Int))=eP (T.set ((x.at_+k)/64) ((T[(x.at_+k)/64]?).getD 0|||2^((x.at_+k)%64))):=by unfold eP;rw[cG hlt,qI,<-List.map_set]
   rw[hset];rw[List.length_set] at t3;exact t3
 exact key x.cJ 0 w T (by omega) (by omega) H0
theorem Hw{w:Nat}(hw:5<=w)(b:qr UInt8)(hb:b.length<2^50){o:Int}(ho:o=1\/o=2)(p s:Nat)(hs:s=2\/s=4)(hp:p+s<=b.length):mZ w (ag b) o (p:Int) (s:Int)=some (ct b p s o:Int):=by have:=xH (s:=s) (by omega) ho (by omega);unfold mZ ct;rw[Cd hw b (by omega) _ _ _ (by omega),this];simp
structure qK(w L:Nat)(b:List UInt8)(o:Int):Prop where
 len:b.length=L
 small:L<2^29
 wide:L+200000<w
 ord:o=1\/o=2
theorem pQ{L:Nat}{S S':qr bq}{x:bq}(h:lE L S x=.ok S'):S'=S++[x]/\x.at_%2=0/\x.at_+x.cJ<=L:=by
 unfold lE at h
 grind
theorem akI{w L:Nat}{b:qr UInt8}{o:Int}(R:qK w L b o){T:qr Nat}{S S':qr bq}{x:bo}{t:aL}{dir:Nat}(H:Tk T L (gH S))(h:sy b o dir S x=.ok (t,S'))(hs:x.slot<4294967296)(hS:S'.length<100000000)(sh:H1)(c:Nat)(no so:Int):
 (∃u,S'=S++u)/\∃T' so',Tk T' L (gH S')/\T'.length=T.length/\
  HF w x.tag x.ty x.az (x.slot:Int) (dir:Int) (ag b) o sh T.length c no so (eP T) (S.flatMap bV)=some (.inl (t.tag,t.ty,t.az,ag t.data,ag b,o,sh,T.length,c,no,so',eP T',S'.flatMap bV)):=by
 have hsm:=R.small;have hlen:=R.len;have hw:=R.wide;have h232:fq w true 6=some (.inl ()):=rfl;unfold sy at h;split at h
 ·cases h
 rename_i h1;have hk:=AK x.ty;have e1:0<(kindOf x.ty).1 :=by omega
 have e2:¬(x.az<1):=by omega
 have e3:¬(65536<x.az):=by omega
 unfold HF F1;rw[Yh];simp only[aA,aU,e1,e2,e3,aY,bL,gj,aE];rw[h232];rw[Yi];simp only[aA];split at h
 ·rename_i h0;have e4:¬(0<((bQ x.ty x.az:Nat):Int)):=by omega
  simp only[e4,bL,aD];rw[akU (by omega) _ _ _ _ _ R.ord];have hl:0<jk x.ty x.az/\jk x.ty x.az<=4:=by
   unfold bQ at h0;have hpos:0<jk x.ty x.az:=by unfold jk;rw[aq (by omega)];exact Int.mul_pos (by omega) e1
   split at h0<;>omega
  have hv:IG x.ty x.az (x.slot:Int) o=(pI x.ty x.az (bc x.slot 4 o) o).map λd=>(d,((bc x.slot 4 o).drop d.length).all (·==0)):=by unfold IG;rw[ay ⟨by omega,by omega,hl.1,hl.2⟩,nh]
  rw[hv];split at h
  case h_2=>cases h
  rename_i d hd;injection h with h;cases h;rw[hd];simp only[rJ,aA];rw[h232];refine⟨⟨[],(ea _).symm⟩,?_⟩;cases((bc x.slot 4 o).drop d.length).all (·==0)<;>exact⟨T,_,H,rfl,rfl⟩
 ·rename_i h0;have e4:(0<((bQ x.ty x.az:Nat):Int)):=by omega
  simp only[e4,aY,aE];split at h
  ·cases h
  rename_i S2 ht;split at h
  case h_2=>cases h
  rename_i d hd;injection h with h;cases h;obtain⟨a1,a2,a3⟩:=pQ ht;obtain⟨_,T',t1,t2,t3⟩:=Hy (w:=w) H (by omega) (by omega) (by rw[<-hlen];exact ht) (by rw[a1,aT] at hS;omega) b hlen o sh c no so;refine⟨⟨_,a1⟩,T',so,t1,t2,?_⟩;dsimp only at t3 a3;rw[t3];simp only[aA,iQ,cI,bP,gF,aM,aY,eV];have e5:x.slot<=b.length:=by omega
  simp[e5];rw[lY _ (aM _),eQ (by rw[er];omega),Yj _ _ _ (by rw[er];omega) (by rw[er];omega) _ R.ord,hd];simp;rw[h232];simp
theorem akk{w L:Nat}{b:qr UInt8}{o:Int}(R:qK w L b o)(hL:8<=L)(ho:lO b=o)(h42:ct b 2 2 o=42){T:qr Nat}(H:Tk T L (gH []))(sh:H1)(c:Nat)(no so:Int):
 ∃T',Tk T' L (gH [⟨1,-1,0,0,8⟩])/\T'.length=T.length/\
  Hl w (ag b) 0 sh T.length c no so (eP T) []=some (.inl ((ct b 4 4 o:Int),ag b,o,sh,T.length,c,no,so,eP T',[⟨1,-1,0,0,8⟩].flatMap bV)):=by
 have hsm:=R.small;have hlen:=R.len;have hw:=R.wide;have ht:lE L [] ⟨1,-1,0,0,8⟩=.ok [⟨1,-1,0,0,8⟩]:=by unfold lE;rw[ay ⟨rfl,by show 0+8<=L;omega⟩];rfl
 obtain⟨_,T',t1,t2,t3⟩:=Hy (w:=w) H (by omega) (by omega) ht (by decide) b hlen o sh c no so;refine⟨T',t1,t2,?_⟩;have h288:=Hw (w:=w) (by omega) b (by omega) R.ord 2 2 (.inl rfl) (by omega);have h4:=Hw (w:=w) (by omega) b (by omega) R.ord 4 4 (.inr rfl) (by omega);have e1:¬(Int.ofNat b.length<8):=by simp;omega
 have e2:2<=b.length:=by omega
 have h232:∀n,fq w true n=some (.inl ()):=λ_=>rfl;unfold Hl BO;simp only[cI,aU,e1,bL,gj,h232,aA,iQ,gF,e2,aY,eV,aE];rw[show decide (0<=2)=true from rfl,lY _ e2,im,gZ,C1];simp only[aA];rw[EE,ew];have hor:(b.take 2=[73,73]/\o=1)\/(b.take 2=[77,77]/\o=2):=by
  unfold lO at ho;split at ho
  ·rename_i q;exact .inl ⟨q,ho.symm⟩
  ·split at ho
   ·rename_i q;exact .inr ⟨q,ho.symm⟩
   ·have:=R.ord;omega
 have h42b:aj ((ct b 2 2 o:Nat):Int) 42=true:=by rw[h42];rfl
 rcases hor with⟨q,rfl⟩|⟨q,rfl⟩
 ·rw[q,show mI [73,73] (ByteArray.mk #[73,73]).data.toList=true from rfl];rw[show(2:Int)=((2:Nat):Int) from rfl,h288];simp only[aA];rw[h42b,h232];simp;refine Eq.trans (bY (λz=>ob z _) t3) ?_;simp;rw[show(4:Int)=((4:Nat):Int) from rfl,h4];rfl
 ·rw[q,show mI [77,77] (ByteArray.mk #[73,73]).data.toList=false from rfl,show mI [77,77] (ByteArray.mk #[77,77]).data.toList=true from rfl,aE];rw[(show mZ w (ag b) 2 2 2=some (ct b 2 2 2:Int) from h288)];simp only[aA];rw[h42b,h232];simp;refine Eq.trans (bY (λz=>ob z _) t3) ?_;simp;rw[(show mZ w (ag b) 2 4 4=some (ct b 4 4 2:Int) from h4)];rfl
theorem JZ(b:qr UInt8)(o:Int):∀(n p:Nat),(kc b o p n).length=n
 |0,_=>rfl
 |n+1,p=>by show(kc b o (p+12) n).length+1=n+1;rw[JZ]
theorem Rs(b:qr UInt8)(o:Int):∀(n p i:Nat)(h:i<(kc b o p n).length),(kc b o p n)[i]=Ar b (p+12*i) o
 |0,_,i,h=>absurd h (Nat.not_lt_zero _)
 |n+1,p,0,h=>rfl
 |n+1,p,i+1,h=>by
  show(kc b o (p+12) n)[i]'(by simpa[kc] using h)=_
  rw[Rs b o n (p+12) i]
  grind
theorem Ww:∀{l:qr bo},fg l=true->∀{i:Nat}(h:i+1<l.length),l[i].tag<l[i+1].tag
 |[],_,i,h=>by grind
 |[_],_,i,h=>by grind
 |a::b::l,hr,i,h=>by
  simp[fg] at hr;cases i with
  |zero=>grind
  |succ i=>exact Ww hr.2 (by grind)
theorem D3(l:qr bo){c:qr H1}(h:c=l.flatMap bT):ae (c.length/4) c=aB bT l:=by rw[h,da kY,ja _ (by simp)];rfl
theorem aaQ{l:qr bo}{i:Nat}(h:i<l.length):(l.take (i+1)).flatMap bT=(l.take i).flatMap bT++bT l[i]:=by rw[iI h,fD];simp
theorem TZ(b:qr UInt8)(p s:Nat)(o:Int):ct b p s o<256^s:=by
 unfold ct pB;split
 ·rw[qI];have hl:(gV b p s o).length<=s:=by
   unfold gV;split<;>simp<;>omega
  exact o6 (Lp (gV b p s o)) (Nat.pow_le_pow_right (by simp) hl)
 grind
theorem T4(b:qr UInt8)(p:Nat){o:Int}(h:o=1\/o=2):ct b p 2 o<65536:=TZ b p 2 o
theorem EJ(b:qr UInt8)(p:Nat)(o:Int):ct b p 4 o<4294967296:=TZ b p 4 o
theorem akG{w L:Nat}{b:qr UInt8}{o:Int}(R:qK w L b o){T:qr Nat}{S S':qr bq}{at_ dir:Nat}(H:Tk T L (gH S))(h0:at_%2=0)(h1:at_+2<=L)(hn:ct b at_ 2 o≠0)(ht:lE L S ⟨2,dir,0,at_,6+12*ct b at_ 2 o⟩=.ok S')
 (hr:fg (kc b o (at_+2) (ct b at_ 2 o))=true) (hS:S.length<100000000) (hd:dir<2^40) (sh:H1) (c:Nat) (no so:Int):
 ∃T',Tk T' L (gH S')/\T'.length=T.length/\
  Hz w (at_:Int) (dir:Int) (ag b) o sh T.length c no so (eP T) (S.flatMap bV)=some (.inl (aB bT (kc b o (at_+2) (ct b at_ 2 o)),ag b,o,sh,T.length,c,no,so,eP T',S'.flatMap bV)):=by
 have hsm:=R.small;have hlen:=R.len;have hw:=R.wide;obtain⟨a1,a2,a3⟩:=pQ ht;obtain⟨n,hnn⟩:∃n,ct b at_ 2 o=n:=⟨_,rfl⟩;have hn2:n<65536:=by rw[<-hnn];exact T4 b at_ R.ord
 obtain⟨_,T',t1,t2,t3⟩:=Hy (w:=w) H (by omega) (by omega) ht hS b hlen o sh c no so;refine⟨T',t1,t2,?_⟩;have h288:=Hw (w:=w) (by omega) b (by omega) R.ord at_ 2 (.inl rfl) (by omega);have h232:∀k,fq w true k=some (.inl ()):=λ_=>rfl;have hmod:(at_:Int).tmod 2=0:=by rw[Int.tmod_eq_emod_of_nonneg (by omega)];omega
 rw[hnn] at hn t3 h288 hr a3⊢;dsimp only at t3 a3;unfold Hz Nz BI;rw[hmod,show aj 0 0=true from rfl,aE,cI,HY w ⟨by simp only[oV];omega,by simp only[oV];omega⟩ (by omega)];have hroom:(0<=(at_:Int)/\(0:Int)<=2/\(at_:Int)<=Int.ofNat b.length/\(2:Int)<=Int.ofNat b.length -(at_:Int)):=by simp only[oV];omega
 rw[eY hroom];simp only[aA];rw[h232];simp only[aA,iQ];have h288':mZ w (ag b) o (at_:Int) 2=some (n:Int):=h288;rw[h288'];simp only[aA];rw[show ak 0 (n:Int)=true by rw[aU,cf];omega,h232];simp only[aA,iQ];rw[oD,aP (n:=(12:Int)*(n:Int)) (by omega) (by omega),cc,aP (n:=(6:Int)+12*(n:Int)) (by omega) (by omega),show(6:Int)+12*(n:Int)=((6+12*n:Nat):Int) by omega,t3];simp only[aA,iQ];obtain⟨E,hE⟩:∃E,E=kc b o (at_+2) n:=⟨_,rfl⟩;rw[<-hE] at hr⊢;have hat:at_+6+12*n<=L:=by omega
 have h232:fq w true 2=some (.inl ()):=rfl;generalize eP T'=U;generalize S'.flatMap bV=V;generalize T.length=tl;have hEl:E.length=n:=by rw[hE,JZ]
 refine gO (ev:=λi (g:Int->Int->Int->H1->Int->H1->Nat->Nat->Int->Int->qr H1->qr H1->qr H1->Hx (H1×H1×Int×H1×Nat×Nat×Int×Int×qr H1×qr H1⊕Int×H1×Int×H1×Nat×Nat×Int×Int×qr H1×qr H1))=>g at_ n i (ag b) o sh tl c no so U V ((E.take i).flatMap bT)) n ?_ ?_ (by omega)
 ·intro i g hi;have e1:((i:Int)<(n:Int)):=by omega
  simp only[aU,e1,aY,aE,cc,oD];have hat2:at_<2^30:=by omega
  rw[aP (n:=(at_:Int)+2) (by omega) (by omega),aP (n:=(12:Int)*(i:Int)) (by omega) (by omega),aP (n:=(at_:Int)+2+12*(i:Int)) (by omega) (by omega),show(at_:Int)+2+12*(i:Int)=((at_+2+12*i:Nat):Int) by omega,akR (by omega) b (by omega) _ o R.ord,ay (by omega)];simp only[aA];have hgi:E[i]'(by omega)=Ar b (at_+2+12*i) o:=by subst hE;exact Rs b o n (at_+2) i _
  have hiE:i<E.length:=by omega
  have hci:bT E[i]=[.int .i64 (ct b (at_+2+12*i) 2 o:Int),.int .i64 (ct b (at_+2+12*i+2) 2 o:Int),.int .i64 (ct b (at_+2+12*i+4) 4 o:Int),.int .i64 (ct b (at_+2+12*i+8) 4 o:Int)]:=by rw[hgi];rfl
  have hcl:((E.take i).flatMap bT).length=i*4:=by rw[da kY,dE,kC (by omega)]
  have hr1:aH (i*4)=true:=by simp;omega
  have hfin:∀(A:Hx (H1×H1×Int×H1×Nat×Nat×Int×Int×qr H1×qr H1⊕Int×H1×Int×H1×Nat×Nat×Int×Int×qr H1×qr H1)),(bif aH ((E.take i).flatMap bT).length&&(aH 1&&(List.take 4 (List.drop 0 [Value.int IntKind.i64 (ct b (at_+2+12*i) 2 o:Int),Value.int IntKind.i64 (ct b (at_+2+12*i+2) 2 o:Int),Value.int IntKind.i64 (ct b (at_+2+12*i+4) 4 o:Int),Value.int IntKind.i64 (ct b (at_+2+12*i+8) 4 o:Int)])).length.beq 4) then g at_ n (ah IntKind.i64 ((i:Int)+1)) (ag b) o sh tl c no so U V ((E.take i).flatMap bT++List.take 4 (List.drop 0 [Value.int IntKind.i64 (ct b (at_+2+12*i) 2 o:Int),Value.int IntKind.i64 (ct b (at_+2+12*i+2) 2 o:Int),Value.int IntKind.i64 (ct b (at_+2+12*i+4) 4 o:Int),Value.int IntKind.i64 (ct b (at_+2+12*i+8) 4 o:Int)])) else A)=g at_ n ((i+1:Nat):Int) (ag b) o sh tl c no so U V ((E.take (i+1)).flatMap bT):=by intro A;rw[hcl,hr1,show aH 1=true from rfl,aaQ hiE,hci,aP (by omega) (by omega)];rfl
  rcases i with _|i
  ·have e0:aj ((0:Nat):Int) 0=true:=rfl;rw[e0,aE];exact hfin none
  ·have e0:aj ((i+1:Nat):Int) 0=false:=by rw[cj,gJ];omega
   rw[e0,aD,ji,aP (by omega) (by omega),show((i+1:Nat):Int) -1=(i:Int) by omega,bP,hcl];have e2:i*4<(i+1)*4:=by omega
   have hpi:i<E.length:=by omega
   have htk:List.drop (0+i*4+0) ((E.take (i+1)).flatMap bT)=bT E[i]:=by rw[show 0+i*4+0=i*4 by omega,nI kY,List.drop_take,show i+1 -i=1 by omega,dk hpi,oa,oZ];simp
   have hlt:=Ww hr (i:=i) (by omega);have hg1:(E[i+1]'(by omega)).tag=(ct b (at_+2+12*(i+1)) 2 o:Int):=by rw[hgi];rfl
   rw[hg1] at hlt;simp only[mK,e2,aY,ky,show Nat.beq 4 4=true from rfl,aE];rw[htk];unfold bT;simp only[aX,bu,hlt,aY];rw[h232];simp only[aA,iQ];rw[hcl] at hfin;exact hfin none
 ·intro g;have e1:¬((n:Int)<(n:Int)):=by omega
  simp only[aU,e1,bL,aD];rw[eQ (by omega),D3 E rfl]
theorem akz{w:Nat}(l:qr iJ)(n a b c:Int)(hl:l.length<2^40)(hw:l.length<w):OS w (gN l) n a b c=some (dD (λx=>x.tag==n) l):=by
 refine mQ l (λx=>x.tag==n) (ev:=λi (g:H1->qr H1->Int->Int->Hx Int)=>g (aB mh l) [.int .i64 n,.int .i64 a,.int .i64 b,.int .i64 c] l.length i) ?_ ?_ hw
 ·intro i g h;simp_all;rw[bn tN h];unfold mh O8;simp only[ec,aX,bu,aA,cj];rw[aP (by omega) (by omega)];by_cases e2:l[i].tag=n<;>grind
 ·intro g;simp
theorem akA{w:Nat}(l:qr iJ)(n a b c:Int)(hl:l.length<2^40)(hw:l.length<w):OU w (gN l) n a b c=some (dD (λx=>x.tag==n) l):=by
 refine mQ l (λx=>x.tag==n) (ev:=λi (g:H1->qr H1->Int->Int->Hx Int)=>g (aB mh l) [.int .i64 n,.int .i64 a,.int .i64 b,.int .i64 c] l.length i) ?_ ?_ hw
 ·intro i g h;simp_all;rw[bn tN h];unfold mh OX;simp only[ec,aX,bu,aA,cj];rw[aP (by omega) (by omega)];by_cases e2:l[i].tag=n<;>grind
 ·intro g;simp
theorem akS{w:Nat}(l:qr iJ)(n a b c:Int)(hl:l.length<2^40)(hw:l.length<w):H5 w (gN l) n a b c=some (l.any λx=>x.tag==n):=by
 unfold H5;rw[akz l n a b c hl hw];simp;have:=xK (λx:iJ=>x.tag==n) l
 grind
theorem Kl{α:Type}(p:α->Bool){l:qr α}{i:Nat}(h:i<l.length):(l.take (i+1)).filter p=(l.take i).filter p++(if p l[i]=true then[l[i]] else[]):=by
 rw[iI h]
 grind
theorem aaW{α:Type}(p:α->Bool)(l:qr α)(i:Nat):((l.take i).filter p).length<=l.length:=by grind
theorem akH{w:Nat}(E:qr bo)(S:bg)(hS:uU S)(hl:S.bR.length<2^40)(hw:S.bR.length<w)(hE:E.length<100000000)(hEw:E.length<w):
 HD w (aB bT E) (gN S.bR) S.at_ S.cJ S.next=some (aB bT (E.filter λx=>fG S x.tag),aB bT (E.filter λx=>fK S x.tag),aB bT (E.filter λx=>!eU S x.tag)):=by
 unfold HD yB vZ;rw[cd];refine gO (ev:=λi (g:H1->Int->Int->H1->Int->Int->Int->qr H1->qr H1->qr H1->Hx (H1×H1×H1))=>g (aB bT E) E.length i (gN S.bR) S.at_ S.cJ S.next (((E.take i).filter λx=>fG S x.tag).flatMap bT) (((E.take i).filter λx=>fK S x.tag).flatMap bT) (((E.take i).filter λx=>!eU S x.tag).flatMap bT)) E.length ?_ ?_ hEw
 ·intro i g hi;have e1:((i:Int)<(E.length:Int)):=by omega
  simp only[aU,e1,aY,aE,bP];rw[bn kY hi];unfold bT;simp only[ec,aX,bu];rw[akS S.bR _ _ _ _ hl hw];simp only[aA];have hlk:(S.bR.any λx=>x.tag==E[i].tag)=fG S E[i].tag:=rfl;rw[hlk,Kl _ hi,Kl _ hi,Kl _ hi];have hr1:∀p:bo->Bool,aH (List.flatMap bT ((E.take i).filter p)).length=true:=by intro p;have:=aaW p E i;rw[da kY];simp;omega
  have hr1':∀p:bo->Bool,aH (List.flatMap (λx:bo=>[Value.int .i64 x.tag,Value.int .i64 x.ty,Value.int .i64 x.az,Value.int .i64 (x.slot:Int)]) ((E.take i).filter p)).length=true:=hr1;simp only[hr1',show aH 1=true from rfl,eV,ew,oa,oZ,bW,List.length_nil,aE,cc];rw[aP (by omega) (by omega)];have hp:=hS.pair;cases hk:fG S E[i].tag with
  |true=>
   have hnp:fK S E[i].tag=false:=by unfold fG at hk;rw[List.any_eq_true] at hk;obtain⟨x,hx,he⟩:=hk;rw[<-eq_of_beq he];exact(hS.bR x hx).2.2
   have hno:eU S E[i].tag=true:=by unfold eU;rw[hk];rfl
   simp[hnp,hno]
  |false=>
   have hno:eU S E[i].tag=fK S E[i].tag:=by unfold eU;rw[hk];rfl
   rw[hno];by_cases h1:(0:Int)<S.at_
   ·have hb:fK S E[i].tag=(decide (E[i].tag=S.at_)||decide (E[i].tag=S.cJ)):=by
     unfold fK;rw[eY (by omega:S.at_≠0)];rfl
    rw[hb];simp only[cj];by_cases h2:E[i].tag=S.at_
    ·simp[h1,h2]
    ·by_cases h3:E[i].tag=S.cJ
     ·simp[h1,h2,h3]
     ·simp[h1,h2,h3]
   ·have hb:fK S E[i].tag=false:=by
     unfold fK;have:¬(S.at_≠0):=λq=>by have:=hp q;omega
     rw[fI this];rfl
    rw[hb];simp[h1]
 ·intro g;have e1:¬((E.length:Int)<(E.length:Int)):=by omega
  simp only[aU,e1,bL,aD,oY];rw[D3 _ rfl,D3 _ rfl,D3 _ rfl]
def w8(sh:qr bg)(b:qr UInt8)(o:Int)(L:Nat)(f:Nat)(rec:rN):Prop:=
 ∀(at_ s no:Nat)(Sp:qr bq)(d:aV)(next no':Nat)(S':qr bq)(T:qr Nat)(so:Int)(c:Nat),
  kI b o sh f at_ s no Sp=.ok (d,next,no',S')->s<sh.length->at_<4294967296->S'.length<100000000->no'<2^40->Tk T L (gH Sp)->
  ∃T' so',Tk T' L (gH S')/\T'.length=T.length/\
   rec at_ s (ag b) o (cu sh) T.length c no so (eP T) (Sp.flatMap bV)=some (.inl (dT d,dS d,dB d,(next:Int),ag b,o,cu sh,T.length,c,(no':Int),so',eP T',S'.flatMap bV))
theorem ahP{b:qr UInt8}{o:Int}{no:Nat}{S S':qr bq}{x:bo}{t:aL}(h:sy b o no S x=.ok (t,S')):∃u,S'=S++u:=by
 unfold sy at h;split at h
 ·grind
 split at h
 ·split at h
  ·simp_all
  grind
 ·split at h
  ·grind
  rename_i S2 ht;split at h
  ·cases h;exact⟨_,(pQ ht).1⟩
  grind
theorem yj{own:Int->Bool}{b:qr UInt8}{o:Int}{no:Nat}:∀{E:qr bo}{S S':qr bq}{ts:qr aL},ko own b o no E S=.ok (ts,S')->∃u,S'=S++u
 |[],S,S',ts,h=>by rw[ko] at h;cases h;exact⟨[],(ea _).symm⟩
 |x::E,S,S',ts,h=>by
  rw[ko] at h;split at h
  ·split at h
   ·exact yj h
   grind
  split at h
  ·grind
  rename_i hv;split at h
  ·grind
  rename_i ht;injection h with h;cases h;obtain⟨u,rfl⟩:=ahP hv;obtain⟨v,rfl⟩:=yj ht;simp
theorem By{rd:Nat->Nat->Nat->qr bq->Except Int (aV×Nat×Nat×qr bq)}(hrd:∀a s no S d n no' S',rd a s no S=.ok (d,n,no',S')->no<=no'/\∃u,S'=S++u){Sh:bg}:∀{K:qr bo}{no no':Nat}{S S':qr bq}{r:cP},mu rd Sh K no S=.ok (r,no',S')->no<=no'/\∃u,S'=S++u
 |[],no,no',S,S',r,h=>by rw[mu] at h;cases h;exact⟨aM _,[],(ea _).symm⟩
 |x::K,no,no',S,S',r,h=>by
  rw[mu] at h;split at h
  ·grind
  split at h
  ·grind
  split at h
  ·grind
  rename_i hr;injection h with h;cases h;obtain⟨a2,v,rfl⟩:=By hrd hr
  grind
theorem Bx{b:qr UInt8}{o:Int}{sh:qr bg}:∀(f a s no:Nat)(S:qr bq)(d:aV)(n no':Nat)(S':qr bq),kI b o sh f a s no S=.ok (d,n,no',S')->no<=no'/\∃u,S'=S++u
 |0,a,s,no,S,d,n,no',S',h=>by rw[kI] at h;cases h
 |f+1,a,s,no,S,d,n,no',S',h=>by
  rw[kI] at h;split at h
  case isFalse=>cases h
  split at h
  ·cases h
  split at h
  ·cases h
  rename_i S1 h1;split at h
  case isFalse=>cases h
  split at h
  ·cases h
  rename_i h2;split at h
  ·cases h
  split at h
  ·cases h
  rename_i S3 h3;obtain⟨u1,e1⟩:∃u,S1=S++u:=⟨_,(pQ h1).1⟩;obtain⟨u2,e2⟩:=yj h2;obtain⟨k,u3,e3⟩:=By (Bx f) h3;split at h
  ·split at h
   ·cases h
   split at h
   ·cases h
   rename_i h4;injection h with h;cases h;obtain⟨u4,e4⟩:∃u,S'=S3++u:=⟨_,(pQ h4).1⟩;refine⟨by omega,u1++u2++u3++u4,?_⟩;rw[e4,e3,e2,e1];simp
  ·injection h with h;cases h;refine⟨by omega,u1++u2++u3,?_⟩;rw[e3,e2,e1];simp
theorem alU(l:qr (Int×aV))(r:cP)(h:l=aR r):ae ((l.flatMap gB).length/4) (l.flatMap gB)=ae (cm r) (gR r):=by rw[h,da uB,ja _ (by simp),uD,PG]
theorem acI{w L:Nat}{b:qr UInt8}{o:Int}(R:qK w L b o){sh:qr bg}(hsh:jd sh){s:Nat}(hs:s<sh.length)(hlk:(aQ sh s).bR.length<100000){f:Nat}{rec:rN}(hrec:w8 sh b o L f rec){at_ dir no no':Nat}{E P K:qr bo}{S S3 S4:qr bq}{subs:cP}{blob:qr UInt8}{T:qr Nat}
 (hK:∀x∈K,fG (aQ sh s) x.tag=true/\x.slot<4294967296) (hKl:K.length<70000) (hat:at_+6+12*E.length<=L)
 (h3:mu (kI b o sh f) (aQ sh s) K no S=.ok (subs,no',S3))
 (hfin:(∃p q,P=[p,q]/\q.slot≠0/\p.slot<4294967296/\q.slot<4294967296/\lE L S3 ⟨4,dir,0,p.slot,q.slot⟩=.ok S4/\blob=(b.drop p.slot).take q.slot)\/(P.length≠2/\S4=S3/\blob=[]))
 (hS:S4.length<100000000) (hno:no'<2^40) (H:Tk T L (gH S)) (so:Int) (c:Nat) (tc:qr H1):
 ∃T' so',Tk T' L (gH S4)/\T'.length=T.length/\
  Ts w rec at_ dir (aB bT E) (aB bT P) (aB bT K) K.length 0 (ag b) o (cu sh) T.length c no so (ae 0 []) (gN (aQ sh s).bR) (aQ sh s).at_ (aQ sh s).cJ (aQ sh s).next (eP T) (S.flatMap bV) tc []=
   some (.inl (ae (tc.length/4) tc,ae (cm subs) (gR subs),ag blob,(ct b (at_+2+12*E.length) 4 o:Int),ag b,o,cu sh,T.length,c,(no':Int),so',eP T',S4.flatMap bV)):=by
 have hsm:=R.small;have hlen:=R.len;have hw:=R.wide;have h232:∀n,fq w true n=some (.inl ()):=λ_=>rfl;have hS34:S3.length<=S4.length:=by
  rcases hfin with⟨p,q,_,_,_,_,ht,_⟩|⟨_,e,_⟩
  ·rw[(pQ ht).1,aT];omega
  ·rw[e];exact aM _
 obtain⟨tl,htl⟩:∃tl,T.length=tl:=⟨_,rfl⟩;rw[htl];have key:∀(k i v no:Nat)(S:qr bq)(T:qr Nat)(so:Int)(r:cP)(D:qr (Int×aV)),i+k=K.length->k<v->D.length=i->mu (kI b o sh f) (aQ sh s) (K.drop i) no S=.ok (r,no',S3)->D++aR r=aR subs->Tk T L (gH S)->T.length=tl->
  ∃T' so',Tk T' L (gH S4)/\T'.length=tl/\
   lp AS (vH w rec) v at_ dir (aB bT E) (aB bT P) (aB bT K) K.length i (ag b) o (cu sh) tl c no so (ae 0 []) (gN (aQ sh s).bR) (aQ sh s).at_ (aQ sh s).cJ (aQ sh s).next (eP T) (S.flatMap bV) tc (D.flatMap gB)=
    some (.inl (ae (tc.length/4) tc,ae (cm subs) (gR subs),ag blob,(ct b (at_+2+12*E.length) 4 o:Int),ag b,o,cu sh,tl,c,(no':Int),so',eP T',S4.flatMap bV)):=by
  intro k;induction k with
  |zero=>
   intro i v no S T so r D hi hv hD hr hDr HT hTl;rw[show K.drop i=[] from uK (by omega),mu] at hr;injection hr with hr;cases hr;rw[show aR cP.nil=[] from rfl,ea] at hDr;have e1:¬((i:Int)<(K.length:Int)):=by omega
   have hD2:=alU D subs hDr;rw[eB AS (vH w rec) (by omega)];unfold vH;simp only[aU,e1,bL,aD];rw[cd];have hnx:=Hw (w:=w) (by omega) b (by omega) R.ord (at_+2+12*E.length) 4 (.inr rfl) (by omega);have haw:ah IntKind.i64 ((ah IntKind.i64 ((at_:Int).add 2)).add (ah IntKind.i64 (Int.mul 12 (Int.ofNat E.length))))=((at_+2+12*E.length:Nat):Int):=by rw[cc,cc,oD,bU,aP (n:=(at_:Int)+2) (by omega) (by omega),aP (n:=(12:Int)*(E.length:Int)) (by omega) (by omega),aP (by omega) (by omega)];omega
   rcases hfin with⟨p,q,rfl,hq,hp4,hq4,ht,rfl⟩|⟨hP,rfl,rfl⟩
   ·rw[show aj (Int.ofNat [p,q].length) 2=true from rfl,aE];have x0:∀(K:qr H1->s9),aJ 4 0 (aB bT [p,q]) K=K (bT p++([q].flatMap bT)):=λK=>bn kY (by show 0<2;omega) K;have x1:∀(K:qr H1->s9),aJ 4 1 (aB bT [p,q]) K=K (bT q++([].flatMap bT)):=λK=>bn kY (by show 1<2;omega) K;have d0:∀(y:bo)(r:qr H1),List.drop 3 (bT y++r)=Value.int .i64 (y.slot:Int)::r:=λ_ _=>rfl;rw[x0,d0];simp only[aX,bu];rw[x1,d0];simp only[aX,bu];rw[eY (show(0:Int)<(q.slot:Int) by omega),h232];simp only[aA,iQ];obtain⟨a1,a2,a3⟩:=pQ ht;obtain⟨_,T',t1,t2,t3⟩:=Hy (w:=w) HT (by omega) (by omega) ht (by rw[a1,aT] at hS;omega) b hlen o (cu sh) c (no':Int) so;dsimp only at t3 a3;refine⟨T',so,t1,by rw[t2,hTl],?_⟩;rw[hTl] at t3;rw[t3];simp only[aA,iQ,cI];rw[cc,aP (n:=(p.slot:Int)+(q.slot:Int)) (by omega) (by omega),show(p.slot:Int)+(q.slot:Int)=((p.slot+q.slot:Nat):Int) by omega,bP,bP];have e3:p.slot+q.slot<=b.length:=by omega
    have e4:p.slot<=p.slot+q.slot:=by omega
    simp only[gF,e3,e4,aY,jG,aE];rw[lY _ e3,show p.slot+q.slot -p.slot=q.slot by omega,rR w _ (by rw[dE,er];omega)];simp only[aA];rw[cd,haw];have hnx':mZ w (ag b) o ((at_+2+12*E.length:Nat):Int) 4=some (ct b (at_+2+12*E.length) 4 o:Int):=hnx;rw[hnx'];simp only[aA];rw[hD2]
   ·have e2:aj (Int.ofNat P.length) 2=false:=by rw[cj,gJ,bU];omega
    rw[e2,aD,cd,haw];have hnx':mZ w (ag b) o ((at_+2+12*E.length:Nat):Int) 4=some (ct b (at_+2+12*E.length) 4 o:Int):=hnx;rw[hnx'];simp only[aA];rw[hD2];exact⟨T,so,HT,hTl,rfl⟩
  |succ k ih=>
   intro i v no S T so r D hi hv hD hr hDr HT hTl;have hiK:i<K.length:=by omega
   have hmem:=cA hiK;obtain⟨k1,k2⟩:=hK _ hmem;rw[dk hiK,mu] at hr;split at hr
   ·cases hr
   rename_i d next no1 S1 hd
   split at hr
   ·cases hr
   rename_i hnx;split at hr
   ·cases hr
   rename_i r2 no2 S2 hr2;injection hr with hr;cases hr;have hnx:next=0:=qE.1 hnx
   subst hnx;obtain⟨m1,u,m2⟩:=By (Bx f) hr2;have e1:((i:Int)<(K.length:Int)):=by omega
   rw[eB AS (vH w rec) (by omega)];rcases K5 (aQ sh s) K[i].tag with⟨_,q⟩|⟨j,hj,q1,_,q3⟩
   ·rw[k1] at q;cases q
   have hsx:=hsh.bR s hs _ (cA hj);rw[q3] at hd;have hsn:(((aQ sh s).bR[j].shape.toNat:Nat):Int)=(aQ sh s).bR[j].shape:=mD (by omega);obtain⟨T1,so1,t1,t2,t3⟩:=hrec K[i].slot _ no S d 0 no1 S1 T so c hd (by omega) k2 (by have:=bY List.length m2;rw[aT] at this;omega) (by omega) HT;rw[hTl] at t2 t3;obtain⟨T',so',v1,v2,v3⟩:=ih (i+1) (v -1) no1 S1 T1 so1 r2 (D++[(K[i].tag,d)]) (by omega) (by omega) (by rw[aT,hD];rfl) hr2 (by rw[<-hDr];simp[aR]) t1 t2;refine⟨T',so',v1,v2,?_⟩;rw[<-v3];generalize hg:lp AS (vH w rec) (v -1)=g;unfold vH;simp only[aU,e1,aY,aE,bP];rw[bn kY hiK];have tg:∀(y:bo)(r:qr H1),bT y++r=Value.int .i64 y.tag::.int .i64 y.ty::.int .i64 y.az::.int .i64 (y.slot:Int)::r:=λ_ _=>rfl;rw[tg];simp only[aX,bu];rw[akA _ _ _ _ _ (by omega) (by omega),q1];simp only[aA,bP];rw[show gN (aQ sh s).bR=aB mh (aQ sh s).bR from rfl,bn tN hj];have dl:∀(y:iJ)(r:qr H1),List.drop 1 (mh y++r)=Value.int .i64 y.shape::r:=λ_ _=>rfl;rw[dl];simp only[aX,bu];rw[<-hsn,t3];simp only[aA,iQ];rw[show aj ((0:Nat):Int) 0=true from rfl,h232];simp only[aA,iQ];have hr1:aH (D.flatMap gB).length=true:=by rw[da uB];simp;omega
   rw[hr1,cc,aP (by omega) (by omega),show(i:Int)+1=((i+1:Nat):Int) by omega,fD];have hsc:[(K[i].tag,d)].flatMap gB=[Value.int .i64 K[i].tag,dT d,dS d,dB d]:=by show gB (K[i].tag,d)++[]=_;unfold gB;rw[qk];rfl
   rw[hsc];rfl
 exact key K.length 0 w no S T so subs [] (by omega) (by omega) rfl (by rw[ew];exact h3) rfl H htl
theorem alY{w L:Nat}{b:qr UInt8}{o:Int}(R:qK w L b o){sh:qr bg}(hsh:jd sh){s:Nat}(hs:s<sh.length)(hlk:(aQ sh s).bR.length<100000){f:Nat}{rec:rN}(hrec:w8 sh b o L f rec){at_ dir no no':Nat}{E:qr bo}{S S2 S3 S4:qr bq}{tags:qr aL}{subs:cP}{blob:qr UInt8}{T:qr Nat}
 (hE:∀x∈E,x.slot<4294967296) (hEl:E.length<65536) (hat:at_+6+12*E.length<=L)
 (h2:ko (eU (aQ sh s)) b o dir E S=.ok (tags,S2))
 (hP1:(E.filter λx=>fK (aQ sh s) x.tag).length≠1)
 (h3:mu (kI b o sh f) (aQ sh s) (E.filter λx=>fG (aQ sh s) x.tag) no S2=.ok (subs,no',S3))
 (hfin:(∃p q,(E.filter λx=>fK (aQ sh s) x.tag)=[p,q]/\q.slot≠0/\p.slot<4294967296/\q.slot<4294967296/\lE L S3 ⟨4,dir,0,p.slot,q.slot⟩=.ok S4/\blob=(b.drop p.slot).take q.slot)\/((E.filter λx=>fK (aQ sh s) x.tag).length≠2/\S4=S3/\blob=[]))
 (hS:S4.length<100000000) (hno:no'<2^40) (hdir:dir<2^40) (H:Tk T L (gH S)) (so:Int) (c:Nat):
 ∃T' so',Tk T' L (gH S4)/\T'.length=T.length/\
  YR w rec at_ dir (aB bT E) (aB bT (E.filter λx=>fG (aQ sh s) x.tag)) (aB bT (E.filter λx=>fK (aQ sh s) x.tag)) (aB bT (E.filter λx=>!eU (aQ sh s) x.tag)) (aB bT E) E.length 0 (ag b) o (cu sh) T.length c no so (ae 0 []) (gN (aQ sh s).bR) (aQ sh s).at_ (aQ sh s).cJ (aQ sh s).next (eP T) (S.flatMap bV) [] []=
   some (.inl (ar tags,ae (cm subs) (gR subs),ag blob,(ct b (at_+2+12*E.length) 4 o:Int),ag b,o,cu sh,T.length,c,(no':Int),so',eP T',S4.flatMap bV)):=by
 have hsm:=R.small;have hlen:=R.len;have hw:=R.wide;have h232:∀n,fq w true n=some (.inl ()):=λ_=>rfl;obtain⟨tl,htl⟩:∃tl,T.length=tl:=⟨_,rfl⟩;rw[htl];have hS24:S2.length<=S4.length:=by
  obtain⟨_,u,e⟩:=By (Bx f) h3;have e:=bY List.length e;rw[aT] at e;rcases hfin with⟨p,q,_,_,_,_,ht,_⟩|⟨_,e',_⟩
  ·rw[(pQ ht).1,aT];omega
  ·rw[e'];omega
 have key:∀(k i v:Nat)(S:qr bq)(T:qr Nat)(so:Int)(ts D:qr aL),i+k=E.length->k<v->D.length<=i->ko (eU (aQ sh s)) b o dir (E.drop i) S=.ok (ts,S2)->D++ts=tags->Tk T L (gH S)->T.length=tl->
  ∃T' so',Tk T' L (gH S4)/\T'.length=tl/\
   lp zt (sS w rec) v at_ dir (aB bT E) (aB bT (E.filter λx=>fG (aQ sh s) x.tag)) (aB bT (E.filter λx=>fK (aQ sh s) x.tag)) (aB bT ((E.drop i).filter λx=>!eU (aQ sh s) x.tag)) (aB bT E) E.length i (ag b) o (cu sh) tl c no so (ae 0 []) (gN (aQ sh s).bR) (aQ sh s).at_ (aQ sh s).cJ (aQ sh s).next (eP T) (S.flatMap bV) (D.flatMap cC) []=
    some (.inl (ar tags,ae (cm subs) (gR subs),ag blob,(ct b (at_+2+12*E.length) 4 o:Int),ag b,o,cu sh,tl,c,(no':Int),so',eP T',S4.flatMap bV)):=by
  intro k;induction k with
  |zero=>
   intro i v S T so ts D hi hv hD hr hDr HT hTl;rw[show E.drop i=[] from uK (by omega),ko] at hr;injection hr with hr;cases hr;rw[ea] at hDr;subst hDr;have e1:¬((i:Int)<(E.length:Int)):=by omega
   rw[eB zt (sS w rec) (by omega)];unfold sS BM;simp only[aU,e1,bL,aD];rw[cd];have e2:aj (Int.ofNat (E.filter λx=>fK (aQ sh s) x.tag).length) 1=false:=by rw[cj,gJ,bU];omega
   rw[e2,show(!false)=true from rfl,h232];simp only[aA,iQ];rw[cd];have hKl:=List.length_filter_le (λx:bo=>fG (aQ sh s) x.tag) E;obtain⟨T',so',t1,t2,t3⟩:=acI R hsh hs hlk hrec (at_:=at_) (dir:=dir) (E:=E) (P:=E.filter λx=>fK (aQ sh s) x.tag) (K:=E.filter λx=>fG (aQ sh s) x.tag) (T:=T)
    (λx hx=>⟨(oX.1 hx).2,hE x (oX.1 hx).1⟩) (by omega) hat h3 hfin hS hno HT so c (D.flatMap cC)
   rw[hTl] at t2 t3;refine⟨T',so',t1,t2,?_⟩;have htg:ae ((D.flatMap cC).length/4) (D.flatMap cC)=ar D:=by rw[da gW,ja _ (by decide)];rfl
   rw[htg] at t3;exact t3
  |succ k ih=>
   intro i v S T so ts D hi hv hD hr hDr HT hTl;have hiE:i<E.length:=by omega
   have hmem:=cA hiE;have e1:((i:Int)<(E.length:Int)):=by omega
   have tg:∀(y:bo)(r:qr H1),bT y++r=Value.int .i64 y.tag::.int .i64 y.ty::.int .i64 y.az::.int .i64 (y.slot:Int)::r:=λ_ _=>rfl;rw[dk hiE,ko] at hr;rw[eB zt (sS w rec) (by omega)];by_cases ho:eU (aQ sh s) E[i].tag=true
   ·rw[ay ho] at hr;split at hr
    case isFalse=>cases hr
    rename_i h41;obtain⟨T',so',v1,v2,v3⟩:=ih (i+1) (v -1) S T so ts D (by omega) (by omega) (by omega) hr hDr HT hTl;refine⟨T',so',v1,v2,?_⟩;rw[<-v3];generalize hg:lp zt (sS w rec) (v -1)=g;have hfl:(E.drop i).filter (λx=>!eU (aQ sh s) x.tag)=(E.drop (i+1)).filter (λx=>!eU (aQ sh s) x.tag):=by rw[dk hiE,kA,ho];rfl
    rw[hfl];generalize hX:(E.drop (i+1)).filter (λx=>!eU (aQ sh s) x.tag)=X;unfold sS BM;simp only[aU,e1,aY,aE,bP];rw[bn kY hiE,tg];simp only[aX,bu];rw[cd,h41.1,h41.2];have hnx:ah IntKind.i64 ((i:Int).add 1)=((i+1:Nat):Int):=by rw[cc,aP (by omega) (by omega)];rfl
    have hend:(bif aj 4 4 then ob (fq w (aj 1 1) 6) λ(x112:PUnit⊕Int)=>dG x112 (λ(x113:PUnit)=>g (at_:Int) (dir:Int) (aB bT E) (aB bT (E.filter λx=>fG (aQ sh s) x.tag)) (aB bT (E.filter λx=>fK (aQ sh s) x.tag)) (aB bT X) (aB bT E) (E.length:Int) (ah IntKind.i64 ((i:Int).add 1)) (ag b) o (cu sh) tl c no so (ae 0 []) (gN (aQ sh s).bR) (aQ sh s).at_ (aQ sh s).cJ (aQ sh s).next (eP T) (S.flatMap bV) (D.flatMap cC) []) λ(x114:Int)=>some (Sum.inr (x114,ag b,o,cu sh,tl,c,(no:Int),so,eP T,S.flatMap bV)) else(none:s9))=g (at_:Int) (dir:Int) (aB bT E) (aB bT (E.filter λx=>fG (aQ sh s) x.tag)) (aB bT (E.filter λx=>fK (aQ sh s) x.tag)) (aB bT X) (aB bT E) (E.length:Int) ((i+1:Nat):Int) (ag b) o (cu sh) tl c no so (ae 0 []) (gN (aQ sh s).bR) (aQ sh s).at_ (aQ sh s).cJ (aQ sh s).next (eP T) (S.flatMap bV) (D.flatMap cC) []:=by rw[hnx];rfl
    rcases X with _|⟨y,X⟩
    ·have e5:decide ((0:Int)<Int.ofNat ([]:qr bo).length)=false:=rfl;rw[e5,aD];exact hend
    ·have e5:decide ((0:Int)<Int.ofNat (y::X).length)=true:=by rw[cf,bU,bW];omega
     have hy:eU (aQ sh s) y.tag=false:=by have:=(oX.1 (show y∈(E.drop (i+1)).filter (λx=>!eU (aQ sh s) x.tag) by rw[hX];exact nY)).2;simpa using this
     have cL:¬(E[i].tag=y.tag):=λq=>by rw[q,hy] at ho;cases ho
     have x0:∀(K:qr H1->s9),aJ 4 0 (aB bT (y::X)) K=K (bT y++(X.flatMap bT)):=λK=>bn kY (l:=y::X) (m:=0) (by rw[bW];omega) K;rw[e5,aE,x0,tg];simp only[aX,bu,cj,cL,bL,aD];have hend2:=hend;simp only[cj] at hend2;exact hend2
   ·rw[aq ho] at hr;split at hr
    ·cases hr
    rename_i t S1 hv1;split at hr
    ·cases hr
    rename_i ts2 S2' ht;injection hr with hr;cases hr;obtain⟨u,hu⟩:=yj ht;obtain⟨_,T1,so1,t1,t2,t3⟩:=akI (w:=w) (dir:=dir) R HT hv1 (hE _ hmem) (by have:=bY List.length hu;rw[aT] at this;omega) (cu sh) c (no:Int) so;rw[hTl] at t2 t3;obtain⟨T',so',v1,v2,v3⟩:=ih (i+1) (v -1) S1 T1 so1 ts2 (D++[t]) (by omega) (by omega) (by rw[aT,wU];omega) ht (by rw[<-hDr];simp) t1 t2;refine⟨T',so',v1,v2,?_⟩;rw[<-v3];generalize hg:lp zt (sS w rec) (v -1)=g;have ho':eU (aQ sh s) E[i].tag=false:=by simpa using ho
    have hfl:(E.drop i).filter (λx=>!eU (aQ sh s) x.tag)=E[i]::(E.drop (i+1)).filter (λx=>!eU (aQ sh s) x.tag):=by rw[dk hiE,kA,ho'];rfl
    rw[hfl];generalize hX:(E.drop (i+1)).filter (λx=>!eU (aQ sh s) x.tag)=X;unfold sS BM;simp only[aU,e1,aY,aE,bP];rw[bn kY hiE,tg];simp only[aX,bu];rw[cd];have e5:decide ((0:Int)<Int.ofNat (E[i]::X).length)=true:=by rw[cf,bU,bW];omega
    have x0:∀(K:qr H1->s9),aJ 4 0 (aB bT (E[i]::X)) K=K (bT E[i]++(X.flatMap bT)):=λK=>bn kY (l:=E[i]::X) (m:=0) (by rw[bW];omega) K;rw[e5,aE,x0,tg];simp only[aX,bu,cj,aY,aE];rw[t3];simp only[aA,iQ];have hr1:aH (D.flatMap cC).length=true:=by rw[da gW];simp;omega
    rw[hr1,cd];have e6:1<=(E[i]::X).length:=by rw[bW];omega
    simp only[show aH 1=true from rfl,eV,ew,oa,oZ,bW,List.length_nil,gF,aM,aY,show Nat.beq (0+1+1+1+1) 4=true from rfl,aE,cc];have e7:1<=X.length+1:=by omega
    have e8:decide (1<=X.length+1)=true:=eY e7;rw[e8,aE,tz kY (E[i]::X) (a:=1) (b:=X.length+1) (by rw[bW];omega),show X.length+1 -1=X.length by omega,List.drop_succ_cons,ew,eQ (aM _),aP (n:=(i:Int)+1) (by omega) (by omega),show(i:Int)+1=((i+1:Nat):Int) by omega,fD];have htc:[t].flatMap cC=[Value.int .i64 t.tag,.int .i64 t.ty,.int .i64 t.az,ag t.data]:=rfl;rw[htc]
 have hfin0:=key E.length 0 w S T so tags [] (by omega) (by omega) (aM _) (by rw[ew];exact h2) rfl H htl;rw[ew] at hfin0;exact hfin0
theorem Rt(b:qr UInt8)(o:Int):∀(n p:Nat),∀x∈kc b o p n,x.slot<4294967296
 |0,_,x,h=>by cases h
 |n+1,p,x,h=>by
  rcases cZ.1 (h) with rfl|h
  ·exact EJ b (p+8) o
  ·exact Rt b o n (p+12) x h
theorem alH{w L:Nat}{b:qr UInt8}{o:Int}(R:qK w L b o){sh:qr bg}(hsh:jd sh)(hlk:∀s,s<sh.length->(aQ sh s).bR.length<100000){f:Nat}{rec:rN}(hrec:w8 sh b o L f rec):w8 sh b o L (f+1) (Iu w rec):=by
 have hsm:=R.small;have hlen:=R.len;have hw:=R.wide;intro at_ s no Sp d next no' S' T so c h hs hat hS hno HT
 rw[kI] at h;split at h
 case isFalse=>cases h
 rename_i h0;split at h
 ·cases h
 rename_i hn;split at h
 ·cases h
 rename_i S1 h1;split at h
 case isFalse=>cases h
 rename_i hr;split at h
 ·cases h
 rename_i tags S2 h2;split at h
 ·cases h
 rename_i hP1;split at h
 ·cases h
 rename_i subs no2 S3 h3;rw[hlen] at h0 h1;obtain⟨a1,_,a3⟩:=pQ h1;obtain⟨u2,e2⟩:=yj h2;obtain⟨k,u3,e3⟩:=By (Bx f) h3;obtain⟨n,hnn⟩:∃n,ct b at_ 2 o=n:=⟨_,rfl⟩;have hn2:n<65536:=by rw[<-hnn];exact T4 b at_ R.ord
 obtain⟨E,hE⟩:∃E,kc b o (at_+2) n=E:=⟨_,rfl⟩;have hEl:E.length=n:=by rw[<-hE,JZ]
 have hEs:∀x∈E,x.slot<4294967296:=by rw[<-hE];exact Rt b o n _
 rw[hnn,hE] at h;dsimp only at a3;have hS13:Sp.length<=S3.length:=by rw[e3,e2,a1];simp only[aT];omega
 have hend:∃S4 blob,((∃p q,(E.filter λx=>fK (aQ sh s) x.tag)=[p,q]/\q.slot≠0/\p.slot<4294967296/\q.slot<4294967296/\lE L S3 ⟨4,(no:Int),0,p.slot,q.slot⟩=.ok S4/\blob=(b.drop p.slot).take q.slot)\/((E.filter λx=>fK (aQ sh s) x.tag).length≠2/\S4=S3/\blob=[]))/\
  d=.mk tags subs blob/\next=ct b (at_+2+12*n) 4 o/\no'=no2/\S'=S4:=by
  split at h
  ·rename_i p q hpq;split at h
   ·cases h
   rename_i hq;split at h
   ·cases h
   rename_i S4 ht;injection h with h;cases h;refine⟨_,_,.inl ⟨p,q,hpq,hq,?_,?_,by rw[<-hlen];exact ht,rfl⟩,rfl,rfl,rfl,rfl⟩
   ·exact hEs p (oX.1 (show p∈E.filter λx=>fK (aQ sh s) x.tag by rw[hpq];simp)).1
   ·exact hEs q (oX.1 (show q∈E.filter λx=>fK (aQ sh s) x.tag by rw[hpq];simp)).1
  ·rename_i hno2;injection h with h;cases h;refine⟨_,_,.inr ⟨λq=>?_,rfl,rfl⟩,rfl,rfl,rfl,rfl⟩
   rcases hF:(E.filter λx=>fK (aQ sh s) x.tag) with _|⟨x,_|⟨y,_|⟨z,l⟩⟩⟩<;>grind
 obtain⟨S4,blob,hfin,rfl,rfl,rfl,rfl⟩:=hend;have hS34:S3.length<=S'.length:=by
  rcases hfin with⟨p,q,_,_,_,_,ht,_⟩|⟨_,e',_⟩
  ·rw[(pQ ht).1,aT];omega
  ·rw[e'];omega
 obtain⟨T1,t1,t2,t3⟩:=akG R HT h0.1 h0.2 hn h1 hr (by omega) (by omega) (cu sh) c (ah .i64 ((no:Int).add 1)) so;rw[hnn] at t3 hn h1 hr h2 hP1 h3;rw[hE] at t3 h2 hP1 h3;have haw:ah IntKind.i64 ((no:Int).add 1)=((no+1:Nat):Int):=by rw[cc,aP (by omega) (by omega)];rfl
 rw[haw] at t3;obtain⟨T',so',v1,v2,v3⟩:=alY R hsh hs (hlk s hs) hrec (at_:=at_) (dir:=no) hEs (by omega) (by omega) h2 hP1 h3 hfin hS hno (by omega) t1 so c;rw[t2] at v2 v3;refine⟨T',so',v1,v2,?_⟩;unfold Iu;rw[bP,show cu sh=aB jF sh from rfl,bn zn hs];have hsg:sh[s]=aQ sh s:=by unfold aQ;rw[cG hs];rfl
 have tg:∀(S:bg)(r:qr H1),jF S++r=gN S.bR::.int .i64 S.at_::.int .i64 S.cJ::.int .i64 S.next::r:=λ_ _=>rfl;rw[hsg,tg];simp only[aX,bu];rw[show aj (no:Int) (no:Int)=true by rw[cj,cf],aE,haw,show aB jF sh=cu sh from rfl,t3];simp only[aA,iQ];rw[akH E _ (hsh.ok s) (by have:=hlk s hs;omega) (by have:=hlk s hs;omega) (by omega) (by omega)];simp only[aA];rw[cd];rw[hEl] at v3;rw[hEl];exact v3
theorem Q2{w L:Nat}{b:qr UInt8}{o:Int}(R:qK w L b o){sh:qr bg}(hsh:jd sh)(hlk:∀s,s<sh.length->(aQ sh s).bR.length<100000)(z:rN):
 ∀(f n:Nat),f<=n->w8 sh b o L f (mc z (Iu w) n)
 |0,n,_=>by
  intro at_ s no Sp d next no' S' T so c h
  cases h
 |f+1,n+1,h=>by exact alH R hsh hlk (Q2 R hsh hlk z f n (by omega))
theorem akl{w L:Nat}{b:qr UInt8}{o:Int}(R:qK w L b o){sh:qr bg}(hsh:jd sh)(hlk:∀s,s<sh.length->(aQ sh s).bR.length<100000){f:Nat}(hf:f<=w):w8 sh b o L f (Hm w):=Q2 R hsh hlk _ f w hf
theorem Wi{rd:Nat->Nat->Nat->qr bq->Except Int (aV×Nat×Nat×qr bq)}(hrd:∀a s no S d n no' S',rd a s no S=.ok (d,n,no',S')->no'+S.length<=no+S'.length){Sh:bg}:∀{K:qr bo}{no no':Nat}{S S':qr bq}{r:cP},mu rd Sh K no S=.ok (r,no',S')->no'+S.length<=no+S'.length
 |[],no,no',S,S',r,h=>by rw[mu] at h;cases h;exact aM _
 |x::K,no,no',S,S',r,h=>by
  rw[mu] at h;split at h
  ·grind
  rename_i hd;split at h
  ·grind
  split at h
  ·grind
  rename_i hr;injection h with h;cases h;have a1:=hrd _ _ _ _ _ _ _ _ hd;have a2:=Wi hrd hr;omega
theorem Wh{b:qr UInt8}{o:Int}{sh:qr bg}:∀(f a s no:Nat)(S:qr bq)(d:aV)(n no':Nat)(S':qr bq),kI b o sh f a s no S=.ok (d,n,no',S')->no'+S.length<=no+S'.length
 |0,a,s,no,S,d,n,no',S',h=>by rw[kI] at h;cases h
 |f+1,a,s,no,S,d,n,no',S',h=>by
  rw[kI] at h;split at h
  case isFalse=>cases h
  split at h
  ·cases h
  split at h
  ·cases h
  rename_i S1 h1;split at h
  case isFalse=>cases h
  split at h
  ·cases h
  rename_i h2;split at h
  ·cases h
  split at h
  ·cases h
  rename_i S3 h3;have e1:=bY List.length (pQ h1).1;rw[aT,wU] at e1;obtain⟨u2,e2⟩:=yj h2;have e2:=bY List.length e2;rw[aT] at e2;have e3:=Wi (Wh f) h3;split at h
  ·split at h
   ·cases h
   split at h
   ·cases h
   rename_i h4;injection h with h;cases h;have e4:=bY List.length (pQ h4).1;rw[aT] at e4;omega
  ·injection h with h;cases h;omega
theorem ahO{b:qr UInt8}{o:Int}{sh:qr bg}:∀(f a s no:Nat)(S:qr bq)(d:aV)(n no':Nat)(S':qr bq),kI b o sh f a s no S=.ok (d,n,no',S')->n<4294967296
 |0,a,s,no,S,d,n,no',S',h=>by rw[kI] at h;cases h
 |f+1,a,s,no,S,d,n,no',S',h=>by
  rw[kI] at h;split at h
  case isFalse=>cases h
  split at h
  ·cases h
  split at h
  ·cases h
  split at h
  case isFalse=>cases h
  split at h
  ·cases h
  split at h
  ·cases h
  split at h
  ·cases h
  split at h
  ·split at h
   ·cases h
   split at h
   ·cases h
   injection h with h;cases h;exact EJ _ _ _
  ·injection h with h;cases h;exact EJ _ _ _
theorem Wg{b:qr UInt8}{o:Int}{sh:qr bg}:∀(f:Nat)(first:Bool)(a:Nat)(s:Int)(no:Nat)(S:qr bq)(ds:qr aV)(S':qr bq),oM b o sh f first a s no S=.ok (ds,S')->∃u,S'=S++u
 |0,first,a,s,no,S,ds,S',h=>by rw[oM] at h;cases h
 |f+1,first,a,s,no,S,ds,S',h=>by
  rw[oM] at h;split at h
  ·simp_all
  split at h
  ·grind
  split at h
  ·grind
  rename_i hd;split at h
  ·grind
  rename_i hc;injection h with h;cases h;obtain⟨_,u,rfl⟩:=Bx _ _ _ _ _ _ _ _ _ hd;obtain⟨v,rfl⟩:=Wg f _ _ _ _ _ _ _ hc;simp
theorem QN{w L:Nat}{b:qr UInt8}{o:Int}(R:qK w L b o){sh:qr bg}(hsh:jd sh)(hlk:∀s,s<sh.length->(aQ sh s).bR.length<100000)(hl:sh.length<100000){S':qr bq}(hS:S'.length<100000000)(c:Nat)(tl:Nat):
 ∀(f v at_:Nat)(s:Int)(no:Nat)(Sp:qr bq)(D ds:qr aV)(T:qr Nat)(so:Int),f<v->D.length+f<=sh.length+2->oM b o sh f D.isEmpty at_ s no Sp=.ok (ds,S')->at_<4294967296->s<sh.length->no<=Sp.length->Tk T L (gH Sp)->T.length=tl->
  ∃T' so' no',lp DE (xu w) v (at_:Int) s (ag b) o (cu sh) tl c (no:Int) so o 0 (eP T) (Sp.flatMap bV) (D.flatMap dw)=some (o,0,ag b,o,cu sh,tl,c,no',so',(D++ds).flatMap dw,eP T',S'.flatMap bV)
 |0,v,at_,s,no,Sp,D,ds,T,so,_,_,h,_,_,_,_,_=>by rw[oM] at h;cases h
 |f+1,v,at_,s,no,Sp,D,ds,T,so,hv,hD,h,hat,hs,hno,HT,hTl=>by
  have hw:=R.wide;have h232:∀n,fq w true n=some (.inl ()):=λ_=>rfl;rw[oM] at h;rw[eB DE (xu w) (by omega)];split at h
  ·rename_i h0;injection h with h;cases h;rw[h0.1];have hDe:D.length≠0:=by
    intro q;have:D=[]:=qF.1 q;rw[this] at h0;exact absurd h0.2 (by decide)
   refine⟨T,so,(no:Int),?_⟩;unfold xu F2 BK;have e1:ak 0 ((0:Nat):Int)=false:=rfl;have e2:aj (Int.ofNat ((D.flatMap dw).length/3)) 0=false:=by rw[da kW,cj,gJ,bU];omega
   simp_all
  ·rename_i h0;split at h
   ·cases h
   rename_i hs0;split at h
   ·cases h
   rename_i d next no1 S1 hd
   split at h
   ·cases h
   rename_i ds2 S2 hc;injection h with h;cases h;have hst:(s.toNat:Int)=s:=mD (by omega);have hsl:s.toNat<sh.length:=by omega
   obtain⟨u,hu⟩:=Wg _ _ _ _ _ _ _ _ hc;have hu:=bY List.length hu;rw[aT] at hu;have hcn:=Wh _ _ _ _ _ _ _ _ _ hd;obtain⟨T1,so1,t1,t2,t3⟩:=akl R hsh hlk (f:=sh.length) (by omega) at_ s.toNat no Sp d next no1 S1 T so c hd hsl hat (by omega) (by omega) HT
   rw[hTl] at t2 t3;rw[hst] at t3;have hnx:=hsh.next s.toNat hsl;obtain⟨T',so',no',v3⟩:=QN R hsh hlk hl hS c tl f (v -1) next (aQ sh s.toNat).next no1 S1 (D++[d]) ds2 T1 so1 (by omega) (by rw[aT,wU];omega) (by
    have:(D++[d]).isEmpty=false:=by cases D<;>rfl
    rw[this];exact hc) (ahO _ _ _ _ _ _ _ _ _ hd) (by omega) (by omega) t1 t2
   refine⟨T',so',no',?_⟩;rw[dM] at v3;rw[show D++d::ds2=D++([d]++ds2) from rfl,<-v3];generalize hg:lp DE (xu w) (v -1)=g;have hsn:(!ak s 0)=true:=by rw[aU,fI (by omega:¬s<0)];rfl
   have hr1:aH (D.flatMap dw).length=true:=by rw[da kW];simp;omega
   have hsg:sh[s.toNat]=aQ sh s.toNat:=by unfold aQ;rw[cG hsl];rfl
   have tg:∀(S:bg)(r:qr H1),(jF S++r).drop 3=.int .i64 S.next::r:=λ_ _=>rfl;have hdc:List.take 3 (List.drop 0 [dT d,dS d,dB d])=[d].flatMap dw:=by rw[dN,lH,ea,qk];rfl
   have x0:∀(K:qr H1->Hx (Int×Int×H1×Int×H1×Nat×Nat×Int×Int×qr H1×qr H1×qr H1)),aF s (λx58=>aJ 4 x58 (cu sh) K)=K (jF (aQ sh s.toNat)++(sh.drop (s.toNat+1)).flatMap jF):=by intro K;rw[<-hst,bP,show cu sh=aB jF sh from rfl,nh,bn zn hsl,hsg]
   unfold xu F2 BK;have fin:∀(A:Int->Hx (Int×Int×H1×Int×H1×Nat×Nat×Int×Int×qr H1×qr H1×qr H1))(B:Int×H1×Int×H1×Nat×Nat×Int×Int×qr H1×qr H1->Hx (Int×Int×H1×Int×H1×Nat×Nat×Int×Int×qr H1×qr H1×qr H1)),
    (ob (fq w (!ak s 0) 2) λ(x43:PUnit⊕Int)=>dG x43 (λ(x44:PUnit)=>ob (Hm w (at_:Int) s (ag b) o (cu sh) tl c (no:Int) so (eP T) (Sp.flatMap bV)) λx45=>dG x45 (λ(x46:H1×H1×H1×Int×H1×Int×H1×Nat×Nat×Int×Int×qr H1×qr H1)=>bif aH (D.flatMap dw).length&&(aH 1&&(List.take 3 (List.drop 0 [x46.fst,x46.snd.fst,x46.snd.snd.fst])).length.beq 3) then aF s λ(x47:Nat)=>aJ 4 x47 x46.snd.snd.snd.snd.snd.snd.fst λ(x48:qr H1)=>af (List.drop 3 x48) λ(x49:H1)(x50:qr H1)=>au IntKind.i64 x49 λ(x51:Int)=>g x46.snd.snd.snd.fst x51 x46.snd.snd.snd.snd.fst x46.snd.snd.snd.snd.snd.fst x46.snd.snd.snd.snd.snd.snd.fst x46.snd.snd.snd.snd.snd.snd.snd.fst x46.snd.snd.snd.snd.snd.snd.snd.snd.fst x46.snd.snd.snd.snd.snd.snd.snd.snd.snd.fst x46.snd.snd.snd.snd.snd.snd.snd.snd.snd.snd.fst o 0 x46.snd.snd.snd.snd.snd.snd.snd.snd.snd.snd.snd.fst x46.snd.snd.snd.snd.snd.snd.snd.snd.snd.snd.snd.snd (D.flatMap dw++List.take 3 (List.drop 0 [x46.fst,x46.snd.fst,x46.snd.snd.fst])) else none) B) A)=g (next:Int) (aQ sh s.toNat).next (ag b) o (cu sh) tl c (no1:Int) so1 o 0 (eP T1) (S1.flatMap bV) ((D++[d]).flatMap dw):=by
    intro A B;rw[hsn,h232];simp only[aA,iQ];rw[t3];simp only[aA,iQ];rw[hr1,hdc,x0,tg];simp only[aX,bu];rw[fD,show[d].flatMap dw=dw d++[] from rfl,ea,kW];rfl
   by_cases hp:0<at_
   ·have e1:ak 0 (at_:Int)=true:=by rw[aU,cf];omega
    rw[e1,aE];exact fin _ _
   ·have e1:ak 0 (at_:Int)=false:=by rw[aU,gJ];omega
    have hDe:D=[]:=by
     cases D with
     |nil=>rfl
     |cons a l=>exact absurd ⟨by omega,rfl⟩ h0
    have e2:aj (Int.ofNat ((D.flatMap dw).length/3)) 0=true:=by rw[hDe];rfl
    rw[e1,aD,e2,aE];exact fin _ _
theorem Wr:∀n:Nat,rep n (Value.int IntKind.u64 0).cells.toList=eP (List.replicate n 0)
 |0=>rfl
 |n+1=>by show _++rep n _=_;rw[Wr n];rfl
theorem amq(L:Nat):Tk (List.replicate (L/64+1) 0) L (gH []):=by
 refine⟨uM,λn hn=>(by grind),λp hp=>?_⟩
 ·unfold Dz gH
  grind
theorem GL{w:Nat}{b:qr UInt8}{sh:qr bg}(hb:b.length<2^29)(hw:b.length+200000<w)(hsh:jd sh)(hlk:∀s,s<sh.length->(aQ sh s).bR.length<100000)(hl:sh.length<100000)(h0:0<sh.length)(tI:rl w (cu sh)=some true){o:Int}{ds:qr aV}{S:qr bq}(hS:S.length<100000000)(h:uH b sh=.ok (⟨o,ds⟩,S)):
 yN w (ag b) (cu sh)=some (o,dc ds,aB bV S,0):=by
 unfold uH at h;split at h
 ·cases h
 split at h
 ·cases h
 rename_i h42;split at h
 ·cases h
 rename_i ds1 Sx hc;injection h with h;injection h with h1 h2;injection h1 with h1 h3;subst h1 h2 h3;have ho:lO b=1\/lO b=2:=by
  have:lO b≠0:=λq=>h42 (.inl q);unfold lO at this⊢;split
  ·exact .inl rfl
  ·split
   ·exact .inr rfl
   ·rename_i a c;rw[aq a,aq c] at this;exact absurd rfl this
 have R:qK w b.length b (lO b):=⟨rfl,hb,hw,ho⟩;obtain⟨T1,t1,t2,t3⟩:=akk R (by omega) rfl (qE.1 λq=>h42 (.inr q)) (amq b.length) (cu sh) (b.length/64+1) 0 0;rw[uM] at t2 t3;obtain⟨T2,so2,no2,v3⟩:=QN R hsh hlk hl hS (b.length/64+1) (b.length/64+1) (sh.length+2) w (ct b 4 4 (lO b)) 0 0 [⟨1,-1,0,0,8⟩] [] ds1 T1 0 (by omega) (by simp) hc (EJ _ _ _) (by omega) (by omega) t1 t2;have h180:Ha w (ag b) (cu sh)=some (ag b,0,cu sh,b.length/64+1,b.length/64+1,0,0,eP (List.replicate (b.length/64+1) 0),[]):=by
  unfold Ha;rw[cI,bU,JN _ (by omega),cc,aP (by omega) (by omega),show((b.length/64:Nat):Int)+1=((b.length/64+1:Nat):Int) by omega];simp only[bP];have e1:b.length/64+1<=1000000000:=by omega
  simp only[gF,aM,e1,aY,jG,ky];rw[Wr];rfl
 have h181:Hb w (ag b) 0 (cu sh) (b.length/64+1) (b.length/64+1) 0 0 (eP (List.replicate (b.length/64+1) 0)) []=some (lO b,0,ag b,lO b,cu sh,b.length/64+1,b.length/64+1,no2,so2,ds1.flatMap dw,eP T2,Sx.flatMap bV):=by unfold Hb BK;rw[tI];rw[t3];exact v3
 unfold yN;rw[h180];simp;rw[h181];simp only[aA];rw[YF Sx _ rfl,da kW,ja _ (by decide)];rfl
theorem X4(w:Nat)(a b c t:Int)(d:H1):wq w a b c d t=some (if a<t then-1 else if t<a then 1 else 0):=by
 unfold wq OI HG;by_cases h:a<t
 ·simp[h]
 ·by_cases h2:t<a
  ·simp[h,h2]
  ·simp[h,h2]
theorem Ou{w:Nat}(l:qr aL)(t:Int)(hr:fR l=true)(hl:l.length<2^40)(hw:l.length+2<w):
 ∃i:Nat,yS w (ar l) t=some ((i:Int),(iN l t).isSome)/\i<=l.length/\(∀h:(iN l t).isSome=true,∃h':i<l.length,iN l t=some l[i])/\(∀x (h:x<l.length),x<i->l[x].tag<t)/\∀x (h:x<l.length),i<=x->t<=l[x].tag:=by
 have key:∀(k i j v:Nat),j=i+k->j<=l.length->k+1<v->(∀x (h:x<l.length),x<i->l[x].tag<t)->(∀x (h:x<l.length),j<=x->t<=l[x].tag)->
  ∀(z:H1->Int->Int->Int->Int->Hx (Int×Bool))(F:(H1->Int->Int->Int->Int->Hx (Int×Bool))->H1->Int->Int->Int->Int->Hx (Int×Bool)),
  (∀(x8:H1->Int->Int->Int->Int->Hx (Int×Bool))(x9:H1)(x10 x11 x12 x13:Int),F x8 x9 x10 x11 x12 x13=bif ak x12 x13 then aF (ah IntKind.i64 ((ah IntKind.u64 (ah IntKind.i64 (x12.add x13))).fdiv (2^1))) λ(x14:Nat)=>aJ 4 x14 x9 λ(x15:qr H1)=>af x15 λ(x16:H1)(x17:qr H1)=>au IntKind.i64 x16 λ(x18:Int)=>af x17 λ(x19:H1)(x20:qr H1)=>au IntKind.i64 x19 λ(x21:Int)=>af x20 λ(x22:H1)(x23:qr H1)=>au IntKind.i64 x22 λ(x24:Int)=>af x23 λ(x25:H1)(x26:qr H1)=>ob (wq w x18 x21 x24 x25 x10) λ(x27:Int)=>bif ak x27 0 then x8 x9 x10 x11 (ah IntKind.i64 ((ah IntKind.i64 ((ah IntKind.u64 (ah IntKind.i64 (x12.add x13))).fdiv (2^1))).add 1)) x13 else x8 x9 x10 x11 x12 (ah IntKind.i64 ((ah IntKind.u64 (ah IntKind.i64 (x12.add x13))).fdiv (2^1))) else bif ak x12 x11 then aF x12 λ(x28:Nat)=>aJ 4 x28 x9 λ(x29:qr H1)=>af x29 λ(x30:H1)(x31:qr H1)=>au IntKind.i64 x30 λ(x32:Int)=>af x31 λ(x33:H1)(x34:qr H1)=>au IntKind.i64 x33 λ(x35:Int)=>af x34 λ(x36:H1)(x37:qr H1)=>au IntKind.i64 x36 λ(x38:Int)=>af x37 λ(x39:H1)(x40:qr H1)=>ob (wq w x32 x35 x38 x39 x10) λ(x41:Int)=>some (x12,aj x41 0) else some (x12,false))->
  ∃i':Nat,lp z F v (ar l) t l.length i j=some ((i':Int),(iN l t).isSome)/\i'<=l.length/\(∀h:(iN l t).isSome=true,∃h':i'<l.length,iN l t=some l[i'])/\(∀x (h:x<l.length),x<i'->l[x].tag<t)/\∀x (h:x<l.length),i'<=x->t<=l[x].tag:=by
  intro k;induction k using Nat.strongRecOn with
  |ind k ih=>
   intro i j v hj hjl hv h1 h2 z F hF;have tg:∀(y:aL)(r:qr H1),cC y++r=Value.int .i64 y.tag::.int .i64 y.ty::.int .i64 y.az::ag y.data::r:=λ_ _=>rfl;rw[eB z F (by omega),hF];by_cases hk:k=0
   ·subst hk;have e1:¬((i:Int)<(j:Int)):=by omega
    simp only[aU,e1,bL,aD];by_cases hi:i<l.length
    ·have e2:((i:Int)<(l.length:Int)):=by omega
     simp only[e2,aY,aE,bP];rw[show ar l=aB cC l from rfl,bn gW hi,tg];simp only[aX,bu];rw[X4];simp only[aA];have hge:=h2 i hi (by omega);by_cases he:l[i].tag=t
     ·have hf:iN l t=some l[i]:=by
       unfold iN;rw[List.find?_eq_some_iff_getElem];refine⟨by simp[he],i,hi,rfl,λx hx=>?_⟩;have:=h1 x (by omega) hx;simp;omega
      refine⟨i,?_,by omega,λ_=>⟨hi,hf⟩,h1,λx h q=>h2 x h (by omega)⟩;rw[hf,aq (by omega),aq (by omega)];rfl
     ·have hf:iN l t=none:=by
       unfold iN;rw[List.find?_eq_none];intro y hy;obtain⟨x,hx,rfl⟩:=List.mem_iff_getElem.1 hy;have a:=λq=>h1 x hx q;have b:x=i\/x<i\/i<x:=by omega
       rcases b with rfl|b|b
       ·simpa using he
       ·have:=h1 x hx b;simp;omega
       ·have:=vX hr b hx;simp;omega
      refine⟨i,?_,by omega,(λh=>by rw[hf] at h;cases h),h1,λx h q=>h2 x h (by omega)⟩;rw[hf,aq (by omega),ay (by omega)];rfl
    ·have e2:¬((i:Int)<(l.length:Int)):=by omega
     simp only[e2,bL,aD];have hf:iN l t=none:=by unfold iN;rw[List.find?_eq_none];intro y hy;obtain⟨x,hx,rfl⟩:=List.mem_iff_getElem.1 hy;have:=h1 x hx (by omega);simp;omega
     exact⟨i,by rw[hf];rfl,by omega,(λh=>by rw[hf] at h;cases h),h1,λx h q=>h2 x h (by omega)⟩
   ·have e1:((i:Int)<(j:Int)):=by omega
    obtain⟨m,hm⟩:∃m,(i+j)/2=m:=⟨_,rfl⟩;have hmi:i<=m/\m<j:=by omega
    have haw:ah IntKind.i64 ((ah IntKind.u64 (ah IntKind.i64 ((i:Int).add (j:Int)))).fdiv (2^1))=(m:Int):=by rw[cc,aP (n:=(i:Int)+(j:Int)) (by omega) (by omega),tb (by omega) (by omega),show((2:Int)^1)=2 from rfl,Int.fdiv_eq_ediv_of_nonneg _ (by decide),show((i:Int)+(j:Int))/2=(m:Int) by omega,aP (by omega) (by omega)]
    simp only[aU,e1,aY,aE];rw[haw,bP,show ar l=aB cC l from rfl,bn gW (by omega:m<l.length),tg];simp only[aX,bu];rw[X4];simp only[aA];by_cases hlt:l[m].tag<t
    ·rw[ay hlt,show decide ((-1:Int)<0)=true from rfl,aE,cc,aP (by omega) (by omega),show(m:Int)+1=((m+1:Nat):Int) by omega];refine ih (j -(m+1)) (by omega) (m+1) j (v -1) (by omega) hjl (by omega) (λx hx hxm=>?_) h2 z F hF;by_cases hxe:x=m
     ·subst hxe;exact hlt
     ·have:=vX hr (show x<m by omega) (show m<l.length by omega);omega
    ·rw[aq hlt];have e3:∀(A B:Hx (Int×Bool)),(bif decide ((if t<l[m].tag then(1:Int) else 0)<0) then A else B)=B:=by
      intro A B;split<;>rfl
     rw[e3];refine ih (m -i) (by omega) i m (v -1) (by omega) (by omega) (by omega) h1 (λx hx hxm=>?_) z F hF;by_cases hxe:x=m
     ·subst hxe;omega
     ·have:=vX hr (show m<x by omega) hx;omega
 obtain⟨i,a,b,c⟩:=key l.length 0 l.length w (by omega) (aM _) (by omega) (λ_ _ h=>by omega) (λx h h'=>by omega) _ _ (λ_ _ _ _ _ _=>rfl);refine⟨i,?_,b,c⟩;unfold yS OH F9;refine Eq.trans (bY (λz=>ob z _) a) rfl
theorem GO{w:Nat}(l:qr aL)(t:Int)(hr:fR l=true)(hl:l.length<2^40)(hw:l.length+2<w)(hd:∀t∈l,t.data.length<=1000000000):
 Ca w (ar l) t=some (match iN l t with|some x=>(x.ty,x.az,ag x.data,true)|none=>(0,0,ae 0 [],false)):=by
 obtain⟨i,a,b,c,_⟩:=Ou l t hr hl hw;unfold Ca;rw[a];simp only[aA];cases hf:iN l t with
 |none=>rfl
 |some x=>
  obtain⟨h',e⟩:=c (by grind);rw[hf] at e;injection e with e;rw[bP,show ar l=aB cC l from rfl,bn gW h',(show∀(y:aL)(r:qr H1),List.drop 1 (cC y++r)=.int .i64 y.ty::.int .i64 y.az::ag y.data::r fromλ_ _=>rfl)]
  simp;unfold uk;rw[rR w _ (hd _ (cA h')),<-e];rfl
def xO(l:qr aL):qr (Int×aV)->qr aL
 |[]=>l
 |(_,.mk tags _ _)::r=>xO tags r
theorem Th:∀(s:cP)(l:qr aL),xP l s=xO l (aR s)
 | .nil,l=>rfl
 | .cons _ (.mk tags _ _) r,l=>by rw[xP,Th r tags];rfl
theorem tA(tags:qr aL)(subs:cP)(blob:qr UInt8):dw (.mk tags subs blob)=[ar tags,ae (cm subs) (gR subs),ag blob]:=by rw[dw]
def Zs(m:Nat)(l:qr (Int×aV)):Prop:=∀p∈l,iK m p.2
theorem agW{w m:Nat}(hm:m<=1000000)(hw:m+20<w)(L:qr (Int×aV))(hL:L.length<=m)(hS:Zs m L)(o:Int)(a b c e f g:H1)(i0:qr aL):
 lp Vx (Fl w) w (aB gB L) L.length 0 o a b c (ar i0) e f g=some (true,o,a,b,c,ar (xO i0 L),e,f,g):=by
 refine nN (ev:=λi s (k:Dh)=>k (aB gB L) L.length i o a b c (ar s) e f g) (Inv:=λi s=>xO s (L.drop i)=xO i0 L) L.length i0 (by rw[ew]) ?_ ?_ (by omega)
 ·intro i g s hi hI;have hsm:=hS _ (cA hi);rw[dk hi] at hI;have e1:((i:Int)<(L.length:Int)):=by omega
  have sg:∀(p:Int×aV)(r:qr H1),gB p++r=.int .i64 p.1 ::dT p.2 ::dS p.2 ::dB p.2 ::r:=by intro p r;unfold gB;rw[qk];rfl
  obtain⟨⟨tags,subs,blob⟩,hd⟩:∃d,L[i].2 =d:=⟨_,rfl⟩;have hsm2:tags.length<=m/\cm subs<=m/\blob.length<=m/\(∀t∈tags,t.data.length<=m)/\iL m subs:=by rw[hd] at hsm;exact hsm
  refine⟨tags,?_,?_⟩
  ·rw[<-hI,show L[i]=(L[i].1,L[i].2) from rfl,hd];rfl
  ·unfold Fl BL;simp only[aU,e1,bP];rw[bn uB hi,sg];simp only[aX];rw[hd,show dT (.mk tags subs blob)=ar tags from rfl,sq tags (by omega) (λt ht=>by have:=hsm2.2.2.2.1 t ht;omega) (by omega)];simp only[cc];rw[aP (by omega) (by omega)];rfl
 ·intro g s hI;rw[rG,xO] at hI;unfold Fl BL;simp;rw[hI]
theorem aki{w m:Nat}(A:Hand w)(hm:m<=1000000)(hw:m+20<w){r r':dF}{d:aV}(hd:iK m d)(hr:∀tags subs blob,d=.mk tags subs blob->fR tags=true)(h:qZ r d=some r'):
 Hk w (dT d) (dS d) (dB d) r.order (ar r.cn) (ar r.bD) (ar r.bG) (ar r.bj) (ar r.first) (ag r.bC) (ag r.cF)=some (true,r'.order,ar r'.cn,ar r'.bD,ar r'.bG,ar r'.bj,ar r'.first,ag r'.bC,ag r'.cF):=by
 obtain⟨tags,subs,blob⟩:=d;have hsm2:tags.length<=m/\cm subs<=m/\blob.length<=m/\(∀t∈tags,t.data.length<=m)/\iL m subs:=hd;have hrt:=hr tags subs blob rfl;have hsl:=uD subs;have hdrop:=A.drop tags 37500 hrt (by omega) (by omega) (λt ht=>by have:=hsm2.2.2.2.1 t ht;omega);have hlp:=agW hm hw (aR subs) (by omega) (λp hp=>xf hsm2.2.2.2.2 p hp) r.order (ar r.cn) (ar (pw tags 37500)) (ar r.bG) (ar r.first);unfold Hk BL;rw[show dT (.mk tags subs blob)=ar tags from rfl,show dS (.mk tags subs blob)=ae (cm subs) (gR subs) from rfl,(GO tags 37500 hrt (by omega) (by omega) (λt ht=>by have:=hsm2.2.2.2.1 t ht;omega)),CW];simp only[qZ,Th] at h;cases hf:iN tags 37500 with
 |some v=>
  rw[hf] at h;simp only at h;split at h
  case isFalse=>cases h
  rename_i h7;injection h with h;subst h;simp;rw[h7,hdrop];exact hlp _ _ _
 |none=>rw[hf] at h;injection h with h;subst h;rw[hdrop];simp only[aaS];exact hlp _ _ _
theorem adb{w m:Nat}(hm:m<=1000000)(hw:m+20<w)(ds:qr aV)(hl:ds.length<=m)(hS:oo m ds)(r x:dF)(hx:vq r ds=x)(hc:iT x=0)(hE:jI x m)(A B C D E F G:H1):
 lp T7 (EM w) w (aB dw ds) ds.length 0 0 A B C D E F G r.order (ar r.cn) (ar r.bD) (ar r.bG) (ar r.bj) (ar r.first) (ag r.bC) (ag r.cF)=some (x.order,ar x.cn,ar x.bD,ar x.bG,ar x.bj,ar x.first,ag x.bC,ag x.cF,0):=by
 refine nN (σ:=dF) (ev:=λi s (k:De)=>k (aB dw ds) ds.length i 0 A B C D E F G s.order (ar s.cn) (ar s.bD) (ar s.bG) (ar s.bj) (ar s.first) (ag s.bC) (ag s.cF)) (Inv:=λi s=>vq s (ds.drop i)=x) ds.length r hx ?_ ?_ (by omega)
 ·intro i g s hi hI;have hsm:=hS _ (cA hi);rw[dk hi] at hI;obtain⟨⟨tags,subs,blob⟩,hd⟩:∃d,ds[i]=d:=⟨_,rfl⟩;rw[hd] at hI hsm;have hsm2:tags.length<=m/\cm subs<=m/\blob.length<=m/\(∀t∈tags,t.data.length<=m)/\iL m subs:=hsm;refine⟨_,hI,?_⟩;unfold EM;simp_all;rw[bn kW hi,hd,Al];simp;rw[show dT (.mk tags subs blob)=ar tags from rfl,show dB (.mk tags subs blob)=ag blob from rfl,sq tags (by omega) (λt ht=>by have:=hsm2.2.2.2.1 t ht;omega) (by omega),rR w blob (by omega),aP (by omega) (by omega)];rfl
 ·intro g s hI;rw[rG,vq] at hI;subst hI;unfold EM;simp;rw[XZ hE (by omega) hw,hc];rfl
def rB(r:dF):qr (Int×aV)->Hx dF
 |[]=>some r
 |(tag,d)::s=>if tag=34853 then rB {r with bG:=(match d with| .mk tags _ _=>tags)} s else(qZ r d).bind λr=>rB r s
theorem PF:∀(s:cP)(r:dF),rA r s=rB r (aR s)
 | .nil,r=>rfl
 | .cons tag (.mk tags a b) s,r=>by
  show(if tag=34853 then rA {r with bG:=tags} s else(qZ r (.mk tags a b)).bind λr=>rA r s)=(if tag=34853 then rB {r with bG:=tags} (aR s) else(qZ r (.mk tags a b)).bind λr=>rB r (aR s))
  split
  ·exact PF s _
  ·congr 1
   funext r
   exact PF s r
theorem alT(r:dF)(tag:Int)(d:aV)(s:qr (Int×aV)):rB r ((tag,d)::s)=if tag=34853 then rB {r with bG:=(match d with| .mk tags _ _=>tags)} s else(qZ r d).bind λr=>rB r s:=by rfl
def Dp(d:aV):Prop:=∀tags subs blob,d=.mk tags subs blob->fR tags=true
theorem aj5{w m:Nat}(A:Hand w)(hm:m<=1000000)(hw:m+20<w){o:Int}{ds:qr aV}{x:dF}(h200:um w o (dc ds) (cu dC)=some 0)(h:xV ⟨o,ds⟩=some x)(hE:jI x m)(hl:ds.length<=m)(hS:oo m ds)(hr:∀d∈ds,∀tags subs blob,d=.mk tags subs blob->∀p∈aR subs,Dp p.2):
 G9 w o (dc ds)=some (x.order,ar x.cn,ar x.bD,ar x.bG,ar x.bj,ar x.first,ag x.bC,ag x.cF,0):=by
 unfold xV at h;rcases ds with _|⟨⟨tags,subs,blob⟩,ds⟩
 ·cases h
 simp only at h;rw[PF] at h;obtain⟨r1,hr1,h⟩:=Option.bind_eq_some_iff.1 h;split at h
 case isFalse=>cases h
 rename_i hc;injection h with h;have hsm2:tags.length<=m/\cm subs<=m/\blob.length<=m/\(∀t∈tags,t.data.length<=m)/\iL m subs:=hS _ nY;have hrs:=hr _ nY tags subs blob rfl;have hsl:=uD subs;rw[bW] at hl;have e0:∀(K:qr H1->Hx (Int×H1×H1×H1×H1×H1×H1×H1×Int)),aJ 3 0 (dc (.mk tags subs blob::ds)) K=K (dw (.mk tags subs blob)++ds.flatMap dw):=λK=>bn kW (m:=0) (by rw[bW];omega) K
 have d0:∀r:qr H1,List.drop 0 (dw (.mk tags subs blob)++r)=ar tags::ae (cm subs) (gR subs)::ag blob::r:=by intro r;rw[tA];rfl
 have d1:∀r:qr H1,List.drop 1 (dw (.mk tags subs blob)++r)=ae (cm subs) (gR subs)::ag blob::r:=by intro r;rw[tA];rfl
 unfold G9;rw[Oh];simp only[aA];rw[h200];simp only[aA];rw[show(!aj 0 0)=false from rfl,aD,e0,d0];simp only[aX];rw[sq tags (by omega) (λt ht=>by have:=hsm2.2.2.2.1 t ht;omega) (by omega)];simp only[aA];rw[e0,d1];simp only[aX];rw[CW,cd];have main:lp T6 (EL w) w (aB gB (aR subs)) (aR subs).length 0 o (dc (.mk tags subs blob::ds)) 0 (ae 0 []) (ae 0 []) (ae 0 []) (ae 0 []) (ae 0 []) (ae 0 []) (ae 0 []) o (ar tags) (ar []) (ar []) (ar []) (ar []) (ag []) (ag [])=some (x.order,ar x.cn,ar x.bD,ar x.bG,ar x.bj,ar x.first,ag x.bC,ag x.cF,0):=by
  refine nN (σ:=dF) (ev:=λi s (k:Dd)=>k (aB gB (aR subs)) (aR subs).length i o (dc (.mk tags subs blob::ds)) 0 (ae 0 []) (ae 0 []) (ae 0 []) (ae 0 []) (ae 0 []) (ae 0 []) (ae 0 []) s.order (ar s.cn) (ar s.bD) (ar s.bG) (ar s.bj) (ar s.first) (ag s.bC) (ag s.cF)) (Inv:=λi s=>rB s ((aR subs).drop i)=some r1) (aR subs).length ⟨o,tags,[],[],[],[],[],[]⟩ ?_ ?_ ?_ (by omega)
  ·exact hr1
  ·intro i g s hi hI;have hmem:=cA hi;have hsm:=xf hsm2.2.2.2.2 _ hmem;have hri:=hrs _ hmem;rw[dk hi] at hI;have e1:((i:Int)<((aR subs).length:Int)):=by omega
   have sg:∀(p:Int×aV)(r:qr H1),gB p++r=.int .i64 p.1 ::dT p.2 ::dS p.2 ::dB p.2 ::r:=by intro p r;unfold gB;rw[qk];rfl
   rw[alT] at hI;unfold EL;simp_all;rw[bn uB hi,sg];simp;by_cases hg:(aR subs)[i].1 =34853
   ·rw[ay hg] at hI;simp_all;refine⟨_,hI,?_⟩;obtain⟨⟨tags2,subs2,blob2⟩,hd⟩:∃d,(aR subs)[i].2 =d:=⟨_,rfl⟩;rw[hd] at hsm⊢;have hsm3:tags2.length<=m/\cm subs2<=m/\blob2.length<=m/\(∀t∈tags2,t.data.length<=m)/\iL m subs2:=hsm;rw[show dT (.mk tags2 subs2 blob2)=ar tags2 from rfl,sq tags2 (by omega) (λt ht=>by have:=hsm3.2.2.2.1 t ht;omega) (by omega)];rw[aP (by omega) (by omega)];rfl
   ·rw[aq hg] at hI;simp_all;obtain⟨s2,hs2,hI⟩:=Option.bind_eq_some_iff.1 hI;refine⟨s2,hI,?_⟩;rw[aki A hm hw hsm hri hs2];simp only[aA,bH,aD,cc];rw[aP (by omega) (by omega)];rfl
  ·intro g s hI;rw[rG,rB] at hI;injection hI with hI;subst hI;have e1:¬(((aR subs).length:Int)<((aR subs).length:Int)):=by omega
   unfold EL;simp;rw[show dc (.mk tags subs blob::ds)=aB dw (.mk tags subs blob::ds) from rfl,cd];have e2:1<=(aV.mk tags subs blob::ds).length:=by rw[bW];omega
   simp only[gF,aM,e2,aY,jG,aE];rw[tz kW _ (aM _),List.drop_succ_cons,ew,eQ (by rw[bW];omega),cd];exact adb hm hw ds (by omega) (λd hd=>hS d (mE _ hd)) s x h (by rw[<-h];exact hc) hE _ _ _ _ _ _ _
 exact main
theorem aju{w m:Nat}(A:Hand w)(hm:m<=1000000)(hw:m+20<w){b:qr UInt8}{o:Int}{ds:qr aV}{S:qr bq}{x:dF}(h117:yN w (ag b) (cu dC)=some (o,dc ds,aB bV S,0))(h200:um w o (dc ds) (cu dC)=some 0)(h:xV ⟨o,ds⟩=some x)(hE:jI x m)(hl:ds.length<=m)(hS:oo m ds)(hr:∀d∈ds,∀tags subs blob,d=.mk tags subs blob->∀p∈aR subs,Dp p.2):
 B9 w (ag b)=some (x.order,ar x.cn,ar x.bD,ar x.bG,ar x.bj,ar x.first,ag x.bC,ag x.cF,0):=by
 unfold B9 F8;rw[Oh];simp;rw[h117];simp;rw[aj5 A hm hw h200 h hE hl hS hr];rfl
theorem Yq(w:Nat)(b:qr UInt8):CF w (ag b)=some (nH.isPrefixOf b):=by unfold CF;have:ae 6 (List.drop 0 [Value.int IntKind.u8 69,Value.int IntKind.u8 120,Value.int IntKind.u8 105,Value.int IntKind.u8 102,Value.int IntKind.u8 0,Value.int IntKind.u8 0])=ag nH:=rfl;rw[this,yG];rfl
theorem N4(w:Nat)(b:qr UInt8):B8 w (ag b)=some (fX.isPrefixOf b):=by unfold B8;have:ae 12 (List.drop 0 [Value.int IntKind.u8 73,Value.int IntKind.u8 67,Value.int IntKind.u8 67,Value.int IntKind.u8 95,Value.int IntKind.u8 80,Value.int IntKind.u8 82,Value.int IntKind.u8 79,Value.int IntKind.u8 70,Value.int IntKind.u8 73,Value.int IntKind.u8 76,Value.int IntKind.u8 69,Value.int IntKind.u8 0])=ag fX:=rfl;rw[this,yG];rfl
theorem ale{w:Nat}{b k:qr UInt8}(hk:b=nH++k)(hb:b.length<=65533){o:Int}{a1 a2 a3 a4 a5 a6 a7:H1}(h:B9 w (ag k)=some (o,a1,a2,a3,a4,a5,a6,a7,0)):zk w (ag b)=some (o,a1,a2,a3,a4,a5,a6,a7,0):=by
 have hp:nH.isPrefixOf b=true:=by rw[hk,pY];exact rI _ _
 have hl:6<=b.length:=by rw[hk,aT];have:nH.length=6:=rfl;omega
 have e1:¬((65533:Int)<(b.length:Int)):=by omega
 have e2:¬((b.length:Int)<(6:Int)):=by omega
 unfold zk N5 N6 F8;rw[cI];simp[e1];simp[e2];rw[Yq,hp];simp[hl];rw[lY _ (aM _),eQ (by rw[er];omega),show b.drop 6=k by rw[hk];rfl,h];rfl
theorem ajv{w:Nat}{c:qr UInt8}(h1:1<=c.length)(h2:c.length<=65519):GJ w (ag (fX++1::1::c)) ((0:Nat):Int) 1=some true:=by
 have hp:fX.isPrefixOf (fX++1::1::c)=true:=by rw[pY];exact rI _ _
 have hl:(fX++1::1::c).length=c.length+14:=by rw[aT];show 12+_=_;simp;omega
 have i12:(fX++1::1::c)[12]'(by omega)=1:=rfl
 have i13:(fX++1::1::c)[13]'(by omega)=1:=rfl
 unfold GJ;rw[cI,N4,hp];simp only[aA,aD];rw[oG (by omega:12<_),i12];unfold aZ;simp only[aX,bu];rw[show aj (ah IntKind.i64 ((1:UInt8).toNat:Int)) (ah IntKind.i64 (Int.add ((0:Nat):Int) 1))=true from rfl];rw[oG (by omega:13<_),i13];unfold aZ;simp only[aX,bu];rw[show aj (ah IntKind.i64 ((1:UInt8).toNat:Int)) 1=true from rfl];simp only[bH];rw[hl,ji,bU,aP (by omega) (by omega),show((c.length+14:Nat):Int) -14=(c.length:Int) by omega];simp only[cj,aU];by_cases h:(c.length:Int)=65519
 ·simp[h]
 ·have e1:¬((c.length:Int)<1):=by omega
  have e3:(((0:Nat):Int)=ah IntKind.i64 (Int.sub 1 1)):=rfl;simp only[h,e1,(show((c.length:Int)<65519) from by omega),bL,aY,gj,aE,aD];rw[eY e3,aE]
theorem alf{w:Nat}(hw:20<w){b:qr UInt8}(hb:b.length<=65519):Ik w (aB eM (gp b))=some (ag b,0):=by
 have hbl:∀l:qr (qr UInt8),∀K:Nat->Hx (H1×Int),aw (aB eM l) K=K l.length:=λl K=>cd eM l K;unfold Ik gp;by_cases h0:b.length=0
 ·rw[ay h0,hbl,hbl,eB _ _ (by omega)];have:b=[]:=qF.1 h0;subst this;rfl
 ·rw[aq h0,hbl,hbl,eB _ _ (by omega)];have x0:∀(K:qr H1->Hx (H1×Int)),aJ 1 0 (aB eM [fX++1::1::b]) K=K (eM (fX++1::1::b)++([].flatMap eM)):=λK=>bn (k:=1) (λ_=>rfl) (m:=0) (by show 0<1;omega) K;have hl:(fX++1::1::b).length=b.length+14:=by rw[aT];show 12+_=_;simp;omega
  have e1:¬((Int.ofNat (fX++1::1::b).length)<14):=by rw[bU];omega
  have e14:14<=(fX++1::1::b).length:=by omega
  rw[show(0:Int)=((0:Nat):Int) from rfl,bP,x0];rw[show eM (fX++1::1::b)++([].flatMap eM)=[ag (fX++1::1::b)] from rfl];simp only[aX];rw[cI];simp only[aU,e1,aD];rw[hbl,show Int.ofNat [fX++1::1::b].length=1 from rfl,ajv (by omega) hb];rw[cI];simp only[gF,e14,aY,aE];rw[lY _ (aM _),eQ (by rw[er];omega),show(fX++1::1::b).drop 14=b from rfl,im,gZ,gk];have hr1:aH b.length=true:=by simp;omega
  rw[hr1];rw[show ah IntKind.i64 (Int.add ((0:Nat):Int) 1)=1 from rfl,eB _ _ (by omega)];simp;rw[oy]
def zw(m:Int)(p:qr UInt8->Bool):qr bM->Bool
 |[]=>false
 |s::_=>decide (s.cg=m)&&p s.data
theorem oQ{β:Type}(s:bM)(r:qr bM)(K:qr H1->Hx β):aJ 3 0 (dZ (s::r)) K=K (cW s++r.flatMap cW):=bn jR (by simp) K
theorem Ge{β:Type}(s:bM)(r:qr bM)(K:H1->Hx β):gL 3 1 (s::r).length (dZ (s::r)) K=K (dZ r):=by rw[show dZ (s::r)=aB cW (s::r) from rfl,tz jR _ (aM _),eQ (by simp)];rfl
theorem sE{β:Type}(l:qr bM)(K:Nat->Hx β):aw (dZ l) K=K l.length:=cd cW l K
theorem ak9{w:Nat}{m:Int}{s:bM}{r:qr bM}(h1:s.cg=m)(h2:nH.isPrefixOf s.data=true)(x2:Int)(x3 x4 x5 x6 x7 x8 x9 x10 x11 x12:H1)(x13 x14:Int):Ii w m (dZ (s::r)) x2 x3 x4 x5 x6 x7 x8 x9 x10 x11 x12 x13 x14=some (ag s.data,true,dZ r,x2,x3,x4,x5,x6,x7,x8,x9,x10,x11,x12,x13,x14):=by
 have e1:aj (Int.ofNat (s::r).length) 0=false:=by rw[cj,gJ,bU,bW];omega
 have e2:1<=(s::r).length:=by rw[bW];omega
 have c2:∀q:qr H1,cW s++q=.int .i64 s.cg::ag s.data::ag s.scan::q:=λ_=>rfl;unfold Ii ub;rw[sE,e1,oQ,(show∀q:qr H1,List.drop 0 (cW s++q)=.int .i64 s.cg::ag s.data::ag s.scan::q fromλ_=>rfl)];simp only[aX,bu];rw[h1,show aj m m=true by rw[cj,cf],oQ,(show∀q:qr H1,List.drop 1 (cW s++q)=ag s.data::ag s.scan::q fromλ_=>rfl)];simp only[aX];rw[Yq,h2];simp only[aA,bH,aD];rw[oQ,c2];simp only[aX,bu];rw[sE];simp only[gF,aM,e2,aY,jG,aE];rw[Ge]
theorem ak6{w:Nat}{m:Int}{s:bM}{r:qr bM}(h1:s.cg=m)(h2:fC.isPrefixOf s.data=true)(x2:Int)(x3 x4 x5 x6 x7 x8 x9 x10 x11 x12:H1)(x13 x14:Int):zi w m (dZ (s::r)) x2 x3 x4 x5 x6 x7 x8 x9 x10 x11 x12 x13 x14=some (ag s.data,true,dZ r,x2,x3,x4,x5,x6,x7,x8,x9,x10,x11,x12,x13,x14):=by
 have e1:aj (Int.ofNat (s::r).length) 0=false:=by rw[cj,gJ,bU,bW];omega
 have e2:1<=(s::r).length:=by rw[bW];omega
 have c2:∀q:qr H1,cW s++q=.int .i64 s.cg::ag s.data::ag s.scan::q:=λ_=>rfl;unfold zi ub;rw[sE,e1,oQ,(show∀q:qr H1,List.drop 0 (cW s++q)=.int .i64 s.cg::ag s.data::ag s.scan::q fromλ_=>rfl)];simp only[aX,bu];rw[h1,show aj m m=true by rw[cj,cf],oQ,(show∀q:qr H1,List.drop 1 (cW s++q)=ag s.data::ag s.scan::q fromλ_=>rfl)];simp only[aX];rw[Pj,h2];simp only[aA,bH,aD];rw[oQ,c2];simp only[aX,bu];rw[sE];simp only[gF,aM,e2,aY,jG,aE];rw[Ge]
theorem ak5{w:Nat}{m:Int}{l:qr bM}(h:zw m (λd=>fC.isPrefixOf d) l=false)(x2:Int)(x3 x4 x5 x6 x7 x8 x9 x10 x11 x12:H1)(x13 x14:Int):zi w m (dZ l) x2 x3 x4 x5 x6 x7 x8 x9 x10 x11 x12 x13 x14=some (ae 0 [],false,dZ l,x2,x3,x4,x5,x6,x7,x8,x9,x10,x11,x12,x13,x14):=by
 unfold zi ub;rw[sE];cases l with
 |nil=>rfl
 |cons s r=>
  have h:(decide (s.cg=m)&&fC.isPrefixOf s.data)=false:=h;rw[(show aj (Int.ofNat (s::r).length) 0=false from by rw[cj,gJ,bU,bW];omega),aD,oQ,(show∀q:qr H1,List.drop 0 (cW s++q)=.int .i64 s.cg::ag s.data::ag s.scan::q fromλ_=>rfl)];simp only[aX,bu,cj];by_cases hm:s.cg=m
  ·rw[eY hm,eV] at h;rw[oQ,(show∀q:qr H1,List.drop 1 (cW s++q)=ag s.data::ag s.scan::q fromλ_=>rfl)];simp;rw[Pj,h];simp
  ·rw[fI hm,gj,aE]
theorem ak8{w:Nat}{m:Int}{s:bM}{r:qr bM}(h1:s.cg=m)(h2:fX.isPrefixOf s.data=true)(x2:Int)(x3 x4 x5 x6 x7 x8 x9 x10 x11 x12:H1)(x13 x14:Int):uw w m (dZ (s::r)) x2 x3 x4 x5 x6 x7 x8 x9 x10 x11 x12 x13 x14=some (ag s.data,true,dZ r,x2,x3,x4,x5,x6,x7,x8,x9,x10,x11,x12,x13,x14):=by
 have e1:aj (Int.ofNat (s::r).length) 0=false:=by rw[cj,gJ,bU,bW];omega
 have e2:1<=(s::r).length:=by rw[bW];omega
 have c2:∀q:qr H1,cW s++q=.int .i64 s.cg::ag s.data::ag s.scan::q:=λ_=>rfl;unfold uw ub;rw[sE,e1,oQ,(show∀q:qr H1,List.drop 0 (cW s++q)=.int .i64 s.cg::ag s.data::ag s.scan::q fromλ_=>rfl)];simp only[aX,bu];rw[h1,show aj m m=true by rw[cj,cf],oQ,(show∀q:qr H1,List.drop 1 (cW s++q)=ag s.data::ag s.scan::q fromλ_=>rfl)];simp only[aX];rw[N4,h2];simp only[aA,bH,aD];rw[oQ,c2];simp only[aX,bu];rw[sE];simp only[gF,aM,e2,aY,jG,aE];rw[Ge]
theorem ak7{w:Nat}{m:Int}{l:qr bM}(h:zw m (λd=>fX.isPrefixOf d) l=false)(x2:Int)(x3 x4 x5 x6 x7 x8 x9 x10 x11 x12:H1)(x13 x14:Int):uw w m (dZ l) x2 x3 x4 x5 x6 x7 x8 x9 x10 x11 x12 x13 x14=some (ae 0 [],false,dZ l,x2,x3,x4,x5,x6,x7,x8,x9,x10,x11,x12,x13,x14):=by
 unfold uw ub;rw[sE];cases l with
 |nil=>rfl
 |cons s r=>
  have h:(decide (s.cg=m)&&fX.isPrefixOf s.data)=false:=h;rw[(show aj (Int.ofNat (s::r).length) 0=false from by rw[cj,gJ,bU,bW];omega),aD,oQ,(show∀q:qr H1,List.drop 0 (cW s++q)=.int .i64 s.cg::ag s.data::ag s.scan::q fromλ_=>rfl)];simp only[aX,bu,cj];by_cases hm:s.cg=m
  ·rw[eY hm,eV] at h;rw[oQ,(show∀q:qr H1,List.drop 1 (cW s++q)=ag s.data::ag s.scan::q fromλ_=>rfl)];simp;rw[N4,h];simp
  grind
theorem alc{w:Nat}(cs:qr (qr UInt8))(hcs:∀c∈cs,fX.isPrefixOf c=true)(hl:cs.length<1000)(hw:2000<w){r:qr bM}(h:zw 226 (λd=>fX.isPrefixOf d) r=false)(x1:Int)(x2 x3 x4 x5 x6 x7 x8 x9 x10 x11:H1)(x12 x13:Int):
 zj w (dZ (cs.map (λc=>⟨226,c,[]⟩)++r)) x1 x2 x3 x4 x5 x6 x7 x8 x9 x10 x11 x12 x13=some (dZ r,x1,x2,x3,x4,x5,x6,x7,x8,x9,x10,x11,x12,x13,cs.flatMap eM):=by
 obtain⟨tk,htk⟩:∃tk:qr (qr UInt8)->H1×Bool×H1×Int×H1×H1×H1×H1×H1×H1×H1×H1×H1×H1×Int×Int,tk=λl=>match l with
  |[]=>(ae 0 [],false,dZ r,x1,x2,x3,x4,x5,x6,x7,x8,x9,x10,x11,x12,x13)
  |c::l=>(ag c,true,dZ (l.map (λc=>(⟨226,c,[]⟩:bM))++r),x1,x2,x3,x4,x5,x6,x7,x8,x9,x10,x11,x12,x13):=⟨_,rfl⟩
 have ht:∀l:qr (qr UInt8),(∀c∈l,fX.isPrefixOf c=true)->uw w 226 (dZ (l.map (λc=>(⟨226,c,[]⟩:bM))++r)) x1 x2 x3 x4 x5 x6 x7 x8 x9 x10 x11 x12 x13=some (tk l):=by
  intro l hl;rw[htk];cases l with
  |nil=>exact ak7 h _ _ _ _ _ _ _ _ _ _ _ _ _
  |cons c l=>have:=ak8 (w:=w) (s:=⟨226,c,[]⟩) (r:=l.map (λc=>(⟨226,c,[]⟩:bM))++r) rfl (hl c nY) x1 x2 x3 x4 x5 x6 x7 x8 x9 x10 x11 x12 x13;exact this
 unfold zj;rw[ht cs hcs];refine nN (ev:=λi _ (g:H1->Bool->H1->Int->H1->H1->H1->H1->H1->H1->H1->H1->H1->H1->Int->Int->qr H1->Hx (H1×Int×H1×H1×H1×H1×H1×H1×H1×H1×H1×H1×Int×Int×qr H1))=>g (tk (cs.drop i)).1 (tk (cs.drop i)).2.1 (tk (cs.drop i)).2.2.1 (tk (cs.drop i)).2.2.2.1 (tk (cs.drop i)).2.2.2.2.1 (tk (cs.drop i)).2.2.2.2.2.1 (tk (cs.drop i)).2.2.2.2.2.2.1 (tk (cs.drop i)).2.2.2.2.2.2.2.1 (tk (cs.drop i)).2.2.2.2.2.2.2.2.1 (tk (cs.drop i)).2.2.2.2.2.2.2.2.2.1 (tk (cs.drop i)).2.2.2.2.2.2.2.2.2.2.1 (tk (cs.drop i)).2.2.2.2.2.2.2.2.2.2.2.1 (tk (cs.drop i)).2.2.2.2.2.2.2.2.2.2.2.2.1 (tk (cs.drop i)).2.2.2.2.2.2.2.2.2.2.2.2.2.1 (tk (cs.drop i)).2.2.2.2.2.2.2.2.2.2.2.2.2.2.1 (tk (cs.drop i)).2.2.2.2.2.2.2.2.2.2.2.2.2.2.2 ((cs.take i).flatMap eM)) (Inv:=λ_ _=>True) cs.length () trivial ?_ ?_ (by omega)
 ·intro i g _ hi _;refine⟨(),trivial,?_⟩;have hfl:((cs.take i).flatMap eM).length=i:=by
   rw[da (k:=1) (λ_=>rfl),dE,kC (by omega),gk]
  simp only[(show tk (cs.drop i)=(ag cs[i],true,dZ ((cs.drop (i+1)).map (λc=>(⟨226,c,[]⟩:bM))++r),x1,x2,x3,x4,x5,x6,x7,x8,x9,x10,x11,x12,x13) from by rw[(dk hi),htk])];rw[hfl,(show aH i=true from by simp;omega),ht _ (λc hc=>hcs c (qG hc)),iI hi,fD];rfl
 ·intro g _ _;simp_all
theorem ald{w:Nat}(r:qr bM)(hl:r.length<2^40)(hw:r.length<w)(h:∀s∈r,qd s.cg=false)(x1:Int)(x2 x3 x4 x5 x6 x7 x8 x9 x10 x11:H1)(x12 x13:Int):
 Pn w (dZ r) x1 x2 x3 x4 x5 x6 x7 x8 x9 x10 x11 x12 x13=some (false,dZ r,x1,x2,x3,x4,x5,x6,x7,x8,x9,x10,x11,x12,x13):=by
 refine gO (ev:=λi (g:H1->Int->Int->H1->Int->H1->H1->H1->H1->H1->H1->H1->H1->H1->H1->Int->Int->Hx (Bool×H1×Int×H1×H1×H1×H1×H1×H1×H1×H1×H1×H1×Int×Int))=>g (dZ r) r.length i (dZ r) x1 x2 x3 x4 x5 x6 x7 x8 x9 x10 x11 x12 x13) r.length ?_ ?_ hw
 ·intro i g hi;have c2:∀(s:bM)(q:qr H1),cW s++q=.int .i64 s.cg::ag s.data::ag s.scan::q:=λ_ _=>rfl;have ha:=h _ (cA hi);unfold qd at ha;simp;rw[show dZ r=aB cW r from rfl,bn jR hi,aP (by omega) (by omega)];simp_all
 simp
noncomputable def TP(w:Nat)(aO q:H1)(a1:Int)(a2 a3 a4 a5 a6 a7 a8 a9 a10 a11:H1)(a12 a13:Int):Hx (Int×H1×H1×H1×H1×H1×H1×H1×H1×H1×H1×Int×Int×Int):=
 ob (zj w q a1 a2 a3 a4 a5 a6 a7 a8 a9 a10 a11 a12 a13) λx=>BH w x (aO,true,q,0,q,q,q,q,q,q,q,q,q,q,0,0)
theorem ac0{w m:Nat}(A:Hand w){aO:qr UInt8}{cs:qr (qr UInt8)}{r:qr bM}{core:qr UInt8}{bZ:qr UInt8}(hcs:cs=gp bZ)(hicc:bZ.length<=65519)
 (hm:m<2^26) (hw:2*m+200000<w) (hr:∀s∈r,qd s.cg=false) (hr1:r.length≠0) (hcore:nE core=true) (hcw:dt (⟨216,[],[]⟩::r)=core) (hmay:mS (⟨216,[],[]⟩::r)=true) (hseg:xe (⟨216,[],[]⟩::r) m) (hlen:r.length<=m) (hcl:core.length<=m)
 {o:Int} {b1 b2 b3 b4 b5 b6 b7:H1} (h60:zk w (ag aO)=some (o,b1,b2,b3,b4,b5,b6,b7,0)) (a1:Int) (a2 a3 a4 a5 a6 a7 a8 a9 a10 a11:H1) (a12 a13:Int):
 TP w (ag aO) (dZ (cs.map (λc=>(⟨226,c,[]⟩:bM))++r)) a1 a2 a3 a4 a5 a6 a7 a8 a9 a10 a11 a12 a13=some (o,b1,b2,b3,b4,b5,b6,b7,ag bZ,ag core,a11,a12,a13,0):=by
 have hq:zw 226 (λd=>fX.isPrefixOf d) r=false:=by
  cases r with
  |nil=>rfl
  |cons s r=>have:=hr s nY;unfold qd at this;rw[gJ] at this;show(decide (s.cg=226)&&_)=false;rw[fI (by omega)];rfl
 have hpre:∀c∈cs,fX.isPrefixOf c=true:=by
  intro c hc;rw[hcs] at hc;unfold gp at hc;split at hc
  ·cases hc
  ·rw[nj.1 hc,pY];exact rI _ _
 have hchl:cs.length<=1:=by rw[hcs];unfold gp;split<;>simp
 have e0:aj 0 0=true:=rfl;unfold TP BH yx F3;rw[alc cs hpre (by omega) (by omega) hq];simp only[aA];rw[ald r (by omega) (by omega) hr];rw[h60];have hcv:ae ((cs.flatMap eM).length/1) (cs.flatMap eM)=aB eM (gp bZ):=by rw[da (k:=1) (λ_=>rfl),kB,gk,hcs];rfl
 rw[hcv,alf (by omega) hicc];simp only[aA,e0,bH,aD];rw[show dZ r=aB cW r from rfl,xG jR,da jR];have e1:(1+r.length).ble 1=false:=by rw[gF,gJ];omega
 have r2:aH r.length=true:=by simp;omega
 have hn:=nextslicecap_le (need:=1+r.length) (old:=1) (by omega);have r3:(Builtin.nextslicecap (1+r.length) 1).ble 5000000000=true:=by rw[iy];omega
 rw[e1,r2,r3];rw[show List.take 3 (List.drop 0 [Value.int IntKind.i64 216,ae 0 [],ae 0 []])++r.flatMap cW=(⟨216,[],[]⟩::r:qr bM).flatMap cW from rfl,Xt,Yp A _ (by omega) hseg (by rw[bW];omega) ⟨by rw[bW];omega,by omega,by omega⟩ hmay (by rw[hcw];omega),hcw];simp;rw[Ph core (by omega) (by omega),hcore];rfl
theorem ah2{sh:qr bg}{s:Nat}{d:aV}(h:cR sh s d=true):Dp d:=by
 rintro tags subs blob rfl
 simp only[cR,kx] at h
 grind
theorem ah3{sh:qr bg}{s:Nat}{tags:qr aL}{subs:cP}{blob:qr UInt8}(h:cR sh s (.mk tags subs blob)=true):∀p∈aR subs,Dp p.2 :=by simp[cR] at h;intro p hp;exact ah2 (KG h.2.2.2.2 p hp).2
theorem jI.more{x:dF}{m k:Nat}(h:jI x m)(hk:m<=k):jI x k:=by obtain⟨⟨r0,r2,r3,r4,r1⟩,d0,d2,d3,d4,d1,hmk,hth⟩:=h;exact⟨⟨by omega,by omega,by omega,by omega,by omega⟩,λt ht=>by have:=d0 t ht;omega,λt ht=>by have:=d2 t ht;omega,λt ht=>by have:=d3 t ht;omega,λt ht=>by have:=d4 t ht;omega,λt ht=>by have:=d1 t ht;omega,by omega,by omega⟩
theorem ZB{w:Nat}(W:cX w){x:dF}{b:qr UInt8}(h:iS x=.ok b)(hx:jI x 9000)(hw:800000<w):zk w (ag b)=some (x.order,ar x.cn,ar x.bD,ar x.bG,ar x.bj,ar x.first,ag x.bC,ag x.cF,0):=by
 have hr:=hx.rows;obtain⟨-,-,hp2,hp3,hp4⟩:=zZ h (by unfold q9 at hr⊢;omega);have hce:iT x=0:=by unfold iS at h;split at h<;>grind
 have TR:=D5 W hx hce;have hl:(eC (fj x) dC).length<=65533:=by rw[hp3,aT] at hp2;omega
 obtain⟨-,k1,k2,-⟩:=YY hx (by decide);have hsp:=CR (fj x).dJ 0 8 TR.hd;have hsp3:(eJ (fj x)).length=(jn 0 8 (fj x).dJ).length+1:=rfl;have h114:=aju W.hand (by omega) (by omega) (GL (b:=eC (fj x) dC) (by omega) (by omega) Ki (λs hs=>by have:=RF s hs;omega) (by decide) (by decide) TR.tI (S:=eJ (fj x)) (by omega) (by rw[hp4];rfl)) TR.check (by rw[al6];exact Ub hce) (hx.more (by omega)) TR.iO TR.hd (λd hd tags subs blob he p hp=>by obtain⟨s,hs⟩:=KF TR.hh d hd;rw[he] at hs;exact ah3 hs p hp);exact ale hp3 hp2 h114
theorem aaf{core:qr UInt8}{r:qr bM}(c4:dt (⟨216,[],[]⟩::r)=core)(hmay:mS (⟨216,[],[]⟩::r)=true):xe (⟨216,[],[]⟩::r) core.length:=by
 intro s hs;rcases cZ.1 hs with rfl|hs2
 ·simp
 ·have h1:=NS hs;by_cases ha:je s.cg=true
  ·obtain⟨-,-,q,-⟩:=P0 hmay hs
   grind
  ·unfold cV at h1
   grind
theorem Sv{x:nv}{aO:qr UInt8}{r:qr bM}(c2:Ai x.core=⟨216,[],[]⟩::r)(c4:dt (⟨216,[],[]⟩::r)=x.core):(eR x aO).length<=100+aO.length+x.cy.length+x.bZ.length+x.core.length:=by
 have e:eR x aO=cV ⟨216,[],[]⟩++(cV ⟨225,aO,[]⟩++(dt (if x.cy.length=0 then[] else[⟨226,x.cy,[]⟩])++(dt ((gp x.bZ).map (λc=>⟨226,c,[]⟩))++dt r))):=by unfold eR jB;rw[c2];simp[dt]
 have k1:(cV ⟨216,[],[]⟩).length=2:=rfl;have k2:(cV ⟨225,aO,[]⟩).length<=aO.length+4:=by unfold cV;split<;>simp<;>omega
 have k3:(dt (if x.cy.length=0 then[] else[⟨226,x.cy,[]⟩])).length<=x.cy.length+4:=by
  split
  ·simp[dt]
  ·simp[dt];unfold cV;split<;>simp<;>omega
 have k4:(dt ((gp x.bZ).map (λc=>⟨226,c,[]⟩))).length<=x.bZ.length+30:=by
  unfold gp;split
  ·simp[dt]
  ·simp[dt];unfold cV;split<;>simp[fX]<;>omega
 have k5:(dt r).length<=x.core.length:=by have:=bY List.length c4;rw[kN,aT] at this;omega
 simp_all;omega
theorem Z5(w:Nat)(l:qr UInt8)(hl:l.length<=1000000000):Ij w (ag l)=some (ag l):=by
 unfold Ij;rw[cI];by_cases h:l.length=0
 ·have:l=[]:=qF.1 h;subst this;rfl
 ·have e1:Nat.beq l.length 0=false:=by
   rw[Bool.eq_false_iff];intro q;exact h (bX q)
  rw[e1];have hn:=nextslicecap_le (need:=0+l.length) (old:=0) (by omega);have e5:(0+l.length).ble 0=false:=by rw[gF,gJ];omega
  have e6:Nat.blt 0 l.length=true:=by rw[mK,cf];omega
  have r1:aH l.length=true:=by simp;omega
  unfold Pm F4;rw[cI,e6,im,gZ,e5,r1,(show(Builtin.nextslicecap (0+l.length) 0).ble 5000000000=true from by rw[iy];omega)];simp;rw[oy]
theorem X9{w m:Nat}(y:qr UInt8)(hy:y.length<2^26)(W:cX w){x:nv}{aO:qr UInt8}(h:xb x aO)(hx:jI x.aC 9000)(hm:m<2^24)(hc:x.core.length<=m/\x.bZ.length<=m/\x.cy.length<=m)(hw:2*m+800000+y.length<w):
 uo w (ag (eR x aO++y))=some (x.aC.order,ar x.aC.cn,ar x.aC.bD,ar x.aC.bG,ar x.aC.bj,ar x.aC.first,ag x.aC.bC,ag x.aC.cF,ag x.bZ,ag x.core,ag x.cy,if x.cy.length=0 then 0 else((aO.length+10:Nat):Int),((eR x aO).length:Int),0):=by
 have hb:=W.kF;have hA:=W.hand;obtain⟨-,hp1,hp2,hp3,hp4⟩:=zZ h.app h.rows;have hrd:ofM (eR x aO++y)=.ok (jB x aO) (eR x aO).length:=Uc (KM h.core hp2 h.bZ (by rcases h.cy with q|q;omega;exact q.2)) y;obtain⟨r,c1,c2,c3,c4,c5,c6⟩:=DJ h.core;have hrl:r.length<=x.core.length:=by simpa using(EN _ _ _ _ _ _ c1)
 have hmayC:mS (⟨216,[],[]⟩::r)=true:=by show(true&&jC r)=true;rw[c3];rfl
 have hr0:r.length≠0:=by obtain⟨s,hs,_⟩:=c5;intro q;rw[qF.1 q] at hs;cases hs
 have h60:=ZB W h.app hx (by omega);have himl:=Sv (aO:=aO) c2 c4;have hi3:=h.bZ;have htail:=λq=>ac0 (m:=m) hA (aO:=aO) (cs:=gp x.bZ) (r:=r) (core:=x.core) (bZ:=x.bZ) rfl h.bZ (by omega) (by omega) c6 hr0 h.core c4 hmayC (λs hs=>by have:=aaf c4 hmayC s hs;omega) (by omega) (by omega) h60 0 (ae 0 []) (ae 0 []) (ae 0 []) (ae 0 []) (ae 0 []) (ae 0 []) (ae 0 []) (ae 0 []) (ae 0 []) q;have hL:jB x aO=⟨216,[],[]⟩::⟨225,aO,[]⟩::((if x.cy.length=0 then[] else[⟨226,x.cy,[]⟩])++((gp x.bZ).map (λc=>⟨226,c,[]⟩)++r)):=by unfold jB;rw[c2];rfl
 unfold uo yx BH F3;rw[Ih _ (by rw[aT];omega) (by rw[aT];omega),hrd];simp only[aA,(rfl),bH,aD];rw[hL,sE];have hbl:∀(s:bM)(l:qr bM),((s::l).length.ble (s::l).length&&Nat.ble 1 (s::l).length)=true:=by intro s l;rw[gF,gF,eY (aM _),eY (by rw[bW];omega)];rfl
 rw[hbl,aE,Ge,ak9 (s:=⟨225,aO,[]⟩) rfl hp1];simp only[aA,bH,aD];by_cases hmp:x.cy.length=0
 ·rw[ay hmp,ay hmp,eK];have hno:zw 226 (λd=>fC.isPrefixOf d) ((gp x.bZ).map (λc=>(⟨226,c,[]⟩:bM))++r)=false:=by
   unfold gp;split
   ·show zw 226 _ r=false;cases r with
    |nil=>rfl
    |cons s r=>have:=c6 s nY;unfold qd at this;rw[gJ] at this;show(decide (s.cg=226)&&_)=false;rw[fI (by omega)];rfl
   ·rfl
  rw[ak5 hno];have:x.cy=[]:=qF.1 hmp;rw[this];exact htail (ae 0 []) 0 ((eR x aO).length:Int)
 ·rw[aq hmp,aq hmp];obtain⟨m1,m2⟩:=h.cy.resolve_left hmp;rw[show[⟨226,x.cy,[]⟩]++((gp x.bZ).map (λc=>⟨226,c,[]⟩)++r)=(⟨226,x.cy,[]⟩:bM)::((gp x.bZ).map (λc=>⟨226,c,[]⟩)++r) from rfl,ak6 (s:=⟨226,x.cy,[]⟩) rfl m1];simp only[aA,aE];rw[Z5 w _ (by omega)];simp only[aA];rw[cI,cc,cc,bU,aP (n:=(6:Int)+(aO.length:Int)) (by omega) (by omega),aP (by omega) (by omega),show(6:Int)+(aO.length:Int)+4=((aO.length+10:Nat):Int) by omega];exact htail (ag x.cy) ((aO.length+10:Nat):Int) ((eR x aO).length:Int)
theorem akt{w m:Nat}(W:cX w){x:nv}{aO:qr UInt8}(h:xb x aO)(hx:jI x.aC 9000)(hm:m<2^24)(hc:x.core.length<=m/\x.bZ.length<=m/\x.cy.length<=m)(hw:2*m+800000<w):
 uo w (ag (eR x aO))=some (x.aC.order,ar x.aC.cn,ar x.aC.bD,ar x.aC.bG,ar x.aC.bj,ar x.aC.first,ag x.aC.bC,ag x.aC.cF,ag x.bZ,ag x.core,ag x.cy,if x.cy.length=0 then 0 else((aO.length+10:Nat):Int),((eR x aO).length:Int),0):=by
 have:=X9 [] (by decide) W h hx hm hc (by simpa using hw);rwa[ea] at this
def ff(p:cK):qr H1:=[.int .i64 p.attr,.int .i64 p.size,.int .i64 p.at_,.int .i64 p.dO,.int .i64 p.dP]
theorem mU(p:cK):(ff p).length=5:=rfl
def dY(l:qr cK):H1:=aB ff l
theorem Br{w:Nat}(hw:8<=w)(n:Int){o:Int}(ho:o=1\/o=2):iF w n 4 o=some (if 0<=n/\n<4294967296 then(ag (bc n.toNat 4 o),true) else(ae 0 [],false)):=by
 rw[sK hw,ay (by rcases ho with rfl|rfl<;>rfl),show(4:Int).toNat=4 from rfl,MA]
 grind
theorem vU{w:Nat}(hw:8<=w)(n:Int){o:Int}(ho:o=1\/o=2):iF w n 2 o=some (if 0<=n/\n<65536 then(ag (bc n.toNat 2 o),true) else(ae 0 [],false)):=by
 rw[sK hw,ay (by rcases ho with rfl|rfl<;>rfl),show(2:Int).toNat=2 from rfl,show pL n 2 o=if 0<=n/\n<65536 then some (bc n.toNat 2 o) else none from rfl]
 grind
theorem FH(l:qr UInt8)(hl:l.length<=100):(aH l.length&&(l.map aZ).length.beq (l.length*1))=true:=by rw[(show aH l.length=true from by simp;omega),cD,gk,np];rfl
theorem FI(X:qr H1)(l:qr UInt8)(hX:X.length<=100)(hl:l.length<=100):(aH X.length&&(aH l.length&&(l.map aZ).length.beq (l.length*1)))=true:=by rw[(show aH X.length=true from by simp;omega),FH l hl];rfl
theorem G2{w:Nat}(hw:8<=w)(p:cK){o:Int}(ho:o=1\/o=2):Ci w p.attr p.size p.at_ p.dO p.dP o=some (if km p=true then(ag (dV o p),true) else(ae 0 [],false)):=by
 unfold Ci Cn lA;simp only[aA];unfold km;rw[Br hw _ ho];by_cases h1:0<=p.attr/\p.attr<4294967296
 case neg=>rw[aq h1,aq (by simp only[cf];exactλq=>h1 q.1)];rfl
 rw[ay h1];simp only[aA,aD];rw[im,gZ,FH _ (by rw[eI];omega),Br hw _ ho];by_cases h2:0<=p.size/\p.size<4294967296
 case neg=>rw[aq h2,aq (by simp only[cf];exactλq=>h2 q.2.1)];rfl
 rw[ay h2];simp only[aA,aD];rw[im,gZ,FI _ _ (by simp[eI]) (by rw[eI];omega),Br hw _ ho];by_cases h3:0<=p.at_/\p.at_<4294967296
 case neg=>rw[aq h3,aq (by simp only[cf];exactλq=>h3 q.2.2.1)];rfl
 rw[ay h3];simp only[aA,aD];rw[im,gZ,FI _ _ (by simp[eI]) (by rw[eI];omega),vU hw _ ho];by_cases h4:0<=p.dO/\p.dO<65536
 case neg=>rw[aq h4,aq (by simp only[cf];exactλq=>h4 q.2.2.2.1)];rfl
 rw[ay h4];simp only[aA,aD];rw[im,gZ,FI _ _ (by simp[eI]) (by rw[eI];omega),vU hw _ ho];by_cases h5:0<=p.dP/\p.dP<65536
 case neg=>rw[aq h5,aq (by simp only[cf];exactλq=>h5 q.2.2.2.2)];rfl
 rw[ay h5,ay (by rw[cf];exact⟨h1,h2,h3,h4,h5⟩)];simp only[aA,aD];rw[im,gZ,FI _ _ (by simp[eI]) (by rw[eI];omega)]
 congr 2
 rw[oy];unfold dV;simp
theorem ajX{w:Nat}(hw:100<w)(n:Nat)(hn:n<4294967296):G3 w 4 (ae 1 [Value.int IntKind.i64 (n:Int)])=some (4,1,ag (eE n 4),true):=by
 unfold G3 NG;rw[yV,show kindOf 4=(4,4,1) from rfl];simp;have h211:Hi w 4 (ae 1 [Value.int IntKind.i64 (n:Int)]) 4 4 1=some (4,1,true,(eE n 4).map aZ):=by
  unfold Hi;have hl:∀K:Nat->Hx (Int×Int×Bool×qr H1),aw (ae 1 [Value.int IntKind.i64 (n:Int)]) K=K 1:=λ_=>rfl;rw[hl,hl,eB _ _ (by omega),show ak 0 (Int.ofNat 1)=true from rfl,show(0:Int)=((0:Nat):Int) from rfl,bP,(show∀K:qr H1->Hx (Int×Int×Bool×qr H1),aJ 1 0 (ae 1 [Value.int IntKind.i64 (n:Int)]) K=K [Value.int IntKind.i64 (n:Int)] fromλ_=>rfl)];simp only[aX,bu];have h212:Hj w 4 4 1 (n:Int)=some (ag (eE n 4),true):=by unfold Hj NJ;rw[Br (by omega) _ (.inr rfl),ay (by omega)];rfl
  rw[h212];simp only[aA];rw[im,gZ,gk,pj,aE,eB _ _ (by omega),show ah IntKind.i64 (Int.add ((0:Nat):Int) 1)=1 from rfl,show ak 1 (Int.ofNat 1)=false from rfl,aD,eK,cD,kB,<-oy];rfl
 rw[h211];simp;rw[oy]
def VS(view:qr aL):Prop:=view.length<=9000/\∀t∈view,t.data.length<=9000
theorem Zj{w:Nat}(W:cX w){o:Int}(ho:o=1\/o=2){view:qr aL}(hv:VS view)(hr:db 5 view=true)(h0:view.length≠0):o8 w 10000 kT o (gC o view).dJ:=by
 have hl:=hv.1;refine PN W Jl (X3 (by have:=W.kF;omega)) (by decide) (λs hs=>?_) ho (by simp[gC]) (by simp[gC]) (λd hd'=>?_) (by simp[gC,kV,gq,jZ]) (by simp[gC,ig,dI,iA]) (PX hr h0 (by omega))
 ·have:s=0:=by simp[kT] at hs;omega
  rw[this];decide
 ·simp[gC] at hd';subst hd';exact⟨by omega,by show 0<=_;omega,by show 0<=_;omega,λt ht=>by have:=hv.2 t ht;omega,trivial⟩
theorem alm{w:Nat}(W:cX w)(o:Int){view:qr aL}(hv:VS view):Iq w o (ar view)=some (match rE o view with| .ok b=>(ag b,0)| .error e=>(ae 0 [],e)):=by
 have hb:=W.kF;have hl:=hv.1;have hlen:∀K:Nat->Hx (H1×Int),aw (ar view) K=K view.length:=λK=>cd cC view K;unfold Iq rE NC;by_cases ho:o=1\/o=2
 case neg=>rw[ay (.inl ho)];rw[(show aj o 1=false from by rw[cj,gJ];exactλq=>ho (.inl q)),(show aj o 2=false from by rw[cj,gJ];exactλq=>ho (.inr q))];rfl
 have hrest:(aw (ar view) λ(x2:Nat)=>bif aj (Int.ofNat x2) 0 then some (ae 0 [],1) else ob (nU w 5 (ar view)) λ(x3:Bool)=>bif !x3 then some (ae 0 [],6) else ob (yP w) λx4=>ob (wi w o (ae 1 (List.drop 0 [ar view,ae 0 [],ae 0 []])) x4) λx5=>some (x5.fst,x5.snd))=some (match(if¬(o=1\/o=2)\/view.length=0 then .error 1 else if db 5 view=false then .error 6 else if 65533<4+gX (gC o view) then .error 7 else .ok (fC++eC (gC o view) kT):Except Int (qr UInt8)) with| .ok b=>(ag b,0)| .error e=>(ae 0 [],e)):=by
  rw[hlen];by_cases h0:view.length=0
  ·rw[ay (.inr h0),h0];rfl
  have e1:aj (Int.ofNat view.length) 0=false:=by rw[cj,gJ,bU];omega
  rw[aq (by intro q;rcases q with q|q;exact q ho;exact h0 q),e1,ri (by omega) 5 view (by omega) (λt ht=>by have:=hv.2 t ht;omega) (by omega)]
  cases hr:db 5 view with
  |false=>rfl
  |true=>
   have T:=Zj W ho hv hr h0;have e2:yP w=some (cu kT):=rfl;rw[e2];simp only[aA,aD];have e3:ae 1 (List.drop 0 [ar view,ae 0 [],ae 0 []])=dc (gC o view).dJ:=by show _=ae 1 (dw (.mk view .nil [])++[]);rfl
   rw[e3,(XT T),show(⟨o,(gC o view).dJ⟩:mH)=gC o view from rfl];by_cases h7:65533<4+gX (gC o view)
   ·rw[ay h7,ay h7];rfl
   ·rw[aq h7,aq h7];rfl
 rcases ho with rfl|rfl<;>simp_all
structure aS where
 aC:dF
 bZ:List UInt8
 core:List UInt8
 attr:Int
 dO:Int
 dP:Int
 view:List aL
def cN(p:aS):qr H1:=[.int .i64 p.aC.order,ar p.aC.cn,ar p.aC.bD,ar p.aC.bG,ar p.aC.bj,ar p.aC.first,ag p.aC.bC,ag p.aC.cF,ag p.bZ,ag p.core,.int .i64 p.attr,.int .i64 p.dO,.int .i64 p.dP,ar p.view]
theorem iV(p:aS):(cN p).length=14:=rfl
def cx(l:qr aS):H1:=aB cN l
theorem lf(p:aS)(r:qr H1):cN p++r=.int .i64 p.aC.order::ar p.aC.cn::ar p.aC.bD::ar p.aC.bG::ar p.aC.bj::ar p.aC.first::ag p.aC.bC::ag p.aC.cF::ag p.bZ::ag p.core::.int .i64 p.attr::.int .i64 p.dO::.int .i64 p.dP::ar p.view::r:=rfl
def TS(l:qr aL):Prop:=l.length<=60/\∀t∈l,t.data.length<=600
structure eD(p:aS):Prop where
 t0:TS p.aC.cn
 t2:TS p.aC.bD
 t3:TS p.aC.bG
 t4:TS p.aC.bj
 t1:TS p.aC.first
 tv:TS p.view
 TN:p.aC.bC.length<=2000
 th:p.aC.cF.length<=2000
 ic:p.bZ.length<=2000
 co:p.core.length<=2000
theorem eD.tG{p:aS}(h:eD p):jI p.aC 9000:=by obtain⟨⟨a0,b0⟩,⟨a2,b2⟩,⟨a3,b3⟩,⟨a4,b4⟩,⟨a1,b1⟩,-,m1,m2,-,-⟩:=h;exact⟨⟨by omega,by omega,by omega,by omega,by omega⟩,λt ht=>by have:=b0 t ht;omega,λt ht=>by have:=b2 t ht;omega,λt ht=>by have:=b3 t ht;omega,λt ht=>by have:=b4 t ht;omega,λt ht=>by have:=b1 t ht;omega,by omega,by omega⟩
theorem eD.vs{p:aS}(h:eD p):VS p.view:=⟨by have:=h.tv.1;omega,λt ht=>by have:=h.tv.2 t ht;omega⟩
def jL(p:aS):Bool:=match iS p.aC with| .ok _=>false| .error _=>true
def Ad(_:aS):Bool:=false
def nC(p:aS):Bool:=!nE p.core
def ou(p:aS):Bool:=!decide ((0<=p.attr/\p.attr<4294967296)/\(0<=p.dO/\p.dO<65536)/\(0<=p.dP/\p.dP<65536))
def mJ(p:aS):Bool:=!db 5 p.view
theorem Qw{x:dF}{e:Int}(h:iS x=.error e):e≠0:=by
 unfold iS at h
 grind
theorem ajy{w:Nat}(W:cX w){p:aS}(h:eD p)(a b c:Int)(v x y:H1):GQ w p.aC.order (ar p.aC.cn) (ar p.aC.bD) (ar p.aC.bG) (ar p.aC.bj) (ar p.aC.first) (ag p.aC.bC) (ag p.aC.cF) x y a b c v=some (jL p):=by
 unfold GQ jL;rw[O7 W h.tG];cases he:iS p.aC with
 |ok b=>rfl
 |error e=>have:=Qw he;simp_all
theorem ajz{w:Nat}(W:cX w){p:aS}(h:eD p)(o a b c:Int)(v x1 x2 x3 x4 x5 x6 x7 y:H1):GR w o x1 x2 x3 x4 x5 x6 x7 (ag p.bZ) y a b c v=some (Ad p):=by
 have hi:=h.ic;unfold GR Ad;rw[cI,bU,Yt w _ (by omega)];simp only[aA,aU];have:xv p.bZ.length<=1:=by unfold xv;omega
 rw[fI (by omega)]
theorem ajD{w:Nat}(W:cX w){p:aS}(h:eD p)(o a b c:Int)(v x1 x2 x3 x4 x5 x6 x7 x8:H1):GS w o x1 x2 x3 x4 x5 x6 x7 x8 (ag p.core) a b c v=some (nC p):=by have hb:=W.kF;have hi:=h.co;unfold GS nC;rw[Ph _ (by omega) (by omega)];rfl
theorem ajE{w:Nat}(W:cX w)(p:aS)(o:Int)(v x1 x2 x3 x4 x5 x6 x7 x8 x9:H1):GU w o x1 x2 x3 x4 x5 x6 x7 x8 x9 p.attr p.dO p.dP v=some (ou p):=by
 have hb:=W.kF;unfold GU ou;rw[Br (by omega) _ (.inr rfl),vU (by omega) _ (.inr rfl),vU (by omega) _ (.inr rfl)];by_cases h1:0<=p.attr/\p.attr<4294967296
 ·by_cases h2:0<=p.dO/\p.dO<65536
  ·by_cases h3:0<=p.dP/\p.dP<65536
   ·simp_all
   ·simp[h3]
  ·simp[h2]
 ·simp[h1]
theorem ajF{w:Nat}(W:cX w){p:aS}(h:eD p)(o a b c:Int)(x1 x2 x3 x4 x5 x6 x7 x8 x9:H1):GW w o x1 x2 x3 x4 x5 x6 x7 x8 x9 a b c (ar p.view)=some (mJ p):=by have hb:=W.kF;obtain⟨a1,b1⟩:=h.tv;unfold GW mJ;rw[ri (by omega) 5 p.view (by omega) (λt ht=>by have:=b1 t ht;omega) (by omega)];rfl
theorem aj8{w:Nat}(W:cX w){l:qr aS}(h:∀p∈l,eD p)(hl:l.length<=2000):Ov w (cx l)=some (dD jL l):=by
 have hb:=W.kF;refine mQ l jL (ev:=λi (g:H1->Int->Int->Hx Int)=>g (aB cN l) l.length i) ?_ ?_ (by omega)
 ·intro i g hi;simp_all;rw[bn iV hi,lf];simp;rw[ajy W (h _ (cA hi)),aP (by omega) (by omega)];simp
 simp
theorem aj9{w:Nat}(W:cX w){l:qr aS}(h:∀p∈l,eD p)(hl:l.length<=2000):Ow w (cx l)=some (dD Ad l):=by
 have hb:=W.kF;refine mQ l Ad (ev:=λi (g:H1->Int->Int->Hx Int)=>g (aB cN l) l.length i) ?_ ?_ (by omega)
 ·intro i g hi;simp_all;rw[bn iV hi,lf];simp;rw[ajz W (h _ (cA hi)),aP (by omega) (by omega)];simp
 simp
theorem aka{w:Nat}(W:cX w){l:qr aS}(h:∀p∈l,eD p)(hl:l.length<=2000):Ox w (cx l)=some (dD nC l):=by
 have hb:=W.kF;refine mQ l nC (ev:=λi (g:H1->Int->Int->Hx Int)=>g (aB cN l) l.length i) ?_ ?_ (by omega)
 ·intro i g hi;simp_all;rw[bn iV hi,lf];simp;rw[ajD W (h _ (cA hi)),aP (by omega) (by omega)];simp
 simp
theorem akb{w:Nat}(W:cX w){l:qr aS}(h:∀p∈l,eD p)(hl:l.length<=2000):Oy w (cx l)=some (dD ou l):=by
 have hb:=W.kF;refine mQ l ou (ev:=λi (g:H1->Int->Int->Hx Int)=>g (aB cN l) l.length i) ?_ ?_ (by omega)
 ·intro i g hi;simp_all;rw[bn iV hi,lf];simp;rw[ajE W,aP (by omega) (by omega)];simp
 simp
theorem akc{w:Nat}(W:cX w){l:qr aS}(h:∀p∈l,eD p)(hl:l.length<=2000):Oz w (cx l)=some (dD mJ l):=by
 have hb:=W.kF;refine mQ l mJ (ev:=λi (g:H1->Int->Int->Hx Int)=>g (aB cN l) l.length i) ?_ ?_ (by omega)
 ·intro i g hi;simp_all;rw[bn iV hi,lf];simp;rw[ajF W (h _ (cA hi)),aP (by omega) (by omega)];simp
 simp
theorem zf{w:Nat}(l:qr aL)(hl:l.length<2^40)(hw:l.length<w):sR w (ar l) (ar l)=some true:=by
 have hlr:∀(K:Nat->Hx Bool),aw (ar l) K=K l.length:=λK=>cd cC l K;have tg:∀(y:aL)(r:qr H1),cC y++r=Value.int .i64 y.tag::.int .i64 y.ty::.int .i64 y.az::ag y.data::r:=λ_ _=>rfl;unfold sR;rw[hlr,hlr,show aj (Int.ofNat l.length) (Int.ofNat l.length)=true by rw[cj,cf],bH,aD,hlr];refine gO (ev:=λi (g:H1->H1->Int->Int->Hx Bool)=>g (ar l) (ar l) l.length i) l.length ?_ ?_ hw
 ·intro i g hi;have e1:((i:Int)<(l.length:Int)):=by omega
  simp only[aU,e1,aY,aE,bP];rw[show ar l=aB cC l from rfl,bn gW hi,tg];simp only[aX,bu];rw[bn gW hi,tg];simp only[aX,bu];unfold Pu Ie;rw[ze];simp only[cj,aY,aE,aA,bH,aD,cc];rw[aP (by omega) (by omega)];rfl
 ·intro g;have e1:¬((l.length:Int)<(l.length:Int)):=by omega
  simp only[aU,e1,bL,aD]
theorem ak3{w:Nat}{x:dF}(h:jI x 9000)(hw:10000<w):Ig w x.order (ar x.cn) (ar x.bD) (ar x.bG) (ar x.bj) (ar x.first) (ag x.bC) (ag x.cF) x.order (ar x.cn) (ar x.bD) (ar x.bG) (ar x.bj) (ar x.first) (ag x.bC) (ag x.cF)=some true:=by obtain⟨⟨r0,r2,r3,r4,r1⟩,-⟩:=h;unfold Ig zm;simp only[aA];rw[zf _ (by omega) (by omega)];simp only[aA,bH,aD];rw[zf _ (by omega) (by omega)];simp only[aA,bH,aD];rw[zf _ (by omega) (by omega)];simp only[aA,bH,aD];rw[zf _ (by omega) (by omega)];simp only[aA,bH,aD];rw[zf _ (by omega) (by omega)];simp only[aA,bH,aD];rw[ze,ze];simp only[cj,aY,aE,aA]
end Lt
end Go.Proofs.YtcfjfbeadhnknaaGreatDoor

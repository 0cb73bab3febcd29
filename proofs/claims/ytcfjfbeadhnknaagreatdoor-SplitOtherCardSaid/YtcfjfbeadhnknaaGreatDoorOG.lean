import Derived.Test.YtcfjfbeadhnknaaGreatDoorOF
namespace Go.Proofs.YtcfjfbeadhnknaaGreatDoor
set_option linter.unusedVariables false
set_option linter.unusedSimpArgs false
set_option linter.unusedSectionVars false
set_option linter.constructorNameAsVariable false
set_option maxRecDepth 100000
namespace Lt
def cV(l:H1 UInt8):H1 Qu:=[ah l]
structure Hand(w:Nat):Prop where
 may:∀o ds,ds.length<1000000000->(∀d∈ds,∃(sh:List bg)(s:Nat),cM sh s d=true)->kV ds<=w->wC w o (db ds)=some true
 set:∀(l:List aN)(x:aN),fP l=true->l.length<2^20->l.length+2<w->(∀t∈l,t.data.length<=1000000000)->x.data.length<=1000000000->Cu w (au l) x.tag x.ty x.az (ah x.data)=some (au (ku l x))
 drop:∀(l:List aN)(t:Int),fP l=true->l.length<2^20->l.length+2<w->(∀t∈l,t.data.length<=1000000000)->zc w (au l) t=some (au (pD l t))
 cut:∀b:List UInt8,b.length<=65519->CG w (ah b)=some (aA cV (gD b),0)
 cat:∀a b c d:List UInt8,0<a.length->a.length+b.length+c.length+d.length<2^29->uk w (ah a) (ah b) (ah c) (d.map bh)=some ((d++(a++(b++c))).map bh)
theorem rZ(w:Nat)(l:H1 UInt8)(hl:l.length<=1000000000):om w (ah l)=some (ah l):=by
 unfold om;by_cases h:l.length=0
 ·have e:Nat.beq l.length 0=true:=by rw[h];rfl
  rw[mV h];rfl
 ·have e:Nat.beq l.length 0=false:=by simp[h]
  unfold Ow F8;rw[iL,iR];have e1:Nat.blt 0 l.length=true:=by simp;omega
  have hn:=nextslicecap_le (need:=0+l.length) (old:=0) (by omega);have e4:(Builtin.nextslicecap (0+l.length) 0).ble 5000000000=true:=by rw[iq];omega
  simp_all;rw[vc _ _ rfl]
theorem aaB(w:Nat)(l:H1 aN)(h:l.length≠0)(hl:l.length<=1000000000):Hq w (au l)=some (l.flatMap cC):=by
 unfold Hq au;rw[vw ig];have hn:=nextslicecap_le (need:=0+l.length) (old:=0) (by omega);have e4:(Builtin.nextslicecap (0+l.length) 0).ble 5000000000=true:=by rw[iq];omega
 have e5:(l.flatMap cC).length.beq (l.length*4)=true:=by rw[cy ig];exact nv _
 simp_all
theorem sH{w:Nat}(l:H1 aN)(hl:l.length<=100000000)(hd:∀t∈l,t.data.length<=1000000000)(hw:l.length<w):mE w (au l)=some (au l):=by
 unfold mE;rw[(show∀K:Nat->Zh Qu,ar (au l) K=K l.length fromλK=>bU cC l K)];by_cases h:l.length=0
 ·have e:Nat.beq l.length 0=true:=by rw[h];rfl
  rw[mV h];rfl
 have e:Nat.beq l.length 0=false:=by simp[h]
 rw[e];unfold OI;rw[aaB w l h (by omega)];have hfl:=cy ig l;simp only[aB,hfl,ir _ (show 0<4 by decide)];refine gV (ev:=λi (g:Int->Int->H1 Qu->Zh Qu)=>g (l.length:Int) i (l.flatMap cC)) l.length ?_ ?_ hw
 ·intro i g hi;have e1:((i:Int)<(l.length:Int)):=by omega
  have e2:i*4<(l.flatMap cC).length:=by omega
  have e3:0+i*4+1+2+1<=(l.flatMap cC).length:=by omega
  have hdr:(l.flatMap cC).drop (0+i*4+1+2)=ah l[i].data::(l.drop (i+1)).flatMap cC:=by rw[show 0+i*4+1+2=i*4+3 by omega,<-List.drop_drop,mT ig,cW hi];rfl
  simp only[aU,e1,bd,aC,bH,mQ,e2,gA,e3];rw[hdr];simp only[bc];rw[rZ w _ (hd _ (cx hi))];simp only[aB,aC,Fw,cf];rw[aQ (by omega) (by omega)];have hset:(l.flatMap cC).set (0+i*4+1+2) (ah l[i].data)=l.flatMap cC:=by
   have hg:(l.flatMap cC)[0+i*4+1+2]'(by omega)=ah l[i].data:=by have:=cW (l:=l.flatMap cC) (i:=0+i*4+1+2) (by omega);rw[hdr] at this;exact(List.cons.inj this).1.symm
   rw[<-hg];exact List.set_getElem_self _
  rw[hset];rfl
 ·intro g;simp only[aU,(show¬((l.length:Int)<(l.length:Int)) from by omega),bM,aD];unfold au aA;rw[hfl,ir _ (show 0<4 by decide)]
theorem max_eq{w:Nat}(a:Int)(l:H1 Int)(hl:l.length<2^40)(hw:l.length+1<w):Hr w (aA cF (a::l))=some (l.foldl (λm x=>if m<x then x else m) a):=by
 unfold Hr;simp only[aU,bO];refine nQ (ev:=λi s (g:Qu->Int->Int->Zh Int)=>g (aA cF (a::l)) s ((i+1:Nat):Int)) (Inv:=λi s=>(l.drop i).foldl (λm x=>if m<x then x else m) s=l.foldl (λm x=>if m<x then x else m) a) l.length a (by rfl) ?_ ?_ (by omega)
 ·rintro i g s hi h1
  rw[cW hi] at h1;refine⟨_,h1,?_⟩;simp only[(show∀K:Nat->Zh Int,ar (aA cF (a::l)) K=K (l.length+1) fromλK=>bU cF (a::l) K),(show(((i+1:Nat):Int)<((l.length+1:Nat):Int)) from by omega),bH];rw[bu mg (show i+1<(a::l).length by simp;omega)];simp;rw[aQ (by omega) (by omega)];rfl
 simp
theorem Sb:∀(l:H1 Int)(a:Int),0<l.foldl (λm x=>if m<x then x else m) a↔(0<a\/∃x∈l,0<x)
 |[],a=>by simp
 |b::l,a=>by
  rw[List.foldl_cons,Sb l];by_cases h:a<b
  ·rw[ay h];constructor
   ·simp_all
   grind
  grind
theorem PC{w:Nat}(hw:20<=w)(a:Int)(l:H1 Int)(hl:l.length<10):yT w (aA cF (a::l))=some (decide (0<a\/∃x∈l,0<x)):=by
 unfold yT;rw[max_eq a l (by omega) (by omega)];simp only[aB,aU]
 congr 1
 rw[iD,cm,cm];exact Sb l a
structure jR(x:dJ)(m:Nat):Prop where
 rows:rl x m
 d0:∀t∈x.cu,t.data.length<=m
 d2:∀t∈x.bG,t.data.length<=m
 d3:∀t∈x.bN,t.data.length<=m
 d4:∀t∈x.bm,t.data.length<=m
 d1:∀t∈x.first,t.data.length<=m
 T5:x.bF.length<=m
 th:x.cP.length<=m
theorem Yq{w m:Nat}{x:dJ}(h:jR x m)(hm:m<2^26)(hw:m+20<w):
 Cs w x.order (au x.cu) (au x.bG) (au x.bN) (au x.bm) (au x.first) (ah x.bF) (ah x.cP)=some (iS x):=by
 obtain⟨⟨r0,r2,r3,r4,r1⟩,d0,d2,d3,d4,d1,hmk,hth⟩:=h;have q0:=ru (w:=w) (by omega) 0 x.cu (by omega) (λt ht=>by have:=d0 t ht;omega) (by omega);have q2:=ru (w:=w) (by omega) 2 x.bG (by omega) (λt ht=>by have:=d2 t ht;omega) (by omega);have q3:=ru (w:=w) (by omega) 3 x.bN (by omega) (λt ht=>by have:=d3 t ht;omega) (by omega);have q4:=ru (w:=w) (by omega) 4 x.bm (by omega) (λt ht=>by have:=d4 t ht;omega) (by omega);have q1:=ru (w:=w) (by omega) 1 x.first (by omega) (λt ht=>by have:=d1 t ht;omega) (by omega);have hlr:∀(l:H1 aN)(K:Nat->Zh Int),ar (au l) K=K l.length:=λl K=>bU cC l K;have hs:=PC (w:=w) (by omega) (x.cu.length:Int) [(x.bG.length:Int),(x.bN.length:Int),(x.bm.length:Int),(x.bF.length:Int)] (by simp);have e:aA cF [(x.cu.length:Int),(x.bG.length:Int),(x.bN.length:Int),(x.bm.length:Int),(x.bF.length:Int)]=ae 5 (List.drop 0 [Value.int IntKind.i64 (Int.ofNat x.cu.length),Value.int IntKind.i64 (Int.ofNat x.bG.length),Value.int IntKind.i64 (Int.ofNat x.bN.length),Value.int IntKind.i64 (Int.ofNat x.bm.length),Value.int IntKind.i64 (Int.ofNat x.bF.length)]):=rfl;rw[e] at hs;have hany:(decide ((0:Int)<(x.cu.length:Int)\/∃y∈[(x.bG.length:Int),(x.bN.length:Int),(x.bm.length:Int),(x.bF.length:Int)],0<y))=!decide (x.cu.length=0/\x.bG.length=0/\x.bN.length=0/\x.bm.length=0/\x.bF.length=0):=by rw[iD,cm,uI,gQ];simp only[cX,nu,nA,exists_eq_or_imp,exists_eq_left];omega
 rw[hany] at hs;simp only[bO] at hs;have h95:Py w x.order (au x.cu) (au x.bG) (au x.bN) (au x.bm) (au x.first) (ah x.bF) (ah x.cP)=some (0,au x.cu,2,au x.bG,3,au x.bN,4,au x.bm,1,au x.first):=rfl;unfold Cs iS NC;simp only[h95,aB,q0,q2,q3,q4,q1,hlr,cN,hs,bY,aU,bO];have fin:(bif !da 0 x.cu then some (6:Int) else bif !da 2 x.bG then some 6 else bif !da 3 x.bN then some 6 else bif !da 4 x.bm then some 6 else bif !da 1 x.first then some 6 else bif decide ((65536:Int)<(x.bF.length:Int)) then some 6 else bif !(!decide (x.cu.length=0/\x.bG.length=0/\x.bN.length=0/\x.bm.length=0/\x.bF.length=0)) then some 6 else some 0)=
  some (if(da 0 x.cu&&(da 2 x.bG&&(da 3 x.bN&&(da 4 x.bm&&da 1 x.first))))=false then 6 else if 65536<x.bF.length\/(x.cu.length=0/\x.bG.length=0/\x.bN.length=0/\x.bm.length=0/\x.bF.length=0) then 6 else 0):=by
  cases da 0 x.cu<;>cases da 2 x.bG<;>cases da 3 x.bN<;>cases da 4 x.bm<;>cases da 1 x.first<;>try rfl
  simp_all;by_cases c1:65536<x.bF.length
  ·rw[ay (by omega),ay (.inl c1)]
  ·rw[aq (by omega)];by_cases c2:(x.cu.length=0/\x.bG.length=0/\x.bN.length=0/\x.bm.length=0/\x.bF.length=0)<;>grind
 by_cases o1:x.order=1
 ·have:¬¬(x.order=1\/x.order=2):=by omega
  rw[aq this];simp only[o1,bd,bW,aD,hs,aB];exact fin
 ·by_cases o2:x.order=2
  ·have:¬¬(x.order=1\/x.order=2):=by omega
   rw[aq this];simp only[o2,show decide ((2:Int)=1)=false from rfl,fH,aC,bd,bW,aD,hs,aB];exact fin
  ·have:¬(x.order=1\/x.order=2):=by omega
   rw[ay this];simp only[o1,o2,bM,fH,aC]
theorem adE(w:Nat)(b:H1 UInt8)(hb:b.length<=1000000000):Hs w (ah b)=some ((jL b).tag,(jL b).ty,(jL b).az,ah (jL b).data):=by unfold Hs;rw[rZ w b hb];rfl
theorem aku{w m:Nat}(A:Hand w){x:dJ}(h:jR x m)(hm:m<=70000)(hw:m+20<w)(hp:fP x.bG=true)(a b c d:Qu)(o:Int):
 He w o a (au x.bG) b (au x.bm) c (ah x.bF) d=some (dT (jQ x),dS (jQ x),dB (jQ x)):=by
 obtain⟨⟨r0,r2,r3,r4,r1⟩,d0,d2,d3,d4,d1,hmk,hth⟩:=h;have q4:=sH (w:=w) x.bm (by omega) (λt ht=>by have:=d4 t ht;omega) (by omega);have hs:=A.set x.bG (jL x.bF) hp (by omega) (by omega) (λt ht=>by have:=d2 t ht;omega) (by show x.bF.length<=_;omega);have hlr:∀(l:H1 aN)(K:Nat->Zh (Qu×Qu×Qu)),ar (au l) K=K l.length:=λl K=>bU cC l K;unfold He NK;rw[(sH (w:=w) x.bG (by omega) (λt ht=>by have:=d2 t ht;omega) (by omega))];simp only[cN,hlr,aU,bO];unfold jQ;by_cases a1:x.bF.length=0
 ·have e1:¬((0:Int)<(x.bF.length:Int)):=by omega
  simp only[e1,aD,ay a1];by_cases a2:x.bm.length=0
  ·have e2:¬((0:Int)<(x.bm.length:Int)):=by omega
   simp only[e2,aD,ay a2];rfl
  ·have e2:((0:Int)<(x.bm.length:Int)):=by omega
   simp only[e2,aC,aq a2,q4,aB];rfl
 ·have e1:((0:Int)<(x.bF.length:Int)):=by omega
  simp only[e1,aC,aq a1];rw[adE w _ (by omega)];simp only[aB];rw[hs];by_cases a2:x.bm.length=0
  ·have e2:¬((0:Int)<(x.bm.length:Int)):=by omega
   simp only[e2,aD,ay a2];rfl
  ·have e2:((0:Int)<(x.bm.length:Int)):=by omega
   simp only[e2,aC,aq a2,q4,aB];rfl
theorem alI{w:Nat}(hw:10<=w):pQ w (ae 0 [])=some ():=by obtain⟨v,rfl⟩:=wY hw;rfl
theorem alJ{w:Nat}(hw:10<=w)(t:Int)(a b c:Qu):pQ w (ae 1 [.int .i64 t,a,b,c])=some ():=by obtain⟨v,rfl⟩:=wY hw;rfl
theorem alK{w:Nat}(hw:10<=w)(a b c d e f:Qu):pQ w (ae 2 [.int .i64 34665,a,b,c,.int .i64 34853,d,e,f])=some ():=by obtain⟨v,rfl⟩:=wY hw;rfl
set_option maxHeartbeats 1000000 in
theorem Ye{w m:Nat}(A:Hand w){x:dJ}(h:jR x m)(hm:m<=70000)(hw:m+20<w):
 Cj w x.order (au x.cu) (au x.bG) (au x.bN) (au x.bm) (au x.first) (ah x.bF) (ah x.cP)=some (if iS x=0 then(x.order,db (fg x).dO,0) else(0,ae 0 [],iS x)):=by
 unfold Cj BM qD qE qF;rw[Yq h (by omega) hw];simp only[aB,bY];by_cases hc:iS x=0
 case neg=>rw[aq hc];simp only[hc,bM,fH,aC]
 rw[ay hc];simp only[hc,bd,bW,aD];have hp:=(yr (tF hc).2.2.1).1;have q196:=λa b c d o=>aku A h hm hw hp a b c d o;obtain⟨⟨r0,r2,r3,r4,r1⟩,d0,d2,d3,d4,d1,hmk,hth⟩:=h;have q0:=sH (w:=w) x.cu (by omega) (λt ht=>by have:=d0 t ht;omega) (by omega);have q3:=sH (w:=w) x.bN (by omega) (λt ht=>by have:=d3 t ht;omega) (by omega);have q1:=sH (w:=w) x.first (by omega) (λt ht=>by have:=d1 t ht;omega) (by omega);have qt:=rZ w x.cP (by omega);have hlr:∀(l:H1 aN)(K:Nat->Zh (Int×Qu×Int)),ar (au l) K=K l.length:=λl K=>bU cC l K;have s3:=PC (w:=w) (by omega) (x.bG.length:Int) [(x.bm.length:Int),(x.bF.length:Int)] (by simp);have e3:aA cF [(x.bG.length:Int),(x.bm.length:Int),(x.bF.length:Int)]=ae 3 (List.drop 0 [Value.int IntKind.i64 (Int.ofNat x.bG.length),Value.int IntKind.i64 (Int.ofNat x.bm.length),Value.int IntKind.i64 (Int.ofNat x.bF.length)]):=rfl;have a3:(decide ((0:Int)<(x.bG.length:Int)\/∃y∈[(x.bm.length:Int),(x.bF.length:Int)],0<y))=!decide (x.bG.length=0/\x.bm.length=0/\x.bF.length=0):=by rw[iD,cm,uI,gQ];simp only[cX,nu,nA,exists_eq_or_imp,exists_eq_left];omega
 rw[e3,a3] at s3;have s2:=PC (w:=w) (by omega) (x.first.length:Int) [(x.cP.length:Int)] (by simp);have e2:aA cF [(x.first.length:Int),(x.cP.length:Int)]=ae 2 (List.drop 0 [Value.int IntKind.i64 (Int.ofNat x.first.length),Value.int IntKind.i64 (Int.ofNat x.cP.length)]):=rfl;have a2:(decide ((0:Int)<(x.first.length:Int)\/∃y∈[(x.cP.length:Int)],0<y))=!decide (x.first.length=0/\x.cP.length=0):=by rw[iD,cm,uI,gQ];simp only[cX,nu,nA,exists_eq_left];omega
 rw[e2,a2] at s2;have n0:=alI (w:=w) (by omega);have n1:=λt a b c=>alJ (w:=w) (by omega) t a b c;have n2:=λa b c d e f=>alK (w:=w) (by omega) a b c d e f;simp only[er,bO] at s2 s3;simp only[q0,q3,q1,qt,q196,aB,hlr,cN,s3,s2,er,ox,qa,eD,fy,cc,List.length_nil,Nat.reduceAdd,Nat.reduceDiv,n0,n1,n2,aU,bO];unfold fg jO nN;by_cases c1:x.bG.length=0/\x.bm.length=0/\x.bF.length=0
 ·rw[dZ c1];by_cases c2:x.bN.length=0
  ·have f2:¬((0:Int)<(x.bN.length:Int)):=by omega
   by_cases c3:x.first.length=0/\x.cP.length=0
   ·rw[dZ c3];simp only[f2,bM,bW,aD,ay c1,ay c2,ay c3];rfl
   ·rw[eB c3];simp only[f2,bM,bW,fH,aC,aD,ay c1,ay c2,aq c3];rfl
  ·have f2:((0:Int)<(x.bN.length:Int)):=by omega
   by_cases c3:x.first.length=0/\x.cP.length=0
   ·rw[dZ c3];simp only[f2,bd,bW,aC,aD,ay c1,aq c2,ay c3];rfl
   ·rw[eB c3];simp only[f2,bd,bW,fH,aC,aD,ay c1,aq c2,aq c3];rfl
 ·rw[eB c1];have tk:∀r:cK,gO (.cons 34665 (jQ x) r)=.int .i64 34665::dT (jQ x)::dS (jQ x)::dB (jQ x)::gO r:=by
   intro r;show Value.int .i64 34665::(dr (jQ x)++gO r)=_;rw[ql];rfl
  have td:∀(t:H1 aN)(r:cK)(b:H1 UInt8),dr (.mk t r b)=[au t,ae (cj r) (gO r),ah b]:=λ_ _ _=>rfl;by_cases c2:x.bN.length=0
  ·have f2:¬((0:Int)<(x.bN.length:Int)):=by omega
   by_cases c3:x.first.length=0/\x.cP.length=0
   ·rw[dZ c3];simp only[f2,bM,bW,fH,aC,aD,aq c1,ay c2,ay c3];unfold db aA;simp only[dG,lH,td,tk];rfl
   ·rw[eB c3];simp only[f2,bM,bW,fH,aC,aD,aq c1,ay c2,aq c3];unfold db aA;simp only[dG,lH,td,tk];rfl
  ·have f2:((0:Int)<(x.bN.length:Int)):=by omega
   by_cases c3:x.first.length=0/\x.cP.length=0
   ·rw[dZ c3];simp only[f2,bd,bW,fH,aC,aD,aq c1,aq c2,ay c3];unfold db aA;simp only[dG,lH,td,tk];rfl
   ·rw[eB c3];simp only[f2,bd,bW,fH,aC,aD,aq c1,aq c2,aq c3];unfold db aA;simp only[dG,lH,td,tk];rfl
noncomputable section
def Gt(w:Nat):Qu->Int->Int->Zh (Qu×Bool):=λa b c=>ar a λd=>lp (α:=Qu->Int->Int->Int->Qu->Int->Int->H1 Qu->Zh (Qu×Bool)) (λ_ _ _ _ _ _ _ _=>none) (λm n o p q r s t u=>bif ak t s then aE t λv=>aJ 5 v r λy=>af y λz a0=>aw .i64 z λa1=>af a0 λa2 a3=>aw .i64 a2 λa4=>af a3 λa5 a6=>aw .i64 a5 λa7=>af a6 λa8 a9=>aw .i64 a8 λb0=>af a9 λb1 b2=>aw .i64 b1 λb3=>bif ak 0 t then bif !aj (ag .i64 (a7.add o)) q then some (ae 0 [],false) else bif ak a4 1 then some (ae 0 [],false) else bif ak (ag .i64 (p.sub q)) a4 then some (ae 0 [],false) else bif aF u.length&&(aF ([Value.int .i64 (ag .i64 (a7.add o))].length/1)&&[Value.int .i64 (ag .i64 (a7.add o))].length.beq ([Value.int .i64 (ag .i64 (a7.add o))].length/1*1)) then m n o p (ag .i64 (q.add a4)) r s (ag .i64 (t.add 1)) (u++[Value.int .i64 (ag .i64 (a7.add o))]) else none else bif !aj a7 q then some (ae 0 [],false) else bif ak a4 1 then some (ae 0 [],false) else bif ak (ag .i64 (p.sub q)) a4 then some (ae 0 [],false) else bif aF u.length&&(aF ([Value.int .i64 a7].length/1)&&[Value.int .i64 a7].length.beq ([Value.int .i64 a7].length/1*1)) then m n o p (ag .i64 (q.add a4)) r s (ag .i64 (t.add 1)) (u++[Value.int .i64 a7]) else none else ar n λb4=>bif aj (Int.ofNat b4) 0 then some (ae 0 [],false) else bif !aj q p then some (ae 0 [],false) else bif aF u.length&&(aF ([Value.int .i64 q].length/1)&&[Value.int .i64 q].length.beq ([Value.int .i64 q].length/1*1)) then some (ae ((u++[Value.int .i64 q]).length/1) (u++[Value.int .i64 q]),true) else none) w a b c 0 a (Int.ofNat d) 0 []
def Cf(w:Nat):Int->Int->Qu->Int->Qu->Qu->Qu->H1 Qu->H1 Qu->Zh (Int×Qu×Int×Qu×Qu×Qu×H1 Qu×H1 Qu):=λa b c d e f g h i=>ar c λj=>aE b λk=>aE b λl=>aE a λm=>bif k.ble j&&(l.ble k&&m.ble l) then gC 1 m l c λn=>ob (uu w n) λo=>bif !aj o.2.2.2.2.2.2.2.2.2.2.2.2.2 0 then some (o.2.2.2.2.2.2.2.2.2.2.2.2.2,c,d,e,f,g,h,i) else bif aF i.length&&(aF 1&&(List.take 13 (List.drop 0 [Value.int .i64 o.1,o.2.1,o.2.2.1,o.2.2.2.1,o.2.2.2.2.1,o.2.2.2.2.2.1,o.2.2.2.2.2.2.1,o.2.2.2.2.2.2.2.1,o.2.2.2.2.2.2.2.2.1,o.2.2.2.2.2.2.2.2.2.1,o.2.2.2.2.2.2.2.2.2.2.1,Value.int .i64 o.2.2.2.2.2.2.2.2.2.2.2.1,Value.int .i64 o.2.2.2.2.2.2.2.2.2.2.2.2.1])).length.beq 13) then some (0,c,d,e,f,g,h,i++List.take 13 (List.drop 0 [Value.int .i64 o.1,o.2.1,o.2.2.1,o.2.2.2.1,o.2.2.2.2.1,o.2.2.2.2.2.1,o.2.2.2.2.2.2.1,o.2.2.2.2.2.2.2.1,o.2.2.2.2.2.2.2.2.1,o.2.2.2.2.2.2.2.2.2.1,o.2.2.2.2.2.2.2.2.2.2.1,Value.int .i64 o.2.2.2.2.2.2.2.2.2.2.2.1,Value.int .i64 o.2.2.2.2.2.2.2.2.2.2.2.2.1])) else none else none
def GH(w:Nat):Qu->Int->Qu->Qu->Qu->H1 Qu->H1 Qu->Zh (Int×Qu×Int×Qu×Qu×Qu×H1 Qu×H1 Qu):=λa b c d e f g=>ar a λh=>bif ak 4294967295 (Int.ofNat h) then some (7,a,b,c,d,e,f,g) else ar a λi=>ob (Cf w 0 (Int.ofNat i) a b c d e f g) λj=>some (j.1,j.2.1,j.2.2.1,j.2.2.2.1,j.2.2.2.2.1,j.2.2.2.2.2.1,j.2.2.2.2.2.2.1,j.2.2.2.2.2.2.2)
def yL(E:Qu->Qu->Zh (Int×Qu×Int×Qu×Qu×Qu×H1 Qu×H1 Qu)->Zh (Int×Qu×Int×Qu×Qu×Qu×H1 Qu×H1 Qu))(w:Nat):Qu->Int->Qu->Qu->Qu->H1 Qu->H1 Qu->Zh (Int×Qu×Int×Qu×Qu×Qu×H1 Qu×H1 Qu):=λa b c d e f g=>bif Nat.beq 13 13&&Nat.blt 0 g.length then af (List.drop 0 g) λh i=>aw .i64 h λj=>af i λk l=>af l λm n=>af n λo p=>af p λq r=>af r λs t=>af t λu v=>af v λy z=>af z λa0 a1=>af a1 λa2 a3=>af a3 λa4 a5=>af a5 λa6 a7=>aw .i64 a6 λa8=>af a7 λa9 b0=>aw .i64 a9 λb1=>ar a λb2=>ar a4 λb3=>bif ak 0 (Int.ofNat b3) then ob (qI w a4) λb4=>bif !aj b4.2.2.2 0 then some (b4.2.2.2,a,b,ae 2 (List.drop 0 [Value.int .i64 0,Value.int .i64 (Int.ofNat b2)]),ae 1 (List.drop 0 (rep 1 (Value.agg #[Value.int .i64 0,Value.int .i64 0,Value.int .i64 0,Value.int .i64 0,Value.int .i64 0]).cells.toList)),e,f,g) else ar a λb5=>ob (Gt w b4.2.1 (ag .i64 (a8.add 4)) (Int.ofNat b5)) λb6=>bif !b6.2 then some (4,a,b,ae 2 (List.drop 0 [Value.int .i64 0,Value.int .i64 (Int.ofNat b2)]),ae 1 (List.drop 0 (rep 1 (Value.agg #[Value.int .i64 0,Value.int .i64 0,Value.int .i64 0,Value.int .i64 0,Value.int .i64 0]).cells.toList)),e,f,g) else E b4.2.2.1 b4.2.2.1 (E b4.2.1 b4.2.1 (E b4.2.2.1 b4.2.2.1 (aJ 1 1 b6.1 λb7=>af b7 λb8 b9=>aw .i64 b8 λc0=>bif !aj b1 c0 then some (2,a,b,b6.1,b4.2.1,b4.2.2.1,f,g) else some (0,a,b,b6.1,b4.2.1,b4.2.2.1,f,g)))) else bif !aj b1 (Int.ofNat b2) then some (2,a,b,ae 2 (List.drop 0 [Value.int .i64 0,Value.int .i64 (Int.ofNat b2)]),ae 1 (List.drop 0 (rep 1 (Value.agg #[Value.int .i64 0,Value.int .i64 0,Value.int .i64 0,Value.int .i64 0,Value.int .i64 0]).cells.toList)),e,f,g) else some (0,a,b,ae 2 (List.drop 0 [Value.int .i64 0,Value.int .i64 (Int.ofNat b2)]),ae 1 (List.drop 0 (rep 1 (Value.agg #[Value.int .i64 0,Value.int .i64 0,Value.int .i64 0,Value.int .i64 0,Value.int .i64 0]).cells.toList)),e,f,g) else none
def sS(w:Nat):Qu->Int->Qu->Qu->Qu->H1 Qu->H1 Qu->Zh (Int×Qu×Int×Qu×Qu×Qu×H1 Qu×H1 Qu):=yL (λ_ _ r=>r) w
def Cg(E:Qu->Qu->Zh (Qu×Int×Qu×Qu×Qu×H1 Qu×H1 Qu)->Zh (Qu×Int×Qu×Qu×Qu×H1 Qu×H1 Qu))(w:Nat):Int->Qu->Qu->Int->Qu->Qu->Qu->H1 Qu->H1 Qu->Zh (Qu×Int×Qu×Qu×Qu×H1 Qu×H1 Qu):=λa b c d e f g h i=>aE a λj=>bif Nat.beq 13 13&&(j*13).blt i.length then af (List.drop (0+j*13) i) λk l=>aw .i64 k λm=>af l λn o=>af o λp q=>af q λr s=>af s λt u=>af u λv y=>af y λz a0=>af a0 λa1 a2=>af a2 λa3 a4=>af a4 λa5 a6=>af a6 λa7 a8=>af a8 λa9 b0=>aw .i64 a9 λb1=>af b0 λb2 b3=>aw .i64 b2 λb4=>aE a λb5=>aJ 5 b5 f λb6=>af b6 λb7 b8=>aw .i64 b7 λb9=>af b8 λc0 c1=>aw .i64 c0 λc2=>af c1 λc3 c4=>aw .i64 c3 λc5=>af c4 λc6 c7=>aw .i64 c6 λc8=>af c7 λc9 d0=>aw .i64 c9 λd1=>E f f (bif aF h.length&&(aF 1&&(List.take 14 (List.drop 0 [Value.int .i64 m,n,p,r,t,v,z,a1,a3,a5,Value.int .i64 b9,Value.int .i64 c8,Value.int .i64 d1,b])).length.beq 14) then some (c,d,e,f,g,h++List.take 14 (List.drop 0 [Value.int .i64 m,n,p,r,t,v,z,a1,a3,a5,Value.int .i64 b9,Value.int .i64 c8,Value.int .i64 d1,b]),i) else none) else none
def rA(w:Nat):Int->Qu->Qu->Int->Qu->Qu->Qu->H1 Qu->H1 Qu->Zh (Qu×Int×Qu×Qu×Qu×H1 Qu×H1 Qu):=Cg (λ_ _ r=>r) w
def GN(w:Nat):Qu->Zh (Int×Qu×Int):=λa=>ob (yP w) λb=>ob (uA w a b) λc=>bif !aj c.2.2.2 0 then some (0,ae 0 [],c.2.2.2) else aJ 3 0 c.2.1 λd=>af (List.drop 0 d) λe f=>ob (oi w 5 e) λg=>bif !g then some (0,ae 0 [],6) else aJ 3 0 c.2.1 λh=>af (List.drop 0 h) λi j=>some (c.1,i,0)
def GI(w:Nat):Qu->Int->Qu->Qu->Qu->H1 Qu->H1 Qu->Zh (Int×Qu×Int×Qu×Qu×Qu×H1 Qu×H1 Qu):=λa b c d e f g=>ob (rA w 0 e a b c d e f g) λh=>lp (α:=Int->Qu->Int->Qu->Qu->Qu->H1 Qu->H1 Qu->Zh (Int×Qu×Int×Qu×Qu×Qu×H1 Qu×H1 Qu)) (λ_ _ _ _ _ _ _ _=>none) (λq r s t u v y z a0=>ar v λa1=>bif ak r (Int.ofNat a1) then aE r λa2=>aJ 1 a2 u λa3=>af a3 λa4 a5=>aw .i64 a4 λa6=>aE (ag .i64 (r.add 1)) λa7=>aJ 1 a7 u λa8=>af a8 λa9 b0=>aw .i64 a9 λb1=>ob (Cf w a6 b1 s r u v y z a0) λb2=>bif !aj b2.1 0 then some (b2.1,b2.2.1,b2.2.2.1,b2.2.2.2.1,b2.2.2.2.2.1,b2.2.2.2.2.2.1,b2.2.2.2.2.2.2.1,b2.2.2.2.2.2.2.2) else aE r λb3=>bif Nat.beq 13 13&&(b3*13).blt (List.length b2.2.2.2.2.2.2.2) then af (List.drop (0+b3*13) b2.2.2.2.2.2.2.2) λb4 b5=>aw .i64 b4 λb6=>af b5 λb7 b8=>af b8 λb9 c0=>af c0 λc1 c2=>af c2 λc3 c4=>af c4 λc5 c6=>af c6 λc7 c8=>af c8 λc9 d0=>af d0 λd1 d2=>af d2 λd3 d4=>af d4 λd5 d6=>af d6 λd7 d8=>aw .i64 d7 λd9=>af d8 λe0 e1=>aw .i64 e0 λe2=>aE (ag .i64 (r.add 1)) λe3=>aJ 1 e3 b2.2.2.2.1 λe4=>af e4 λe5 e6=>aw .i64 e5 λe7=>aE r λe8=>aJ 1 e8 b2.2.2.2.1 λe9=>af e9 λf0 f1=>aw .i64 f0 λf2=>bif !aj e2 (ag .i64 (e7.sub f2)) then some (2,b2.2.1,b2.2.2.1,b2.2.2.2.1,b2.2.2.2.2.1,b2.2.2.2.2.2.1,b2.2.2.2.2.2.2.1,b2.2.2.2.2.2.2.2) else ar d5 λf3=>bif ak 0 (Int.ofNat f3) then ob (GN w d5) λf4=>bif !aj f4.2.2 0 then some (f4.2.2,b2.2.1,b2.2.2.1,b2.2.2.2.1,b2.2.2.2.2.1,b2.2.2.2.2.2.1,b2.2.2.2.2.2.2.1,b2.2.2.2.2.2.2.2) else ob (rA w r f4.2.1 b2.2.1 b2.2.2.1 b2.2.2.2.1 b2.2.2.2.2.1 b2.2.2.2.2.2.1 b2.2.2.2.2.2.2.1 b2.2.2.2.2.2.2.2) λf5=>q (ag .i64 (r.add 1)) f5.1 f5.2.1 f5.2.2.1 f5.2.2.2.1 f5.2.2.2.2.1 f5.2.2.2.2.2.1 f5.2.2.2.2.2.2 else ob (rA w r (ae 0 []) b2.2.1 b2.2.2.1 b2.2.2.2.1 b2.2.2.2.2.1 b2.2.2.2.2.2.1 b2.2.2.2.2.2.2.1 b2.2.2.2.2.2.2.2) λf6=>q (ag .i64 (r.add 1)) f6.1 f6.2.1 f6.2.2.1 f6.2.2.2.1 f6.2.2.2.2.1 f6.2.2.2.2.2.1 f6.2.2.2.2.2.2 else none else some (0,s,t,u,v,y,z,a0)) w 1 h.1 h.2.1 h.2.2.1 h.2.2.2.1 h.2.2.2.2.1 h.2.2.2.2.2.1 h.2.2.2.2.2.2
def GJ(w:Nat):Qu->Int->Qu->Qu->Qu->H1 Qu->H1 Qu->Zh (Int×Qu×Int×Qu×Qu×Qu×H1 Qu×H1 Qu):=λa b c d e f g=>ob (zj w (ae (f.length/14) f)) λh=>ob (yO w (ae (f.length/14) f)) λi=>some (i,a,h.2,c,d,e,f,g)
def yH(w:Nat):Qu->Zh (Int×Qu×Int×Qu×Qu×Qu×H1 Qu×H1 Qu):=λa=>ob (GH w a 0 (ae 0 []) (ae 0 []) (ae 0 []) [] []) λb=>bif !aj b.1 0 then some (b.1,b.2.1,b.2.2.1,b.2.2.2.1,b.2.2.2.2.1,b.2.2.2.2.2.1,b.2.2.2.2.2.2.1,b.2.2.2.2.2.2.2) else ob (sS w b.2.1 b.2.2.1 b.2.2.2.1 b.2.2.2.2.1 b.2.2.2.2.2.1 b.2.2.2.2.2.2.1 b.2.2.2.2.2.2.2) λc=>bif !aj c.1 0 then some (c.1,c.2.1,c.2.2.1,c.2.2.2.1,c.2.2.2.2.1,c.2.2.2.2.2.1,c.2.2.2.2.2.2.1,c.2.2.2.2.2.2.2) else ob (GI w c.2.1 c.2.2.1 c.2.2.2.1 c.2.2.2.2.1 c.2.2.2.2.2.1 c.2.2.2.2.2.2.1 c.2.2.2.2.2.2.2) λd=>bif !aj d.1 0 then some (d.1,d.2.1,d.2.2.1,d.2.2.2.1,d.2.2.2.2.1,d.2.2.2.2.2.1,d.2.2.2.2.2.2.1,d.2.2.2.2.2.2.2) else ob (GJ w d.2.1 d.2.2.1 d.2.2.2.1 d.2.2.2.2.1 d.2.2.2.2.2.1 d.2.2.2.2.2.2.1 d.2.2.2.2.2.2.2) λe=>bif !aj e.1 0 then some (e.1,e.2.1,e.2.2.1,e.2.2.2.1,e.2.2.2.2.1,e.2.2.2.2.2.1,e.2.2.2.2.2.2.1,e.2.2.2.2.2.2.2) else some (0,e.2.1,e.2.2.1,e.2.2.2.1,e.2.2.2.2.1,e.2.2.2.2.2.1,e.2.2.2.2.2.2.1,e.2.2.2.2.2.2.2)
def rp(w:Nat):Qu->Zh (Qu×Int×Int):=λa=>ob (yH w a) λb=>bif !aj b.1 0 then bif aj b.2.2.1 b.2.2.1 then some (ae 0 [],b.2.2.1,b.1) else none else some (ae (List.length b.2.2.2.2.2.2.1 /14) b.2.2.2.2.2.2.1,0,0)
end
noncomputable section
def X4(w:Nat):Qu->Zh (Int×Bool):=λa=>ob (qI w a) λb=>bif !aj b.2.2.2 0 then some (0,false) else ob (wJ w) λc=>ob (uA w a c) λd=>ar d.2.2.1 λe=>lp (α:=Qu->Int->Int->Zh (Int×Bool)) (λ_ _ _=>none) (λi j k l=>bif ak l k then aE l λm=>aJ 5 m j λn=>af n λo p=>aw .i64 o λq=>af p λr s=>aw .i64 r λt=>af s λu v=>aw .i64 u λy=>af v λz a0=>aw .i64 z λa1=>af a0 λa2 a3=>aw .i64 a2 λa4=>bif aj q 3 then bif aj t 0 then bif aj y 45058 then some (ag .i64 (Int.add 4 a1),true) else i j k (ag .i64 (l.add 1)) else i j k (ag .i64 (l.add 1)) else i j k (ag .i64 (l.add 1)) else some (0,false)) w d.2.2.1 (Int.ofNat e) 0
def X0(w:Nat):Qu->Int->Int->Int->Int->Int->Int->Zh (Qu×Bool):=λa b c d e f g=>ob (qI w a) λh=>bif !aj h.2.2.2 0 then some (ae 0 [],false) else bif ak b 0 then some (ae 0 [],false) else ar h.2.1 λi=>bif !ak b (Int.ofNat i) then some (ae 0 [],false) else ob (Cn w c d e f g h.1) λj=>ob (X4 w a) λk=>bif !j.2 then some (ae 0 [],false) else bif !k.2 then some (ae 0 [],false) else ar a λl=>bif Nat.blt 0 1&&Nat.beq 1 1&&Nat.ble 1 10000&&(l.ble l&&l.ble 1000000000) then dN 1 a λm n=>bif n.length.beq (m*1)&&(0+m.min l*1).ble (rep l (Value.int .u8 0).cells.toList,5).1.length then aE (ag .i64 (Int.add k.1 (ag .i64 (Int.mul 16 b)))) λo=>bif l.ble l&&o.ble l then dN 1 j.1 λp q=>bif q.length.beq (p*1)&&((bif l.beq o then 0 else 0+o*1)+p.min (l -o)*1).ble (aX 0 (List.take (m.min l*1) n) (rep l (Value.int .u8 0).cells.toList,5).1,5).1.length then some (ae l (List.drop 0 (aX (bif l.beq o then 0 else 0+o*1) (List.take (p.min (l -o)*1) q) (aX 0 (List.take (m.min l*1) n) (rep l (Value.int .u8 0).cells.toList,5).1,5).1)),true) else none else none else none else none
def sQ(w:Nat):Qu->Int->Zh (Int×Bool):=λa b=>bif ak b 0 then some (0,false) else ar a λc=>bif ak (Int.ofNat c) b then some (0,false) else ar a λd=>aE b λe=>bif d.ble d&&e.ble d then gC 1 e d a λf=>ob (wH w f) λg=>bif !aj g.2.2.2 0 then some (0,false) else some (ag .i64 (b.add g.2.1),true) else none
def Gr(w:Nat):Qu->Zh (Qu×Int):=findF w (sQ w)
def Gs(w:Nat):Qu->Zh (Qu×Int):=λa=>ob (Gr w a) λb=>bif !aj b.2 0 then some (ae 0 [],b.2) else ob (uu w a) λc=>bif !aj c.2.2.2.2.2.2.2.2.2.2.2.2.2 0 then some (ae 0 [],c.2.2.2.2.2.2.2.2.2.2.2.2.2) else ob (qI w c.2.2.2.2.2.2.2.2.2.2.1) λd=>bif !aj d.2.2.2 0 then some (ae 0 [],d.2.2.2) else ar b.1 λe=>bif e.ble e&&Nat.ble 1 e then gC 1 1 e b.1 λf=>ar f λg=>lp (α:=Qu->Qu->Int->Int->Int->Qu->Qu->Qu->Qu->Qu->Qu->Qu->Qu->Qu->Qu->Int->Int->Int->Qu->Qu->H1 Qu->Zh (Qu×Int)) (λ_ _ _ _ _ _ _ _ _ _ _ _ _ _ _ _ _ _ _ _ _=>none) (λa4 a5 a6 a7 a8 a9 b0 b1 b2 b3 b4 b5 b6 b7 b8 b9 c0 c1 c2 c3 c4 c5=>bif ak a8 a7 then aE (ag .i64 (a8.add 1)) λc6=>aJ 1 c6 a6 λc7=>af c7 λc8 c9=>aw .i64 c8 λd0=>aE a8 λd1=>aJ 1 d1 a6 λd2=>af d2 λd3 d4=>aw .i64 d3 λd5=>bif aF c5.length&&(aF 1&&(List.take 1 (List.drop 0 [Value.int .i64 (ag .i64 (d0.sub d5))])).length.beq 1) then a4 a5 a6 a7 (ag .i64 (a8.add 1)) a9 b0 b1 b2 b3 b4 b5 b6 b7 b8 b9 c0 c1 c2 c3 c4 (c5++List.take 1 (List.drop 0 [Value.int .i64 (ag .i64 (d0.sub d5))])) else none else ob (wm w (ae (c5.length/1) c5) (ag .i64 (c0.add 4)) c3) λd6=>ar d6.1 λd7=>lp (α:=Qu->Bool->Qu->Qu->Int->Int->Int->Qu->Qu->Qu->Qu->Qu->Qu->Qu->Qu->Qu->Qu->Int->Int->Zh (Qu×Int)) (λ_ _ _ _ _ _ _ _ _ _ _ _ _ _ _ _ _ _ _=>none) (λf7 f8 f9 g0 g1 g2 g3 g4 g5 g6 g7 g8 g9 h0 h1 h2 h3 h4 h5 h6=>bif ak g3 g2 then aE g3 λh7=>aJ 5 h7 g1 λh8=>af h8 λh9 i0=>aw .i64 h9 λi1=>af i0 λi2 i3=>aw .i64 i2 λi4=>af i3 λi5 i6=>aw .i64 i5 λi7=>af i6 λi8 i9=>aw .i64 i8 λj0=>af i9 λj1 j2=>aw .i64 j1 λj3=>ob (X0 w g0 g3 i1 i4 i7 j0 j3) λj4=>bif !j4.2 then bif !j4.2 then some (ae 0 [],4) else ar f8 λj5=>bif Nat.blt 0 1&&Nat.beq 1 1&&Nat.ble 1 10000&&(j5.ble j5&&j5.ble 1000000000) then dN 1 f8 λj6 j7=>bif j7.length.beq (j6*1)&&(0+j6.min j5*1).ble (rep j5 (Value.int .u8 0).cells.toList,5).1.length then aE h5 λj8=>bif j5.ble j5&&j8.ble j5 then dN 1 j4.1 λj9 k0=>bif k0.length.beq (j9*1)&&((bif j5.beq j8 then 0 else 0+j8*1)+j9.min (j5 -j8)*1).ble (aX 0 (List.take (j6.min j5*1) j7) (rep j5 (Value.int .u8 0).cells.toList,5).1,5).1.length then some (ae j5 (List.drop 0 (aX (bif j5.beq j8 then 0 else 0+j8*1) (List.take (j9.min (j5 -j8)*1) k0) (aX 0 (List.take (j6.min j5*1) j7) (rep j5 (Value.int .u8 0).cells.toList,5).1,5).1)),0) else none else none else none else none else f7 f8 j4.2 j4.1 g1 g2 (ag .i64 (g3.add 1)) g4 g5 g6 g7 g8 g9 h0 h1 h2 h3 h4 h5 h6 else bif !f9 then some (ae 0 [],4) else ar f8 λk1=>bif Nat.blt 0 1&&Nat.beq 1 1&&Nat.ble 1 10000&&(k1.ble k1&&k1.ble 1000000000) then dN 1 f8 λk2 k3=>bif k3.length.beq (k2*1)&&(0+k2.min k1*1).ble (rep k1 (Value.int .u8 0).cells.toList,5).1.length then aE h5 λk4=>bif k1.ble k1&&k4.ble k1 then dN 1 g0 λk5 k6=>bif k6.length.beq (k5*1)&&((bif k1.beq k4 then 0 else 0+k4*1)+k5.min (k1 -k4)*1).ble (aX 0 (List.take (k2.min k1*1) k3) (rep k1 (Value.int .u8 0).cells.toList,5).1,5).1.length then some (ae k1 (List.drop 0 (aX (bif k1.beq k4 then 0 else 0+k4*1) (List.take (k5.min (k1 -k4)*1) k6) (aX 0 (List.take (k2.min k1*1) k3) (rep k1 (Value.int .u8 0).cells.toList,5).1,5).1)),0) else none else none else none else none) w a5 d6.2 b9 d6.1 (Int.ofNat d7) 0 a9 b0 b1 b2 b3 b4 b5 b6 b7 b8 b9 c0 c1) w a b.1 (Int.ofNat g) 0 c.1 c.2.1 c.2.2.1 c.2.2.2.1 c.2.2.2.2.1 c.2.2.2.2.2.1 c.2.2.2.2.2.2.1 c.2.2.2.2.2.2.2.1 c.2.2.2.2.2.2.2.2.1 c.2.2.2.2.2.2.2.2.2.1 c.2.2.2.2.2.2.2.2.2.2.1 c.2.2.2.2.2.2.2.2.2.2.2.1 c.2.2.2.2.2.2.2.2.2.2.2.2.1 d.1 d.2.1 d.2.2.1 [] else none
end
theorem ag7{t:aN}{m:Nat}(h:eI t.ty t.az t.data=true)(hd:t.data.length<=m):bQ t.ty t.az<=m:=by
 have:=yg h
 grind
theorem As{m:Nat}:∀(l:H1 aN)(e:Nat),(∀t∈l,eI t.ty t.az t.data=true/\t.data.length<=m)->cn e l<=e+l.length*(m+1)
 |[],e,_=>by simp[cn]
 |t::l,e,h=>by
  have h1:=h t (by simp);have ho:=ag7 h1.1 h1.2;have ih:=λe=>As l e λt ht=>h t (by grind);have hev:=vj e;rw[cc,Rq]
  grind
theorem alN(no:Nat)(l:H1 aN)(e:Nat):(dw no e l).length<=l.length:=PG no l e
mutual
theorem Rm{sh:H1 bg}{m B:Nat}(hB:24*m+40+m*(m+1)+m<=B):∀(d:aV)(s e:Nat),cM sh s d=true->iG m d->bB e d<=e+dL d*B
 | .mk tags subs blob,s,e,hh,hd=>by
  have hd:tags.length<=m/\cj subs<=m/\blob.length<=m/\(∀t∈tags,t.data.length<=m)/\iH m subs:=hd;simp[cM] at hh;obtain⟨⟨n1,n2⟩,ht,hbl,hr,hss⟩:=hh;have htg:∀t∈tags,eI t.ty t.az t.data=true/\t.data.length<=m:=λt h=>by simp[ky] at ht;simp_all
  have hN:bE (.mk tags subs blob)<=2*m+2:=by
   show tags.length+cj subs+(if blob.length=0 then 0 else 2)<=2*m+2
   grind
  have h1:=As tags (aI e+(6+12*bE (.mk tags subs blob))) htg;have h2:=Ro hB subs (aR sh s) (cn (aI e+(6+12*bE (.mk tags subs blob))) tags) hss hd.2.2.2.2;have h3:=vj e;have h4:=vj (eH (cn (aI e+(6+12*bE (.mk tags subs blob))) tags) subs);have h5:tags.length*(m+1)<=m*(m+1):=wZ _ hd.1;rw[dL,lW,bB]
  grind
theorem Ro{sh:H1 bg}{m B:Nat}(hB:24*m+40+m*(m+1)+m<=B):∀(r:cK)(S:bg)(e:Nat),jg sh S r=true->iH m r->eH e r<=e+iu r*B
 | .nil,S,e,_,_=>by unfold eH;omega
 | .cons t d r,S,e,hh,hd=>by simp[jg] at hh;have h1:=Rm hB d _ e hh.2.1 hd.1;have h2:=Ro hB r S (bB e d) hh.2.2 hd.2;rw[eH,iu,lW];omega
end
mutual
theorem Y0{m:Nat}:∀(d:aV)(no e:Nat),iG m d->(gp no e d).length<=dL d*(m+2)
 | .mk tags subs blob,no,e,hd=>by
  have hd:tags.length<=m/\cj subs<=m/\blob.length<=m/\(∀t∈tags,t.data.length<=m)/\iH m subs:=hd;have h1:=alN no tags (aI e+(6+12*bE (.mk tags subs blob)));have h2:=Y2 subs (no+1) (cn (aI e+(6+12*bE (.mk tags subs blob))) tags) hd.2.2.2.2;rw[dL,gp]
  grind
theorem Y2{m:Nat}:∀(r:cK)(no e:Nat),iH m r->(kQ no e r).length<=iu r*(m+2)
 | .nil,no,e,_=>by unfold kQ;simp
 | .cons t d r,no,e,hd=>by have h1:=Y0 d no e hd.1;have h2:=Y2 r (no+dL d) (bB e d) hd.2;rw[kQ,iu,lW,aP];omega
end
theorem Rl{sh:H1 bg}{m B:Nat}(hB:24*m+40+m*(m+1)+m<=B):∀(ds:H1 aV)(s:Int)(e:Nat),gE sh s ds=true->oC m ds->eG e ds<=e+gZ ds*B
 |[],s,e,_,_=>by simp[eG]
 |d::ds,s,e,hh,hd=>by simp[gE] at hh;have h1:=Rm hB d _ e hh.2.1 (hd d (by simp));have h2:=Rl hB ds _ (bB e d) hh.2.2 λd h=>hd d (by grind);rw[eG,gZ,lW];omega
theorem CT{m:Nat}:∀(ds:H1 aV)(no e:Nat),oC m ds->(jA no e ds).length<=gZ ds*(m+2)
 |[],no,e,_=>by simp[jA]
 |d::ds,no,e,hd=>by have h1:=Y0 d no e (hd d (by simp));have h2:=CT ds (no+dL d) (bB e d) λd h=>hd d (by grind);rw[jA,gZ,lW,aP];omega
theorem KJ{sh:H1 bg}:∀{ds:H1 aV}{s:Int},gE sh s ds=true->∀d∈ds,∃s,cM sh s d=true
 |[],_,_,d,h=>by grind
 |a::ds,s,hh,d,h=>by
  simp[gE] at hh;rcases cX.1 h with rfl|h
  ·grind
  ·exact KJ hh.2.2 d h
structure cZ(w:Nat):Prop where
 hand:Hand w
 kH:200000<=w
theorem PV{w:Nat}(W:cZ w){sh:H1 bg}{o:Int}{ds:H1 aV}(ok:jc sh)(tO:rC w (ct sh)=some true)(s0:0<sh.length)(bP:∀s,s<sh.length->(aR sh s).bP.length<=10000)(ho:o=1\/o=2)(cA:ds≠[])(iM:ds.length<=10000)(hd:oC 10000 ds)(kb:kV ds<=10)(hc:gZ ds<=8)(hh:gE sh 0 ds=true):pj w 10000 sh o ds:=by have hb:=W.kH;have h1:=Rl (B:=100360040) (by simp) ds 0 8 hh hd;have h2:=CT ds 0 8 hd;have h5:(fD ⟨o,ds⟩).length=(jA 0 8 ds).length+1:=rfl;exact⟨(by simp),(by omega),(by omega),ok,tO,s0,bP,ho,cA,iM,hd,by omega,hh,by omega,by omega,by omega,by omega,(W.hand.may o ds (by omega) (λd hd=>by obtain⟨s,h⟩:=KJ hh d hd;exact⟨sh,s,h⟩) (by omega))⟩
theorem RQ(s:Nat)(hs:s<dC.length):(aR dC s).bP.length<=10000:=by
 have:s=0\/s=1\/s=2\/s=3\/s=4:=by simp[dC] at hs;omega
 rcases this with rfl|rfl|rfl|rfl|rfl<;>decide
theorem ai6{m:Nat}{l:H1 aN}{x:aN}(h:∀t∈l,t.data.length<=m)(hx:x.data.length<=m):∀t∈ku l x,t.data.length<=m:=by intro t ht;rcases XR ht with rfl|ht<;>grind
theorem amg{x:dJ}{m:Nat}(h:jR x m)(h1:1<=m):iG (m+1) (jQ x)/\dL (jQ x)<=2/\gj (jQ x)<=2:=by
 obtain⟨⟨r0,r2,r3,r4,r1⟩,d0,d2,d3,d4,d1,hmk,hth⟩:=h;unfold jQ;have hl:=XQ x.bG (jL x.bF);have hsub:iH (m+1) (if x.bm.length=0 then .nil else .cons 40965 (.mk x.bm .nil []) .nil)/\cj (if x.bm.length=0 then .nil else .cons 40965 (.mk x.bm .nil []) .nil)<=1/\iu (if x.bm.length=0 then .nil else .cons 40965 (.mk x.bm .nil []) .nil)<=1/\jX (if x.bm.length=0 then .nil else .cons 40965 (.mk x.bm .nil []) .nil)<=1:=by
  split
  ·exact⟨trivial,by decide,by decide,by decide⟩
  ·refine⟨⟨⟨by omega,by show 0<=_;omega,by show 0<=_;omega,λt ht=>by have:=d4 t ht;omega,trivial⟩,trivial⟩,by simp[cj],by simp[iu,dL],by simp[jX,gj]⟩
 refine⟨⟨?_,by omega,by show 0<=_;omega,?_,hsub.1⟩,by rw[dL];omega,by rw[gj];omega⟩
 ·grind
 ·split
  ·grind
  ·exact ai6 (λt ht=>by have:=d2 t ht;omega) (by show x.bF.length<=_;omega)
theorem Zt{x:dJ}{m:Nat}(h:jR x m)(h1:2<=m):oC (m+1) (fg x).dO/\gZ (fg x).dO<=5/\kV (fg x).dO<=3/\(fg x).dO.length<=2:=by
 obtain⟨t1,t2,t3⟩:=amg h (by omega);obtain⟨⟨r0,r2,r3,r4,r1⟩,d0,d2,d3,d4,d1,hmk,hth⟩:=h;have hg:iH (m+1) (nN x)/\cj (nN x)<=1/\iu (nN x)<=1/\jX (nN x)<=1:=by
  unfold nN;split
  ·exact⟨trivial,by decide,by decide,by decide⟩
  ·exact⟨⟨⟨by omega,by show 0<=_;omega,by show 0<=_;omega,λt ht=>by have:=d3 t ht;omega,trivial⟩,trivial⟩,by simp[cj],by simp[iu,dL],by simp[jX,gj]⟩
 have hs:iH (m+1) (jO x)/\cj (jO x)<=2/\iu (jO x)<=3/\jX (jO x)<=2:=by
  unfold jO;split
  ·exact⟨hg.1,by omega,by omega,by omega⟩
  ·refine⟨⟨t1,hg.1⟩,by rw[cj];omega,by rw[iu];omega,by rw[jX];omega⟩
 have h0:iG (m+1) (.mk x.cu (jO x) []):=⟨by omega,by omega,by show 0<=_;omega,λt ht=>by have:=d0 t ht;omega,hs.1⟩;unfold fg;by_cases c:x.first.length=0/\x.cP.length=0
 ·simp only[ay c];refine⟨λd hd=>?_,by simp only[gZ,dL];omega,by simp only[kV,gj];omega,by simp⟩;rw[nt.1 hd];exact h0
 ·simp only[aq c];refine⟨λd hd=>?_,by simp only[gZ,dL,iu];omega,by simp only[kV,gj,jX];omega,by simp⟩;simp_all;rcases hd with rfl|rfl
  ·exact h0
  ·exact(⟨by omega,by show 0<=_;omega,by omega,λt ht=>by have:=d1 t ht;omega,trivial⟩)
theorem iG.mono{m m':Nat}(h:m<=m'):∀{d:aV},iG m d->iG m' d:=by
 have key:(∀d:aV,iG m d->iG m' d)/\∀r:cK,iH m r->iH m' r:=by
  refine⟨λd=>?_,λr=>?_⟩
  ·exact aV.rec (motive_2:=λr=>iH m r->iH m' r) (λtags subs blob ih hd=>by have hd:tags.length<=m/\cj subs<=m/\blob.length<=m/\(∀t∈tags,t.data.length<=m)/\iH m subs:=hd;exact⟨by omega,by omega,by omega,λt ht=>by have:=hd.2.2.2.1 t ht;omega,ih hd.2.2.2.2⟩) (λ_=>trivial) (λt d r i1 i2 hd=>⟨i1 hd.1,i2 hd.2⟩) d
  ·exact cK.rec (motive_1:=λd=>iG m d->iG m' d) (λtags subs blob ih hd=>by have hd:tags.length<=m/\cj subs<=m/\blob.length<=m/\(∀t∈tags,t.data.length<=m)/\iH m subs:=hd;exact⟨by omega,by omega,by omega,λt ht=>by have:=hd.2.2.2.1 t ht;omega,ih hd.2.2.2.2⟩) (λ_=>trivial) (λt d r i1 i2 hd=>⟨i1 hd.1,i2 hd.2⟩) r
 grind
theorem D6{w:Nat}(W:cZ w){x:dJ}(h:jR x 9000)(hc:iS x=0):pj w 10000 dC x.order (fg x).dO:=by obtain⟨a,b,c,d⟩:=Zt h (by simp);have hr:=h.rows;refine PV W Kl (aky (by have:=W.kH;omega)) (by decide) RQ (tF hc).1 (by simp[fg]) (by omega) (λd hd=>(a d hd).mono (by simp)) (by omega) (by omega) (Zu hc ?_);unfold rl at hr⊢;omega
theorem amk(x:dJ):(⟨x.order,(fg x).dO⟩:mN)=fg x:=rfl
theorem Om(w:Nat):Cm w=some (ct dC):=rfl
theorem alB{w:Nat}(W:cZ w){x:dJ}(h:jR x 9000):Im w x.order (au x.cu) (au x.bG) (au x.bN) (au x.bm) (au x.first) (ah x.bF) (ah x.cP)=some (if iS x=0 then(ah (eM (fg x) dC),0) else(ae 0 [],iS x)):=by
 have hb:=W.kH;unfold Im;rw[Ye W.hand h (by simp) (by omega)];by_cases hc:iS x=0
 ·rw[ay hc,ay hc];rw[Om];simp;rw[Yf (D6 W h hc)];rfl
 simp_all
theorem alA{w:Nat}(W:cZ w){x:dJ}(h:jR x 9000):Il w x.order (au x.cu) (au x.bG) (au x.bN) (au x.bm) (au x.first) (ah x.bF) (ah x.cP)=some (if iS x=0 then(65527 -(gT (fg x):Int),0) else(0,iS x)):=by
 have hb:=W.kH;unfold Il;rw[Ye W.hand h (by simp) (by omega)];simp;by_cases hc:iS x=0
 ·rw[ay hc,ay hc];have T:=D6 W h hc;have:=T.he;rw[T.cG];simp;rw[aQ (by omega) (by omega)];rfl
 grind
theorem QU(a:H1 Int)(b:H1 UInt8)(h:a=b.map λc=>(c.toNat:Int)):bk a=b.map bh:=by subst h;unfold bk;rw[List.map_map];rfl
theorem Pd{w:Nat}(W:cZ w){x:dJ}(h:jR x 9000):Cy w x.order (au x.cu) (au x.bG) (au x.bN) (au x.bm) (au x.first) (ah x.bF) (ah x.cP)=some (match iQ x with| .ok b=>(ah b,0)| .error e=>(ae 0 [],e)):=by
 unfold Cy z8 iQ;rw[alA W h,alB W h];by_cases hc:iS x=0
 case neg=>simp_all
 rw[ay hc,ay hc,aq (by omega)];simp only[aB,aU];by_cases h2:65533<6+gT (fg x)
 ·have:(65527:Int) -(gT (fg x):Int)<0:=by omega
  simp_all
 ·have h3:¬((65527:Int) -(gT (fg x):Int)<0):=by omega
  simp only[h3,bM,aq h2];unfold u0;have hl:=wQ (D6 W h hc).hh;have hpos:8<=gT (fg x):=qm _ _;simp only[show aj 0 0=true from rfl];rw[rX];have r2:((eM (fg x) dC).map λb=>(b.toNat:Int)).isEmpty=false:=by
   cases q:eM (fg x) dC with
   |nil=>rw[q] at hl;simp at hl;omega
   |cons _ _=>rfl
  simp only[(show aF ((eM (fg x) dC).map λb=>(b.toNat:Int)).length=true from by simp;omega),r2,aC,aD];rw[QU _ (nM++eM (fg x) dC) (by rw[fY];rfl),vc _ _ (by simp[nM];omega)]
theorem Yk{w:Nat}{sh:H1 bg}{o:Int}{ds:H1 aV}(T:pj w 10000 sh o ds):wo w o (db ds) (ct sh)=some (if 65533<4+gT ⟨o,ds⟩ then(ae 0 [],7) else(ah (gG++eM ⟨o,ds⟩ sh),0)):=by
 unfold wo tU;rw[Yf T];have hl:(eM ⟨o,ds⟩ sh).length=gT ⟨o,ds⟩:=wQ T.hh;have he:gT ⟨o,ds⟩<=1000000000:=T.he;have hpos:8<=gT ⟨o,ds⟩:=qm _ _;simp only[aB,show aj 0 0=true from rfl];rw[rX];have r2:((eM ⟨o,ds⟩ sh).map λb=>(b.toNat:Int)).isEmpty=false:=by
  cases q:eM ⟨o,ds⟩ sh with
  |nil=>grind
  |cons _ _=>rfl
 simp only[cH,hl,(show aF (gT ⟨o,ds⟩)=true from by simp;omega),r2,aC,aD,mQ,qT];split
 ·rfl
 ·rw[QU _ (gG++eM ⟨o,ds⟩ sh) (by rw[fY];rfl),vc _ _ (by simp[gG];omega)]
theorem N5(w:Nat)(m:Int):yI w m=some (je m):=by
 unfold yI je;simp
 grind
theorem Yt(w:Nat)(m:Int):yW w m=some (oT m):=by
 unfold yW oT;by_cases h1:m<208
 ·have:¬(208<=m/\m<=215):=by omega
  simp_all
 ·by_cases h2:m<216
  ·have:(208<=m/\m<=215):=by omega
   simp_all
  ·have:¬(208<=m/\m<=215):=by omega
   simp[h2,this]
theorem Ym(w:Nat)(m:Int):Co w m=some (lM m):=by
 unfold Co lM;rw[N5,Yt];simp
 grind
theorem Jg{b:UInt8}:ag IntKind.i64 (b.toNat:Int)=(b.toNat:Int):=by have:=b.toNat_lt;exact aQ (by simp) (by omega)
theorem amj{w:Nat}(l:H1 UInt8)(hl:l.length<2^60):Ct w (ah l)=some (match l.getLast? with|some b=>if b=255 then 1 else 0|none=>0):=by
 unfold Ct;by_cases h:l.length=0
 ·rw[mV h];rfl
 ·have e1:((0:Int)<(l.length:Int)):=by omega
  simp_all;rw[aQ (by omega) (by omega),lZ (by omega),show((l.length:Int) -1).toNat=l.length -1 by omega,oO (show l.length -1<l.length by omega)];simp;have hg:l.getLast? =some l[l.length -1]:=by rw[List.getLast?_eq_getElem?,cw (by omega)]
  rw[hg];simp only;by_cases h5:l[l.length -1]=255
  ·rw[ay h5,ay (by rw[h5];rfl)]
  ·rw[aq h5,aq (by intro q;exact h5 (oy.1 (by have:(255:UInt8).toNat=255:=rfl;omega)))]
theorem Yl{w:Nat}(l:H1 UInt8)(hl:l.length<2^60)(hw:l.length<w):yQ w (ah l)=some (gm l:Int):=by
 have key:∀(z:Qu->Int->Zh Int)(F:(Qu->Int->Zh Int)->Qu->Int->Zh Int)(hF:F=λ(x3:Qu->Int->Zh Int)(x4:Qu)(x5:Int)=>ar x4 λ(x6:Nat)=>bif ak (ag IntKind.i64 (x5.add 1)) (Int.ofNat x6) then aE x5 λ(x7:Nat)=>aJ 1 x7 x4 λ(x8:H1 Qu)=>af x8 λ(x9:Qu)(x10:H1 Qu)=>aw IntKind.u8 x9 λ(x11:Int)=>bif aj x11 255 then aE (ag IntKind.i64 (x5.add 1)) λ(x12:Nat)=>aJ 1 x12 x4 λ(x13:H1 Qu)=>af x13 λ(x14:Qu)(x15:H1 Qu)=>aw IntKind.u8 x14 λ(x16:Int)=>bif !aj x16 0 then aE (ag IntKind.i64 (x5.add 1)) λ(x17:Nat)=>aJ 1 x17 x4 λ(x18:H1 Qu)=>af x18 λ(x19:Qu)(x20:H1 Qu)=>aw IntKind.u8 x19 λ(x21:Int)=>ob (yW w (ag IntKind.i64 x21)) λ(x22:Bool)=>bif !x22 then some x5 else x3 x4 (ag IntKind.i64 (x5.add 1)) else x3 x4 (ag IntKind.i64 (x5.add 1)) else x3 x4 (ag IntKind.i64 (x5.add 1)) else ar x4 λ(x23:Nat)=>ob (Ct w x4) λ(x24:Int)=>some (ag IntKind.i64 ((Int.ofNat x23).sub x24))),
  ∀(d i v:Nat),i+d+1=l.length->d<v->lp z F v (ah l) (i:Int)=some ((i+gm (l.drop i):Nat):Int):=by
  intro z F hF d;induction d with
  |zero=>
   intro i v hi hv;rw[eU z F (by omega),hF];simp only[cN,cf];rw[aQ (by omega) (by omega)];have e1:¬((i:Int)+1<(l.length:Int)):=by omega
   have hlt:i<l.length:=by omega
   have hll:l.drop i=[l[i]]:=by rw[cW hlt,wV (by omega)]
   have hg:l.getLast? =some l[i]:=by rw[List.getLast?_eq_getElem?,show l.length -1=i by omega,cw hlt]
   simp only[aU,bO,e1,bM,aD];rw[amj l hl,hll,hg];simp only[aB,jh];by_cases h5:l[i]=255
   ·rw[ay h5,h5,ai1,aQ (by omega) (by omega)]
    congr 1;omega
   ·rw[aq h5,BW h5,aQ (by omega) (by omega)]
    congr 1
    show(l.length:Int) -0=((i+(0+1):Nat):Int);omega
  |succ d ih=>
   intro i v hi hv;have hlt:i<l.length:=by omega
   have hlt2:i+1<l.length:=by omega
   have hll:l.drop i=l[i]::l[i+1]::l.drop (i+2):=by rw[cW hlt,cW hlt2]
   have hll2:l.drop (i+1)=l[i+1]::l.drop (i+2):=cW hlt2;have ih:=ih (i+1) (v -1) (by omega) (by omega);rw[hll2] at ih;rw[hll,eU z F (by omega)];generalize lp z F (v -1)=g at ih⊢;rw[hF];have e1:((i:Int)+1<(l.length:Int)):=by omega
   simp only[cN,cf];rw[aQ (by omega) (by omega)];simp only[aU,bO,e1,bd,aC,bH];rw[show(i:Int)+1=((i+1:Nat):Int) by omega];simp only[bH];rw[oO hlt,oO hlt2];simp only[bc,qf,bY,Yt,Jg,aB];by_cases h5:l[i]=255
   ·have e5:((l[i].toNat:Int)=255):=by rw[h5];rfl
    rw[h5,NS] at*;simp only[show(((255:UInt8).toNat:Int)=255) from rfl,bd,aC];by_cases h6:l[i+1]=0
    ·have e6:((l[i+1].toNat:Int)=0):=by rw[h6];rfl
     have:¬(l[i+1]≠0/\oT (l[i+1].toNat:Int)=false):=λq=>q.1 h6;rw[aq this];simp only[e6,bd,bW,aD];rw[ih]
     congr 2;omega
    ·have e6:¬((l[i+1].toNat:Int)=0):=by
      intro q;exact h6 (oy.1 (by have:(0:UInt8).toNat=0:=rfl;omega))
     simp only[e6,bM,fH,aC];rw[oO hlt2];simp only[bc,qf,Jg];cases hr:oT (l[i+1].toNat:Int) with
     |true=>
      have:¬(l[i+1]≠0/\true=false):=λq=>by cases q.2
      rw[aq this];simp only[bW,aD];rw[ih]
      congr 2;omega
     |false=>rw[ay ⟨h6,rfl⟩];rfl
   ·have e5:¬((l[i].toNat:Int)=255):=by
     intro q;exact h5 (oy.1 (by have:(255:UInt8).toNat=255:=rfl;omega))
    rw[BW h5];simp only[e5,bM,aD];rw[ih]
    congr 2;omega
 by_cases h0:l.length=0
 ·rw[mV h0];unfold yQ;rw[eU _ _ (by omega)];rfl
 ·unfold yQ;refine Eq.trans (key _ _ rfl (l.length -1) 0 w (by omega) (by omega)) ?_;rw[er,fI]
def cT(s:bJ):H1 Qu:=[.int .i64 s.bZ,ah s.data,ah s.scan]
theorem jM(s:bJ):(cT s).length=3:=rfl
def dV(l:H1 bJ):Qu:=aA cT l
theorem EG(w:Nat)(n:Int)(b:H1 UInt8)(p:Nat)(hb:b.length<2^60)(hp:p<=b.length):wq w n (ah b) (p:Int)=some (if((b.length -p:Nat):Int)<n then .inr ((b.length:Int),3,ah b,(p:Int)) else .inl (ah b,(p:Int))):=by
 unfold wq;simp only[cN,jh,bO];rw[aQ (by omega) (by omega)];simp
 grind
theorem ajx(w:Nat)(b:H1 UInt8)(p:Nat)(hb:b.length<2^60)(hp:p<=b.length):uj w (ah b) (p:Int)=some (match b.drop p with
 |[]=>.inr ((b.length:Int),3,ah b,(p:Int))
 |[x]=>if x=255 then .inr ((b.length:Int),3,ah b,(p:Int)) else .inr ((p:Int),2,ah b,(p:Int))
 |x::m::_=>if x≠255 then .inr ((p:Int),2,ah b,(p:Int)) else if((decide (p=0)!=decide (m=216))||!(je m.toNat||lM m.toNat))=true then .inr ((p:Int),2,ah b,(p:Int)) else .inl ((m.toNat:Int),ah b,((p+2:Nat):Int))):=by
 unfold uj Gg;rw[EG w 1 b p hb hp];simp only[aB];by_cases h1:p<b.length
 case neg=>rw[ay (by omega),wV (by omega)];rfl
 rw[aq (by omega),cW h1];simp only[iO,bH];rw[oO h1];simp only[bc,qf,bY];by_cases h2:b[p]=255
 case neg=>
  have e2:¬((b[p].toNat:Int)=255):=by intro q;exact h2 (oy.1 (by have:(255:UInt8).toNat=255:=rfl;omega))
  simp only[e2,bM,fH,aC];generalize b.drop (p+1)=r;cases r with
  |nil=>simp only;rw[aq h2]
  |cons m r=>simp only;rw[ay h2]
 have e2:((b[p].toNat:Int)=255):=by rw[h2];rfl
 simp only[e2,bd,aD];rw[EG w 2 b p hb hp];simp only[aB];by_cases h3:p+1<b.length
 case neg=>rw[ay (by omega),wV (show b.length<=p+1 by omega),h2];simp
 rw[aq (by omega),cW h3,h2];simp only[iO,cf,ne_eq,gR];rw[aQ (by omega) (by omega),show(p:Int)+1=((p+1:Nat):Int) by omega];simp only[bH];rw[oO h3];simp only[bc,qf,Jg,Ym];generalize b[p+1]=m;have hp0:decide ((p:Int)=0)=decide (p=0):=by rw[iD,cm,cm];omega
 have h216:decide ((m.toNat:Int)=216)=decide (m=216):=by
  rw[iD,cm,cm];constructor
  ·intro q;exact oy.1 (by have:(216:UInt8).toNat=216:=rfl;omega)
  ·rintro rfl;rfl
 have h217:decide ((m.toNat:Int)=217)=decide (m=217):=by
  rw[iD,cm,cm];constructor
  ·intro q;exact oy.1 (by have:(217:UInt8).toNat=217:=rfl;omega)
  ·rintro rfl;rfl
 have hal:je (m.toNat:Int)=(decide (m=216)||decide (m=217)):=by rw[<-h216,<-h217];unfold je;simp
 rw[hp0,h216,h217,hal,aQ (by omega) (by omega)];by_cases c0:p=0
 ·by_cases c1:m=216
  ·subst c1;simp[c0]
  ·simp[c0,c1]
 ·by_cases c1:m=216
  ·subst c1;simp[c0]
  ·by_cases c2:m=217
   ·subst c2;simp[c0]
   ·cases lM (m.toNat:Int)<;>simp[c0,c1,c2]
theorem adG(b:H1 UInt8)(p:Nat)(h:p+1<b.length):pG b p 2 2=some ((b[p].toNat*256+b[p+1].toNat:Nat):Int):=by
 have:=xI (l:=b) (p:=p) (.inr (.inl rfl)) (.inr rfl) (by omega);rw[show((2:Nat):Int)=2 from rfl] at this;rw[this];have:gS b p 2 2=[b[p],b[p+1]]:=by unfold gS;rw[cW (by omega),cW (show p+1<b.length by omega)];rfl
 rw[this];unfold ib;simp
theorem aju{w:Nat}(m:Int)(b:H1 UInt8)(p:Nat)(hb:b.length<2^29)(hp:p<=b.length)(hw:b.length+10<w):ui w m (ah b) (p:Int)=some (if je m=true then .inl (m,ah [],ah [],ah b,(p:Int)) else match b.drop p with
 |x::y::t=>if x.toNat*256+y.toNat<2 then .inr ((p:Int),2,ah b,(p:Int)) else if b.length -p<x.toNat*256+y.toNat then .inr ((b.length:Int),3,ah b,(p:Int)) else
  .inl (m,ah ((b.drop (p+2)).take (x.toNat*256+y.toNat -2)),ah ((b.drop (p+(x.toNat*256+y.toNat))).take (if m=218 then gm (b.drop (p+(x.toNat*256+y.toNat))) else 0)),ah b,((p+(x.toNat*256+y.toNat)+(if m=218 then gm (b.drop (p+(x.toNat*256+y.toNat))) else 0):Nat):Int))
 |_=>.inr ((b.length:Int),3,ah b,(p:Int))):=by
 unfold ui;rw[N5];simp only[aB];cases ha:je m with
 |true=>rfl
 |false=>
 simp only[aD,kB,gR];rw[EG w 2 b p (by omega) hp];simp only[aB];by_cases h3:p+1<b.length
 case neg=>
  rw[ay (by omega)];have hl:(b.drop p).length<=1:=by rw[eu];omega
  split
  ·rename_i q;rw[q] at hl;simp at hl
  ·rfl
 rw[aq (by omega),cW (show p<b.length by omega),cW h3];simp only[iO];rw[Ch (by omega) b (by omega) _ _ _ (by omega),adG b p h3];simp only[aB,aU];have hx:=b[p].toNat_lt;have hy:=b[p+1].toNat_lt;generalize hn:b[p].toNat*256+b[p+1].toNat=n;by_cases c1:n<2
 ·have:((n:Int)<2):=by omega
  simp_all
 have e4:¬((n:Int)<2):=by omega
 simp only[e4,bM,aD,aq c1];rw[EG w (n:Int) b p (by omega) hp];simp only[aB];by_cases c2:b.length -p<n
 ·have:((b.length -p:Nat):Int)<(n:Int):=by omega
  rw[ay this,ay c2];rfl
 rw[aq (by omega),aq c2];simp only[iO,cf,cN];rw[aQ (n:=(p:Int)+(n:Int)) (by omega) (by omega),aQ (n:=(p:Int)+2) (by omega) (by omega),show(p:Int)+(n:Int)=((p+n:Nat):Int) by omega,show(p:Int)+2=((p+2:Nat):Int) by omega];have e6:p+n<=b.length:=by omega
 have e7:p+2<=p+n:=by omega
 simp only[bH,gA,e6,e7,aM,bd,jB,aC];rw[mS b e6,show p+n -(p+2)=n -2 by omega,rZ w _ (by rw[dk,eu];omega)];simp only[aB,bY];by_cases c3:m=218
 ·simp only[c3,bd,aC,ea];rw[mS b (aM _),eQ (by rw[eu];omega),Yl _ (by rw[eu];omega) (by rw[eu];omega)];simp only[aB];have hs:=Gh (b.drop (p+n));rw[eu] at hs;rw[aQ (by omega) (by omega),show((p+n:Nat):Int)+(gm (b.drop (p+n)):Int)=((p+n+gm (b.drop (p+n)):Nat):Int) by omega];have e8:p+n+gm (b.drop (p+n))<=b.length:=by omega
  have e9:p+n<=p+n+gm (b.drop (p+n)):=by omega
  simp only[bH,e8,e9,bd,jB,aC];rw[mS b e8,IW,rZ w _ (by rw[dk,eu];omega)];simp only[aB]
 ·simp_all;rfl
theorem step_eq{β:Type}{w:Nat}(b:H1 UInt8)(p:Nat)(hb:b.length<2^29)(hp:p<=b.length)(hw:b.length+10<w)(G:Int×Qu×Qu×Qu×Int->Zh β)(E:Int×Int×Qu×Int->Zh β):
 match lA (decide (p=0)) (b.drop p) with
 | .short=>∃q,(ob (uj w (ah b) (p:Int)) λx14=>dI x14 (λx15=>ob (ui w x15.fst x15.snd.fst x15.snd.snd) λx16=>dI x16 G E) E)=E ((b.length:Int),3,ah b,q)
 | .form k=>∃q,(ob (uj w (ah b) (p:Int)) λx14=>dI x14 (λx15=>ob (ui w x15.fst x15.snd.fst x15.snd.snd) λx16=>dI x16 G E) E)=E (((p+k:Nat):Int),2,ah b,q)
 | .last s t=>∃q:Nat,(ob (uj w (ah b) (p:Int)) λx14=>dI x14 (λx15=>ob (ui w x15.fst x15.snd.fst x15.snd.snd) λx16=>dI x16 G E) E)=G (s.bZ,ah s.data,ah s.scan,ah b,(q:Int))/\b.drop q=t/\p+2<=q/\q<=b.length/\s.bZ=217
 | .more s t=>∃q:Nat,(ob (uj w (ah b) (p:Int)) λx14=>dI x14 (λx15=>ob (ui w x15.fst x15.snd.fst x15.snd.snd) λx16=>dI x16 G E) E)=G (s.bZ,ah s.data,ah s.scan,ah b,(q:Int))/\b.drop q=t/\p+2<=q/\q<=b.length/\s.bZ≠217:=by
 rw[ajx w b p (by omega) hp];have hlen:(b.drop p).length=b.length -p:=eu;have hd2:b.drop (p+2)=(b.drop p).drop 2:=by rw[List.drop_drop]
 generalize hr:b.drop p=r at hlen hd2;cases r with
 |nil=>exact⟨_,rfl⟩
 |cons x r=>
  cases r with
  |nil=>
   dsimp only[lA];by_cases h1:x=255
   ·simp_all;exact⟨_,rfl⟩
   ·simp_all;exact⟨_,rfl⟩
  |cons m t=>
   have h2:p+2<=b.length:=by simp at hlen;omega
   dsimp only[lA];by_cases h1:x=255
   case neg=>have h1':x≠255:=h1;simp_all;exact⟨_,rfl⟩
   have h1':¬(x≠255):=λq=>q h1;simp only[aq h1'];by_cases h3:((decide (p=0)!=decide (m=216))||!(je m.toNat||lM m.toNat))=true
   ·simp_all;exact⟨_,rfl⟩
   simp only[aq h3,aB,iO];have hdt:b.drop (p+2)=t:=hd2;by_cases h4:m=217
   ·subst h4;have:je ((217:UInt8).toNat:Int)=true:=rfl;exact⟨p+2,rfl,hdt,aM _,h2,by first|rfl|trivial⟩
   simp only[aq h4];by_cases h5:m=216
   ·subst h5;have:je ((216:UInt8).toNat:Int)=true:=rfl;exact⟨p+2,rfl,hdt,aM _,h2,by decide⟩
   simp only[aq h5];have hal:je (m.toNat:Int)=false:=by
    unfold je;rw[eB]
    rintro (e|e)
    ·exact h5 (oy.1 (by have:(216:UInt8).toNat=216:=rfl;omega))
    ·exact h4 (oy.1 (by have:(217:UInt8).toNat=217:=rfl;omega))
   have h218:((m.toNat:Int)=218)=(m=218):=by
    apply propext;constructor
    ·intro q;exact oy.1 (by have:(218:UInt8).toNat=218:=rfl;omega)
    ·rintro rfl;rfl
   have hm217:(m.toNat:Int)≠217:=by intro q;exact h4 (oy.1 (by have:(217:UInt8).toNat=217:=rfl;omega))
   rw[aju _ b (p+2) hb h2 hw,hdt];simp only[hal,kB,gR,h218,aB];have htl:t.length=b.length -(p+2):=by rw[<-hdt,eu]
   cases t with
   |nil=>simp only[IA];exact⟨_,rfl⟩
   |cons a t=>
    cases t with
    |nil=>simp only[IA];exact⟨_,rfl⟩
    |cons c t=>
     simp only;generalize a.toNat*256+c.toNat=n;by_cases c1:n<2
     ·simp only[ay c1,IA];exact⟨_,rfl⟩
     simp only[aq c1];by_cases c2:(a::c::t).length<n
     ·have c2':b.length -(p+2)<n:=by omega
      simp_all;exact⟨_,rfl⟩
     have c2':¬(b.length -(p+2)<n):=by omega
     simp only[aq c2,aq c2',iO];have e1:b.drop (p+2+n)=(a::c::t).drop n:=by rw[<-hdt,List.drop_drop]
     have e2:b.drop (p+2+2)=(a::c::t).drop 2:=by rw[<-hdt,List.drop_drop]
     rw[e1,e2];have hk:(if m=218 then gm ((a::c::t).drop n) else 0)<=b.length -(p+2+n):=by have:=Gh ((a::c::t).drop n);rw[<-e1,eu] at this;rw[<-e1];split<;>omega
     refine⟨_,rfl,?_,by omega,by omega,hm217⟩;rw[<-List.drop_drop,e1]
theorem Ie{w:Nat}(b:H1 UInt8)(hb:b.length<2^28)(hw:b.length+10<w):wH w (ah b)=some (match ofM b with| .ok l e=>(dV l,(e:Int),0,0)| .bad a e=>(ae 0 [],0,(a:Int),e)):=by
 have key:∀(f:Nat)(l:H1 bJ)(p v:Nat),(b.drop p).length<f->p<=b.length->f+1<v->(p=0↔l=[])->(∀s,l.getLast? =some s->s.bZ≠217)->l.length<=p->
  ∀(z:Int->Int->Int->Qu->Int->H1 Qu->R6)(F:(Int->Int->Int->Qu->Int->H1 Qu->R6)->Int->Int->Int->Qu->Int->H1 Qu->R6),(∀g a c d e k x,F g a c d e k x=(bif aj (Int.ofNat (x.length/3)) 0 then sM w e k x g a c d else aE (ag .i64 ((Int.ofNat (x.length/3)).sub 1)) λo=>bif Nat.beq 3 3&&(o*3).blt x.length then af (List.drop (0+o*3+0) x) λp q=>aw .i64 p λr=>bif !aj r 217 then sM w e k x g a c d else bif aj k k then some (ae (x.length/3) x,k,0,0) else none else none))->
  lp z F v 0 0 0 (ah b) (p:Int) (l.flatMap cT)=some (match mu b.length f (decide (p=0)) (b.drop p) with| .ok l' e=>(dV (l++l'),(e:Int),0,0)| .bad a e=>(ae 0 [],0,(a:Int),e)):=by
  intro f;induction f with
  |zero=>intro l p v h;omega
  |succ f ih=>
   intro l p v h hp hv h0 hlast hlp z F hF;have iM:(b.drop p).length=b.length -p:=eu;have hfl:(l.flatMap cT).length=l.length*3:=cy jM l;have hr:aF (l.length*3)=true:=by simp;omega
   have hrefl:∀n:Int,aj n n=true:=λn=>by simp
   rw[eU z F (by omega),hF];have hst:=step_eq (w:=w) b p (by omega) hp hw (λk=>bif aF (l.flatMap cT).length&&(aF 1&&(List.take 3 (List.drop 0 [Value.int .i64 k.1,k.2.1,k.2.2.1])).length.beq 3) then lp z F (v -1) 0 0 0 k.2.2.2.1 k.2.2.2.2 (l.flatMap cT++List.take 3 (List.drop 0 [Value.int .i64 k.1,k.2.1,k.2.2.1])) else none) yz;have red:(bif aj (Int.ofNat ((l.flatMap cT).length/3)) 0 then sM w (ah b) p (l.flatMap cT) (lp z F (v -1)) 0 0 0 else aE (ag .i64 ((Int.ofNat ((l.flatMap cT).length/3)).sub 1)) λo=>bif Nat.beq 3 3&&(o*3).blt (l.flatMap cT).length then af (List.drop (0+o*3+0) (l.flatMap cT)) λs q=>aw .i64 s λr=>bif !aj r 217 then sM w (ah b) p (l.flatMap cT) (lp z F (v -1)) 0 0 0 else bif aj p p then some (ae ((l.flatMap cT).length/3) (l.flatMap cT),p,0,0) else none else none)=sM w (ah b) p (l.flatMap cT) (lp z F (v -1)) 0 0 0:=by
    rw[hfl,ir _ (show 0<3 by decide)];by_cases q:l=[]
    ·subst q;rfl
    ·have hpos:0<l.length:=List.length_pos_iff.2 q;have e1:aj (Int.ofNat l.length) 0=false:=by simp;omega
     rw[e1,aD,jh,bO,aQ (by omega) (by omega),lZ (by omega),show((l.length:Int) -1).toNat=l.length -1 by omega];have e2:(Nat.beq 3 3&&((l.length -1)*3).blt (l.length*3))=true:=by simp;omega
     rw[e2,aC,show 0+(l.length -1)*3+0=(l.length -1)*3 by omega,mT jM,cW (show l.length -1<l.length by omega),dG];have tg:∀(s:bJ)(r:H1 Qu),cT s++r=.int .i64 s.bZ::ah s.data::ah s.scan::r:=λ_ _=>rfl;simp only[tg,bc,bK];have hm:l[l.length -1].bZ≠217:=hlast _ (by rw[List.getLast?_eq_getElem?,cw (by omega)]);have e3:(!aj l[l.length -1].bZ 217)=true:=by simp[hm]
     rw[e3,aC]
   refine Eq.trans red ?_;clear red;unfold sM;unfold mu;generalize hs:lA (decide (p=0)) (b.drop p)=sr at hst;cases sr with
   |short=>obtain⟨q,e⟩:=hst;rw[e];unfold yz;simp only[hrefl,aC]
   |form k=>obtain⟨q,e⟩:=hst;rw[e];unfold yz;simp only[hrefl,aC];rw[iM,show b.length -(b.length -p)+k=p+k by omega]
   |last s t=>
    obtain⟨q,e,e1,e2,e3,e4⟩:=hst;rw[e];rw[hfl] at*;simp only[hr,show aF 1=true from rfl,er,ox,qa,cc,List.length_nil,eY];rw[show Nat.beq (0+1+1+1) 3=true from rfl,aC,eU z F (by omega),hF];have hfl2:(l.flatMap cT++[Value.int .i64 s.bZ,ah s.data,ah s.scan])=(l++[s]).flatMap cT:=by rw[fo,dG];rfl
    rw[hfl2];have hfl3:((l++[s]).flatMap cT).length=(l.length+1)*3:=by rw[cy jM,aP];rfl
    rw[hfl3,ir _ (show 0<3 by decide)];have e5:aj (Int.ofNat (l.length+1)) 0=false:=by simp;omega
    rw[e5,aD,jh,bO,aQ (by omega) (by omega),lZ (by omega),show(((l.length+1:Nat):Int) -1).toNat=l.length by omega];have e6:(Nat.beq 3 3&&(l.length*3).blt ((l.length+1)*3))=true:=by simp
    rw[e6,aC,show 0+l.length*3+0=l.length*3 by omega,mT jM,List.drop_left];have tg:∀(s:bJ)(r:H1 Qu),cT s++r=.int .i64 s.bZ::ah s.data::ah s.scan::r:=λ_ _=>rfl;simp only[dG,tg,bc,bK,e4];rw[show(!aj 217 217)=false from rfl,aD,hrefl,aC];have e7:b.length -t.length=q:=by rw[<-e1,eu];omega
    rw[e7]
    congr 1
    unfold dV aA;rw[aP];rfl
   |more s t=>
    obtain⟨q,e,e1,e2,e3,e4⟩:=hst;rw[e];rw[hfl] at*;simp only[hr,show aF 1=true from rfl,er,ox,qa,cc,List.length_nil,eY];rw[show Nat.beq (0+1+1+1) 3=true from rfl,aC];have hfl2:(l.flatMap cT++[Value.int .i64 s.bZ,ah s.data,ah s.scan])=(l++[s]).flatMap cT:=by rw[fo,dG];rfl
    have hdq:(b.drop q).length=b.length -q:=eu;have:=ih (l++[s]) q (v -1) (by omega) e3 (by omega) (by constructor;intro;omega;intro q;simp at q) (λs' h'=>by simp at h';rw[<-h'];exact e4) (by rw[aP];simp;omega) z F hF;rw[hfl2,this,e1];have hq0:decide (q=0)=false:=by simp;omega
    rw[hq0];cases mu b.length f false t with
    |ok l' e=>simp
    |bad a e=>rfl
 unfold wH ofM sM yz;refine Eq.trans (key (b.length+1) [] 0 w (by simp) (by omega) (by omega) (by simp) (λs h=>by simp at h) (by simp) _ _ (λ_ _ _ _ _ _ _=>rfl)) ?_;rfl
theorem NX{w:Nat}(l:H1 bJ)(p:bJ->Bool)(P:Int->Qu->Qu->Zh Bool)(hP:∀s∈l,P s.bZ (ah s.data) (ah s.scan)=some (p s))(hl:l.length<2^40)(hw:l.length<w):
 (ar (dV l) λx1=>lp (λx2 (x3 x4:Int)=>none) (λx5 (x6:Qu) (x7 x8:Int)=>bif ak x8 x7 then aE x8 λx9=>aJ 3 x9 x6 λx10=>af x10 λx11 (x12:H1 Qu)=>aw .i64 x11 λx13=>af x12 λx14 (x15:H1 Qu)=>af x15 λx16 (x17:H1 Qu)=>ob (P x13 x14 x16) λx18=>bif x18 then some x8 else x5 x6 x7 (ag .i64 (x8.add 1)) else some (-1)) w (dV l) (Int.ofNat x1) 0)=some (dD p l):=by
 refine mX l p (ev:=λi (g:Qu->Int->Int->Zh Int)=>g (aA cT l) l.length i) ?_ ?_ hw
 ·intro i g h;simp_all;rw[bu jM h];simp[(show∀(s:bJ)(r:H1 Qu),cT s++r=.int .i64 s.bZ::ah s.data::ah s.scan::r fromλ_ _=>rfl)];rw[hP _ (cx h),aQ (by omega) (by omega)];simp
 simp
theorem KN{α:Type}(p:α->Bool)(l:H1 α):(!decide (dD p l<0))=l.any p:=by
 have:=xL p l;cases h:l.any p with
 |true=>grind
 |false=>grind
theorem ajj{w:Nat}(l:H1 bJ)(hl:l.length<2^40)(hw:l.length<w):Gm w (dV l)=some (l.any λs=>s.bZ==218):=by unfold Gm Oq;rw[NX l (λs=>s.bZ==218) (G4 w) (λs _=>by unfold G4;rw[bY];rfl) hl hw];simp[KN]
theorem ajn(w:Nat)(m:Int)(a b:Qu):B1 w m a b=some (qe m):=by
 unfold B1 Ov qe;by_cases h1:m<224
 ·have:¬(224<=m/\m<=239):=by omega
  simp_all
 ·by_cases h2:m<240
  ·have:(224<=m/\m<=239):=by omega
   simp[h1,h2,this]
  ·have:¬(224<=m/\m<=239):=by omega
   simp[h2,this]
theorem aji{w:Nat}(l:H1 bJ)(hl:l.length<2^40)(hw:l.length<w):Gp w (dV l)=some (l.any λs=>qe s.bZ):=by unfold Gp Ot;rw[NX l (λs=>qe s.bZ) (B1 w) (λs _=>ajn w _ _ _) hl hw];simp[KN]
theorem EP(L:Nat):∀(f:Nat)(first:Bool)(r:H1 UInt8)(l:H1 bJ)(e:Nat),mu L f first r=.ok l e->l.length<=f
 |0,_,_,_,_,h=>by cases h
 |f+1,first,r,l,e,h=>by
  unfold mu at h;split at h
  ·grind
  ·grind
  ·grind
  ·split at h
   ·rename_i q;cases h;have:=EP L f _ _ _ _ q;simp_all
   grind
theorem Pn{w:Nat}(b:H1 UInt8)(hb:b.length<2^28)(hw:b.length+10<w):ze w (ah b)=some (nJ b):=by
 unfold ze N1 nJ;rw[Ie b hb hw];cases h:ofM b with
 |bad a e=>
  have he:e≠0:=by
   have:∀(L f:Nat)(first:Bool)(r:H1 UInt8)(a:Nat)(e:Int),r.length<f->mu L f first r=.bad a e->e≠0:=by
    intro L f;induction f with
    |zero=>omega
    |succ f ih=>
     intro first r a e hr h
     unfold mu at h;split at h
     ·cases h;decide
     ·cases h;decide
     ·cases h
     ·rename_i s t hs;split at h
      ·cases h
      ·refine ih false t a e ?_ h;cases first with
       |true=>
        obtain⟨h1,h2⟩:=XJ hs;have hs2:2<=(dt s).length:=by unfold dt;split<;>simp<;>omega
        have:=bX List.length h2;rw[aP] at this;omega
       |false=>
        obtain⟨h1,h2⟩:=XK hs;have hs2:2<=(dt s).length:=by unfold dt;split<;>simp<;>omega
        have:=bX List.length h2;rw[aP] at this;omega
   exact this _ _ _ _ _ _ (by omega) h
  simp_all
 |ok l e=>
  have hl:=EP _ _ _ _ _ _ h;have he:=(Um h).2.1;simp only[aB,aD,cN,aU,bO];by_cases h1:e=b.length
  ·have e1:¬((b.length:Int)<(b.length:Int)):=by omega
   simp_all;rw[ajj l (by omega) (by omega)];cases l.any (λs=>s.bZ==218) with
   |false=>rfl
   |true=>
    simp;rw[aji l (by omega) (by omega)];simp only[aB]
    congr 1
    rw[List.not_any_eq_all_not]
  ·have e1:((e:Int)<(b.length:Int)):=by omega
   simp only[e1,bd,aC,h1,aB];rfl
theorem C3:∀l:H1 UInt8,pU (l.map bh)=some (l.map λb=>(b.toNat:Int))
 |[]=>rfl
 |b::l=>by show ob (pU (l.map bh)) _=_;rw[C3 l];rfl
theorem EE(l:H1 UInt8):(mkStr (l.map λb=>(b.toNat:Int))).data.toList=l:=by
 unfold mkStr;simp
 conv=>rhs;rw[<-List.map_id l]
 apply List.map_congr_left;simp
theorem alj(w:Nat)(a b:H1 UInt8):Ic w (ah a) (ah b)=some (decide (a=b)):=by
 unfold Ic;rw[iL,iR,C3];simp;rw[iL,iR,C3];simp;rw[EE,EE,Dz]
 grind
theorem B4(w:Nat)(a p:H1 UInt8):yE w (ah a) (ah p)=some (p.isPrefixOf a):=by
 unfold yE;simp only[cN,aU,bO];by_cases h:p.length<=a.length
 ·have e1:¬((a.length:Int)<(p.length:Int)):=by omega
  simp only[e1,aC,gA,h];rw[mS a h,alj];simp
  congr 1
  rw[iD,cm,qL];constructor
  ·intro q;rw[<-q];exact List.take_prefix _ _
  ·intro q;exact(List.prefix_iff_eq_take.1 q).symm
 ·have e1:((a.length:Int)<(p.length:Int)):=by omega
  simp only[e1,bd,bW,aD]
  congr 1
  rw[eq_comm,Bool.eq_false_iff];intro q;exact h (List.IsPrefix.length_le (qL.1 q))
theorem Po(w:Nat)(a:H1 UInt8):CH w (ah a)=some (gG.isPrefixOf a):=by unfold CH BP;have:ae 4 (List.drop 0 [Value.int IntKind.u8 77,Value.int IntKind.u8 80,Value.int IntKind.u8 70,Value.int IntKind.u8 0])=ah gG:=rfl;rw[this,B4];rfl
theorem akg{w:Nat}(s:bJ)(h1:s.scan.length<2^60)(hw:s.scan.length<w):G6 w s.bZ (ah s.data) (ah s.scan)=some (nh s):=by
 unfold G6 nh;rw[Ym,Yl _ h1 hw];simp only[aB,cN,aU,bO,bY];cases lM s.bZ with
 |false=>rfl
 |true=>
  by_cases c1:s.data.length<=65533
  ·have e1:¬((65533:Int)<(s.data.length:Int)):=by omega
   simp only[e1,bM,fH,aC,c1];by_cases c2:s.scan.length=0
   ·have e2:((s.scan.length:Int)=0):=by omega
    rw[mV c2];rfl
   ·have e2:¬((s.scan.length:Int)=0):=by omega
    have e3:s.scan.isEmpty=false:=by
     cases q:s.scan with
     |nil=>rw[q] at c2;exact absurd rfl c2
     |cons _ _=>rfl
    simp only[e2,bM,aD,e3,zJ];by_cases c3:s.bZ=218
    ·simp only[c3,bd,aC,eY]
     congr 1
     rw[iD,cm,cm];omega
    ·simp_all
  ·have e1:((65533:Int)<(s.data.length:Int)):=by omega
   simp[e1,bd,bW,aD,c1,bM]
theorem Yn(w:Nat)(s:bJ)(m:Int)(h1:s.data.length+s.scan.length<2^60):Cp w s.bZ (ah s.data) (ah s.scan) m=some (ma s m):=by
 unfold Cp ma;simp_all;rw[aQ (by omega) (by omega)];by_cases c1:s.bZ=m
 ·simp_all
  congr 1
  rw[iD,cm,bt,List.isEmpty_iff,List.isEmpty_iff];constructor
  ·intro q;exact⟨mV (by omega),mV (by omega)⟩
  grind
 grind
theorem Ll:∀(t:H1 bJ),jw t=true↔∃(h:t≠[]),ma (t.getLast h) 217=true/\∀s∈t.dropLast,nh s=true
 |[]=>by simp[jw]
 |[s]=>by simp[jw]
 |s::s'::t=>by
  simp only[jw,bt,(Ll (s'::t))]
  grind
def xh(l:H1 bJ)(m:Nat):Prop:=∀s∈l,s.data.length+s.scan.length<=m
theorem ajy{w m:Nat}(l:H1 bJ)(hm:m<2^59)(hs:xh l m)(hl:l.length<2^40)(hw:l.length<w/\m<w)(h:mZ l=true):Gy w (dV l)=some true:=by
 cases l with
 |nil=>cases h
 |cons s t=>
  simp[mZ] at h;obtain⟨h1,h2⟩:=h;obtain⟨cA,h3,h4⟩:=(Ll t).1 h2;have hpos:=List.length_pos_iff.2 cA;have hlr:∀K:Nat->Zh Bool,ar (dV (s::t)) K=K (t.length+1):=λK=>bU cT (s::t) K;have tg:∀(s:bJ)(r:H1 Qu),cT s++r=.int .i64 s.bZ::ah s.data::ah s.scan::r:=λ_ _=>rfl;unfold Gy;simp at hl hw;simp only[hlr,jh,bO];rw[aQ (by omega) (by omega)];have e1:¬((t.length:Int)<1):=by omega
  simp[e1];unfold dV;rw[bu jM (show 0<(s::t).length by simp)];simp_all;have b1:=hs s (by simp);rw[Yn w s 216 (by omega)];rw[bu jM (show t.length<(s::t).length by simp)];have e2:(s::t)[t.length]=t.getLast cA:=by rw[List.getLast_eq_getElem];simp only[List.getElem_cons];rw[dif_neg (by omega)]
  simp_all;have b2:=hs (t.getLast cA) (by simp);rw[Yn w _ 217 (by omega)];have e4:1<=t.length:=hpos;simp_all;rw[r8 jM (s::t) (show t.length<=(s::t).length by simp)];have e5:((s::t).drop 1).take (t.length -1)=t.dropLast:=by rw[List.drop_one,List.tail_cons,List.dropLast_eq_take]
  rw[e5];unfold N3 Ou;have:=NX (w:=w) t.dropLast (λs=>!nh s) (G5 w) (λx hx=>by unfold G5;have b3:=hs x (by simp[(λx hx=>List.dropLast_subset t hx) x hx]);rw[akg x (by omega) (by omega)];rfl) (by rw[List.length_dropLast];omega) (by rw[List.length_dropLast];omega);unfold dV at this;rw[this];simp only[aB,aU,KN];have:(t.dropLast.any λs=>!nh s)=false:=by rw[List.any_eq_false];intro x hx;rw[h4 x hx];simp
  rw[this];rfl
theorem P5{l:H1 bJ}(h:mZ l=true){s:bJ}(hs:s∈l):0<=s.bZ/\s.bZ<256/\(je s.bZ=true->s.data=[]/\s.scan=[])/\s.data.length<=65533:=by
 cases l with
 |nil=>grind
 |cons a t=>
  simp[mZ] at h;obtain⟨h1,h2⟩:=h;obtain⟨cA,h3,h4⟩:=(Ll t).1 h2;have bare:∀(x:bJ)(m:Int),ma x m=true->x.bZ=m/\x.data=[]/\x.scan=[]:=λx m q=>by unfold ma at q;simp_all
  rcases cX.1 hs with rfl|hs
  ·grind
  ·have:=List.dropLast_concat_getLast cA;rw[<-this] at hs;rcases fQ.1 hs with hs|hs
   ·have q:=h4 s hs;unfold nh lM at q
    grind
   grind
theorem ag5(n:Nat):aY n 2 2=[UInt8.ofNat (n/256%256),UInt8.ofNat (n%256)]:=rfl
theorem YQ{w m:Nat}(A:Hand w)(l:H1 bJ)(hm:m<2^27)(hs:xh l m)(hl:l.length<2^27)(hw:l.length<w/\m<w/\20<=w)(h:mZ l=true)(hb:(dA l).length<2^28):wI w (dV l)=some (ah (dA l),0):=by
 unfold wI;rw[ajy l (by omega) hs (by omega) ⟨hw.1,hw.2.1⟩ h];have hlr:∀K:Nat->Zh (Qu×Int),ar (dV l) K=K l.length:=λK=>bU cT l K;rw[hlr];unfold dV;refine nQ (σ:=H1 UInt8) (ev:=λi s (g:Qu->Int->Int->H1 Qu->Zh (Qu×Int))=>g (aA cT l) l.length i (s.map bh)) (Inv:=λi s=>s++dA (l.drop i)=dA l) l.length [] ?_ ?_ ?_ (by omega)
 ·rfl
 ·rintro i g s hi hI
  rw[cW hi,mH] at hI;refine⟨s++dt l[i],by rw[<-hI,ed],?_⟩;have hmem:=cx hi;obtain⟨m1,m2,m3,m4⟩:=P5 h hmem;have hsz:=hs _ hmem;have e1:((i:Int)<(l.length:Int)):=by omega
  have hlen:=bX List.length hI;simp only[aP] at hlen;simp only[aU,e1,bd,aC,bH];rw[bu jM hi];have tg:∀(s:bJ)(r:H1 Qu),cT s++r=.int .i64 s.bZ::ah s.data::ah s.scan::r:=λ_ _=>rfl;simp only[tg,bc,bK];have hw8:ag IntKind.u8 l[i].bZ=((UInt8.ofNat l[i].bZ.toNat).toNat:Int):=by rw[py,IntKind.wrap_u8,w7];omega
  have e2:Value.int IntKind.u8 255=bh 255:=rfl;have e3:Value.int IntKind.u8 ((UInt8.ofNat l[i].bZ.toNat).toNat:Int)=bh (UInt8.ofNat l[i].bZ.toNat):=rfl;have r1:aF s.length=true:=by simp;omega
  simp only[hw8,e2,e3,cH,r1,show aF 2=true from rfl,er,ox,qa,cc,List.length_nil,eY];rw[show Nat.beq (0+1+1) 2=true from rfl,aC,N5];simp only[aB,cN,cf,bO];rw[aQ (n:=(i:Int)+1) (by omega) (by omega)];cases ha:je l[i].bZ with
  |true=>
   simp only[aC];have:dt l[i]=[255,UInt8.ofNat l[i].bZ.toNat]:=by unfold dt;rw[ay ha]
   rw[this,fY];rfl
  |false=>
   simp only[aD];have hsb:dt l[i]=[255,UInt8.ofNat l[i].bZ.toNat]++(aY (l[i].data.length+2) 2 2++(l[i].data++l[i].scan)):=by unfold dt;rw[ha,ag5,qO (show(l[i].data.length+2)/256<256 by omega)];simp
   rw[aQ (n:=(l[i].data.length:Int)+2) (by omega) (by omega),sR (by omega),ay (show gk 2 2=true from rfl)];have hp:pN ((l[i].data.length:Int)+2) (2:Int).toNat 2=some (aY (l[i].data.length+2) 2 2):=by
    unfold pN;rw[ay ⟨by omega,by show _<((256^2:Nat):Int);omega⟩]
    congr 1
   rw[hp];simp only[aB];have hc:=A.cat (aY (l[i].data.length+2) 2 2) l[i].data l[i].scan (s++[255,UInt8.ofNat l[i].bZ.toNat]) (by rw[eL];omega) (by rw[eL,aP];simp only[cc,List.length_nil];omega);rw[fY] at hc;have hc:uk w (ah (aY (l[i].data.length+2) 2 2)) (ah l[i].data) (ah l[i].scan) (s.map bh++[bh 255,bh (UInt8.ofNat l[i].bZ.toNat)])=_:=hc;rw[hc];simp only[aB];rw[hsb];simp only[ed];rfl
 ·rintro g s hI
  rw[rN] at hI;simp only[dA,lH,dP] at hI;subst hI;have e1:¬((l.length:Int)<(l.length:Int)):=by omega
  simp only[aU,e1,bM,aD];rw[vc _ _ (by rw[kG,cH])];rfl
noncomputable def T9(w:Nat)(rest ch:Qu)(cs:H1 Qu):Zh (Qu×Int):=
 ar ch λ(x31:Nat)=>lp (λ(x32 x33:Qu)(x34 x35:Int)(x36:H1 Qu)=>none) (λ(x37:Qu->Qu->Int->Int->H1 Qu->Zh (Qu×Int))(x38 x39:Qu)(x40 x41:Int)(x42:H1 Qu)=>bif ak x41 x40 then aE x41 λ(x43:Nat)=>aJ 1 x43 x39 λ(x44:H1 Qu)=>af x44 λ(x45:Qu)(x46:H1 Qu)=>ob (zf w 226 x45 x42) λ(x47:H1 Qu)=>x37 x38 x39 x40 (ag .i64 (x41.add 1)) x47 else ar x38 λ(x48:Nat)=>bif x48.ble x48&&Nat.ble 1 x48 then gC 3 1 x48 x38 λ(x49:Qu)=>dN 3 x49 λ(x50:Nat)(x51:H1 Qu)=>bif aF x42.length&&(aF x50&&x51.length.beq (x50*3)) then ob (wI w (ae ((x42++x51).length/3) (x42++x51))) λ(x52:Qu×Int)=>some (x52.fst,x52.snd) else none else none) w rest ch (Int.ofNat x31) 0 cs
theorem aak(l:H1 UInt8):(cV l).length=1:=rfl
theorem XL(l:H1 bJ):ae ((l.flatMap cT).length/3) (l.flatMap cT)=dV l:=by unfold dV aA;rw[cy jM,ir _ (show 0<3 by decide)]
theorem YP(w:Nat)(m:Int)(d:H1 UInt8)(P:H1 bJ)(h:P.length<300000000):zf w m (ah d) (P.flatMap cT)=some ((P++([⟨m,d,[]⟩]:H1 bJ)).flatMap cT):=by unfold zf BR;simp only[(cy jM P),(show aF (P.length*3)=true from by simp;omega)];rw[fo];rfl
theorem ady{w m:Nat}(A:Hand w)(s0:bJ)(r P:H1 bJ)(ch:H1 (H1 UInt8))(L:H1 bJ)(hL:L=P++(ch.map (λc=>⟨226,c,[]⟩)++r))(hm:m<2^27)(hs:xh L m)(hl:L.length<2^27)(hw:L.length<w/\m<w/\20<=w)(h:mZ L=true)(hb:(dA L).length<2^28):T9 w (dV (s0::r)) (aA cV ch) (P.flatMap cT)=some (ah (dA L),0):=by
 have hLl:L.length=P.length+(ch.length+r.length):=by rw[hL];simp
 unfold T9;refine nQ (σ:=H1 bJ) (ev:=λi s (g:Qu->Qu->Int->Int->H1 Qu->Zh (Qu×Int))=>g (dV (s0::r)) (aA cV ch) ch.length i (s.flatMap cT)) (Inv:=λi s=>s++((ch.drop i).map (λc=>⟨226,c,[]⟩)++r)=L) ch.length P ?_ ?_ ?_ (by omega)
 ·rw[er,<-hL]
 ·rintro i g s hi hI
  rw[cW hi,ij] at hI;refine⟨s++[⟨226,ch[i],[]⟩],by rw[<-hI];simp,?_⟩;have hlen:=bX List.length hI;simp at hlen;have e1:((i:Int)<(ch.length:Int)):=by omega
  simp only[aU,e1,aC,bH];rw[bu aak hi];have tg:∀(b:H1 UInt8)(r:H1 Qu),cV b++r=ah b::r:=λ_ _=>rfl;simp only[tg,bc];rw[YP w 226 ch[i] s (by omega)];simp only[cf];rw[aQ (by omega) (by omega)];rfl
 ·rintro g s hI
  simp at hI;have hlen:=bX List.length hI;simp at hlen;have e1:¬((ch.length:Int)<(ch.length:Int)):=by omega
  simp only[aU,e1,aD];have hlr:∀K:Nat->Zh (Qu×Int),ar (dV (s0::r)) K=K (r.length+1):=λK=>bU cT (s0::r) K;simp only[hlr,gA,(by omega),aM,bd,jB,aC];unfold dV;rw[r8 jM (s0::r) (show r.length+1<=(s0::r).length by simp)];have e3:((s0::r).drop 1).take (r.length+1 -1)=r:=by simp
  rw[e3,vw jM];have hf2:(r.flatMap cT).length=r.length*3:=cy jM r;have r1:aF (s.length*3)=true:=by simp;omega
  have r2:aF r.length=true:=by simp;omega
  rw[(cy jM s),hf2,r1,r2,nv];rw[<-fo,hI,XL,YQ A L hm hs hl hw h hb];rfl
theorem NY:∀{r:H1 bJ}{s:bJ},s∈r->(dt s).length<=(dA r).length
 |[],s,h=>by grind
 |a::r,s,h=>by
  rw[mH,aP];rcases cX.1 h with rfl|h
  ·simp
  ·have:=NY h;omega
theorem Yx{w m:Nat}(W:cZ w){x:oA}{aT:H1 UInt8}(h:xe x aT)(hx:jR x.aG 9000)(hm:m<2^24)(hc:x.core.length<=m/\x.cg.length<=m/\x.cO.length<=m)(hw:2*m+200000<w)(a b:Int):
 yX w x.aG.order (au x.aG.cu) (au x.aG.bG) (au x.aG.bN) (au x.aG.bm) (au x.aG.first) (ah x.aG.bF) (ah x.aG.cP) (ah x.cg) (ah x.core) (ah x.cO) a b=some (ah (fj x aT),0):=by
 have hb:=W.kH;have hA:=W.hand;obtain⟨-,hp1,hp2,hp3,-⟩:=Ab h.app h.rows;obtain⟨r,c1,c2,c3,c4,c5,c6⟩:=DK h.core;have hmayL:=KO h.core hp2 h.cg (by rcases h.cO with q|q;omega;exact q.2);have hcl:(⟨216,[],[]⟩::r:H1 bJ).length<=x.core.length+1:=EP _ _ _ _ _ _ c1;have hrl:r.length<=x.core.length:=by simpa using hcl
 have hchl:(gD x.cg).length<=1:=by unfold gD;split<;>simp
 have hLdef:jK x aT=[⟨216,[],[]⟩,⟨225,aT,[]⟩]++((if x.cO.length=0 then[] else[⟨226,x.cO,[]⟩])++((gD x.cg).map (λc=>⟨226,c,[]⟩)++r)):=by unfold jK;rw[c2];rfl
 have hLl:(jK x aT).length<=x.core.length+4:=by rw[hLdef];simp only[aP,cH,cc,List.length_nil];split<;>simp<;>omega
 have hwr:∀s∈r,(dt s).length<=x.core.length:=by intro s hs;have:=bX List.length c4;rw[mH,aP] at this;have hle:=NY hs;omega
 have hmayC:mZ (⟨216,[],[]⟩::r)=true:=by show(true&&jw r)=true;rw[c3];rfl
 have hsegs:xh (jK x aT) (m+70000):=by
  intro s hs;rw[hLdef] at hs;rcases fQ.1 hs with hs|hs
  ·simp only[cX,nu,nA] at hs;rcases hs with rfl|rfl
   ·simp
   ·simp only[List.length_nil];omega
  ·rcases fQ.1 hs with hs|hs
   ·split at hs
    ·cases hs
    ·rw[nt.1 hs];simp only[List.length_nil];omega
   ·rcases fQ.1 hs with hs|hs
    ·obtain⟨c,hc',rfl⟩:=mK.1 hs;have:=Q4 h.cg hc';simp only[List.length_nil];omega
    ·have h1:=hwr s hs;by_cases ha:je s.bZ=true
     ·obtain⟨-,-,q,-⟩:=P5 hmayC (lU _ hs);obtain⟨q1,q2⟩:=q ha;rw[q1,q2];simp
     ·unfold dt at h1;rw[aq ha] at h1;simp at h1;omega
 have hwl:(dA (jK x aT)).length<2^28:=by
  have e:dA (jK x aT)=dt ⟨216,[],[]⟩++(dt ⟨225,aT,[]⟩++(dA (if x.cO.length=0 then[] else[⟨226,x.cO,[]⟩])++(dA ((gD x.cg).map (λc=>⟨226,c,[]⟩))++dA r))):=by rw[hLdef];simp[dA]
  have k1:(dt ⟨216,[],[]⟩).length=2:=rfl;have k2:(dt ⟨225,aT,[]⟩).length<=aT.length+4:=by unfold dt;split<;>simp<;>omega
  have k3:(dA (if x.cO.length=0 then[] else[⟨226,x.cO,[]⟩])).length<=x.cO.length+4:=by
   split
   ·simp[dA]
   ·simp only[dA,dG,lH,dP];unfold dt;split<;>simp<;>omega
  have k4:(dA ((gD x.cg).map (λc=>⟨226,c,[]⟩))).length<=x.cg.length+30:=by
   unfold gD;split
   ·simp[dA]
   ·simp[dA];unfold dt;split<;>simp[fT]<;>omega
  have k5:(dA r).length<=x.core.length:=by have:=bX List.length c4;rw[mH,aP] at this;omega
  rw[e];simp only[aP,k1];omega
 have hcut:=hA.cut x.cg h.cg;have h32:=Pd W hx;rw[h.app] at h32;have hmb:x.core.length<2^28:=by omega
 have h50:=Pn (w:=w) x.core hmb (by omega);rw[h.core] at h50;have h52:=Ie (w:=w) x.core hmb (by omega);rw[c1] at h52;have ix0:∀(K:H1 Qu->Zh (Qu×Int)),aJ 3 0 (dV (⟨216,[],[]⟩::r)) K=K (.int .i64 216::ah []::ah []::r.flatMap cT):=by intro K;unfold dV;rw[bu jM (show 0<(⟨216,[],[]⟩::r:H1 bJ).length by simp)];rfl
 have h53:Pp w 225 (ah aT) [Value.int .i64 216,ah [],ah []]=some ([⟨216,[],[]⟩,⟨225,aT,[]⟩].flatMap cT):=rfl;have fin:=λP hL=>ady (m:=m+70000) hA ⟨216,[],[]⟩ r P (gD x.cg) (jK x aT) hL (by omega) hsegs (by omega) ⟨by omega,by omega,by omega⟩ hmayL hwl;unfold yX NI NR;rw[h32];simp only[aB,show aj 0 0=true from rfl,bW,aD];rw[hcut];simp only[aB,show aj 0 0=true from rfl,bW,aD];rw[h50];simp only[aB,bW,aD,cN];by_cases hmp:x.cO.length=0
 ·have e1:ak 0 (Int.ofNat x.cO.length)=false:=by rw[hmp];rfl
  have e2:ak 65533 (Int.ofNat x.cO.length)=false:=by rw[hmp];rfl
  simp only[e1,e2,aD];rw[h52];simp only[aB,ix0,bc,bK];rw[h53];simp only[aB];exact fin _ (by rw[hLdef,ay hmp];rfl)
 ·have e1:ak 0 (Int.ofNat x.cO.length)=true:=by simp;omega
  obtain⟨m1,m2⟩:=h.cO.resolve_left hmp;have e2:ak 65533 (Int.ofNat x.cO.length)=false:=by simp;omega
  simp only[e1,aC];rw[Po,m1];simp only[aB,bW,aD,e2];rw[h52];simp only[aB,ix0,bc,bK];rw[h53];simp only[aB];rw[YP w 226 x.cO _ (by simp)];simp only[aB];exact fin _ (by rw[hLdef,aq hmp];simp)
def eP(T:H1 Nat):H1 Qu:=T.map λn:Nat=>.int .u64 (n:Int)
theorem ZR{T:H1 Nat}{i:Nat}(h:i<T.length):(eP T).drop i=.int .u64 (T[i]:Int)::eP (T.drop (i+1)):=by unfold eP;rw[<-List.map_drop,cW h,ij]
def DB(T:H1 Nat)(p:Nat):Bool:=((T[p/64]?).getD 0).testBit (p%64)
def gF(S:H1 bo)(p:Nat):Bool:=S.any λs=>decide (s.at_<=p/\p<s.at_+s.cG)
structure Tk(T:List Nat)(L:Nat)(P:Nat->Bool):Prop where
 len:T.length=L/64+1
 lt:∀n∈T,n<2^64
 bit:∀p,p<L->DB T p=P p
theorem TM(p:Nat)(hp:p<2^60):ag IntKind.u64 (((BitVec.ofInt 64 (ag IntKind.u64 (p:Int))&&&BitVec.ofInt 64 63).toNat:Nat):Int)=((p%64:Nat):Int):=by
 rw[tw (n:=(p:Int)) (by simp) (by omega)];have e:(BitVec.ofInt 64 (p:Int)&&&BitVec.ofInt 64 63).toNat=p%64:=by rw[BitVec.ofInt_natCast,BitVec.toNat_and,BitVec.toNat_ofNat,qO (by omega)];exact Nat.and_two_pow_sub_one_eq_mod p 6
 rw[e];exact tw (by omega) (by omega)
theorem aae(n k:Nat)(hn:n<2^64)(hk:k<64):aj (((BitVec.ofInt 64 ((n:Int).fdiv (2^min ((k:Int)).toNat 64))&&&BitVec.ofInt 64 1).toNat:Nat):Int) 1=n.testBit k:=by
 rw[nq,lI (by omega)];have e:(n:Int).fdiv (2^k)=((n/2^k:Nat):Int):=by grind
 rw[e,BitVec.ofInt_natCast,bY]
 grind
theorem or_eq(n k:Nat)(hn:n<2^64)(hk:k<64):ag IntKind.u64 (((BitVec.ofInt 64 (n:Int)|||BitVec.ofInt 64 (ag IntKind.u64 (Int.mul 1 (2^min ((k:Int)).toNat 64)))).toNat:Nat):Int)=((n|||2^k:Nat):Int)/\n|||2^k<2^64:=by have hk2:2^k<2^64:=Nat.pow_lt_pow_right (by simp) hk;have hor:=Nat.or_lt_two_pow hn hk2;refine⟨?_,hor⟩;rw[nq,lI (by omega),pH,Int.one_mul,(show(2:Int)^k=((2^k:Nat):Int) from(Int.natCast_pow 2 k).symm),tw (n:=((2^k:Nat):Int)) (Int.natCast_nonneg _) (by grind),BitVec.ofInt_natCast,BitVec.ofInt_natCast,BitVec.toNat_or,BitVec.toNat_ofNat,BitVec.toNat_ofNat,qO hn,qO hk2];exact tw (by simp) (by omega)
theorem JS(p:Nat)(hp:p<2^60):(p:Int).fdiv (2^6)=((p/64:Nat):Int):=by grind
theorem ak6(w:Nat){T:H1 Nat}{L:Nat}{P:Nat->Bool}(H:Tk T L P)(hL:L<2^50)(p:Nat)(hp:p<L)(b:Qu)(o:Int)(sh:Qu)(c:Nat)(no so:Int)(S:H1 Qu):
 HY w (p:Int) b o sh T.length c no so (eP T) S=some (P p,b,o,sh,T.length,c,no,so,eP T,S):=by
 have hlt:p/64<T.length:=by rw[H.len];omega
 have hb:=H.bit p hp;unfold DB at hb;rw[cw hlt,qP] at hb;unfold HY yx;rw[JS p (by omega)];simp only[bH,mQ,hlt,bd,aC,gy,fI];rw[ZR hlt];simp only[bc,bK];rw[(TM p (by omega))];simp only[aU,(show¬(((p%64:Nat):Int)<0) from by omega),bM,aD];have hx:=aae T[p/64] (p%64) (H.lt _ (cx hlt)) (by omega);rw[hb] at hx;have hle:(BitVec.ofInt 64 ((T[p/64]:Int).fdiv (2^min (((p%64:Nat):Int)).toNat 64))&&&BitVec.ofInt 64 1).toNat<=1:=by rw[BitVec.toNat_and];have:(BitVec.ofInt 64 1).toNat=1:=rfl;rw[this,Nat.and_one_is_mod];omega
 rw[(λz hz=>tw (by omega) (by omega)) _ hle,hx]
theorem ai5{T:H1 Nat}{L:Nat}{P:Nat->Bool}(H:Tk T L P){p:Nat}(hp:p<L):Tk (T.set (p/64) ((T[p/64]?).getD 0|||2^(p%64))) L (λq=>P q||decide (q=p)):=by
 have hlt:p/64<T.length:=by rw[H.len];omega
 have hw:(T[p/64]?).getD 0<2^64:=by rw[cw hlt];exact H.lt _ (cx hlt)
 refine⟨by rw[List.length_set,H.len],λn hn=>?_,λq hq=>?_⟩
 ·rcases List.mem_or_eq_of_mem_set hn with h|h
  ·exact H.lt n h
  ·rw[h];exact Nat.or_lt_two_pow hw (Nat.pow_lt_pow_right (by simp) (by omega))
 ·have hb:=H.bit q hq;unfold DB at hb⊢
  grind
theorem Hw{w:Nat}{T:H1 Nat}{L:Nat}{S S':H1 bo}{x:bo}(H:Tk T L (gF S))(hL:L<2^50)(hw:L+2<w)(ht:lE L S x=.ok S')(hS:S.length<100000000)(b:H1 UInt8)(hb:b.length=L)(o:Int)(sh:Qu)(c:Nat)(no so:Int):
 S'=S++[x]/\∃T',Tk T' L (gF S')/\T'.length=T.length/\rD w x.oq x.dir x.tag (x.at_:Int) (x.cG:Int) (ah b) o sh T.length c no so (eP T) (S.flatMap cd)=some (.inl (ah b,o,sh,T.length,c,no,so,eP T',S'.flatMap cd)):=by
 unfold lE at ht;split at ht
 case isFalse=>cases ht
 rename_i h1;split at ht
 ·cases ht
 rename_i h2;injection ht with ht;subst ht;refine⟨rfl,?_⟩;obtain⟨he,hr⟩:=h1;have hcl:∀q,x.at_<=q->q<x.at_+x.cG->gF S q=false:=by intro q q1 q2;unfold gF;rw[List.any_eq_false];intro s hs;simp only[cm];intro hq;apply h2;unfold DH;rw[List.any_eq_true];exact⟨s,hs,by simp only[cm];omega⟩
 have hfin:∀q,(gF (S++[x]) q)=(gF S q||decide (x.at_<=q/\q<x.at_+x.cG)):=by intro q;unfold gF;rw[List.any_append];simp
 have H0:Tk T L (λq=>gF S q||decide (x.at_<=q/\q<x.at_+0)):=by
  refine⟨H.len,H.lt,λq hq=>?_⟩;rw[H.bit q hq];have:decide (x.at_<=q/\q<x.at_+0)=false:=by simp
  rw[this,Bool.or_false]
 unfold rD NN NQ yx;have hmod:(x.at_:Int).tmod 2=0:=by rw[Int.tmod_eq_emod_of_nonneg (by omega)];omega
 rw[hmod];simp only[show aj 0 0=true from rfl,aC,cN];rw[HU w ⟨by simp only[o5];omega,by simp only[o5];omega⟩ (by omega)];have hroom:(0<=(x.at_:Int)/\0<=(x.cG:Int)/\(x.at_:Int)<=Int.ofNat b.length/\(x.cG:Int)<=Int.ofNat b.length -(x.at_:Int)):=by simp only[o5];omega
 simp only[aB,hroom,and_self,bd];have h232:fm w true 4=some (.inl ()):=rfl;rw[h232];simp only[aB,iO];generalize hG:lp _ _=G;have hF:=adj hG;clear hG;have key:∀(d k v:Nat)(T:H1 Nat),k+d=x.cG->d<v->Tk T L (λq=>gF S q||decide (x.at_<=q/\q<x.at_+k))->
  ∃T',Tk T' L (gF (S++[x]))/\T'.length=T.length/\G v ((x.at_+k:Nat):Int) (ah b) o sh T.length c no so x.oq x.dir x.tag (x.at_:Int) (x.cG:Int) (eP T) (S.flatMap cd)=some (.inl (ah b,o,sh,T.length,c,no,so,eP T',(S++[x]).flatMap cd)):=by
  intro d;induction d with
  |zero=>
   intro k v T hk hv HT;obtain⟨u,rfl⟩:∃u,v=u+1:=⟨v -1,by omega⟩;refine⟨T,⟨HT.len,HT.lt,λq hq=>?_⟩,rfl,?_⟩
   ·rw[HT.bit q hq,hfin,show k=x.cG by omega]
   ·simp only[hF];rw[cf,aQ (by omega) (by omega)];have e1:¬(((x.at_+k:Nat):Int)<(x.at_:Int)+(x.cG:Int)):=by omega
    have hr1:aF (S.length*5)=true:=by simp;omega
    simp only[aU,e1,bM,aD,wL,hr1,show aF 1=true from rfl,er,ox,qa,cc,List.length_nil,eY];rw[show Nat.beq (0+1+1+1+1+1) 5=true from rfl,aC,fo];rfl
  |succ d ih=>
   intro k v T hk hv HT;obtain⟨u,rfl⟩:∃u,v=u+1:=⟨v -1,by omega⟩;have hpL:x.at_+k<L:=by omega
   have hlt:(x.at_+k)/64<T.length:=by rw[HT.len];omega
   have H2:=ai5 HT hpL;have H3:Tk (T.set ((x.at_+k)/64) ((T[(x.at_+k)/64]?).getD 0|||2^((x.at_+k)%64))) L (λq=>gF S q||decide (x.at_<=q/\q<x.at_+(k+1))):=by
    refine⟨H2.len,H2.lt,λq hq=>?_⟩;rw[H2.bit q hq,Bool.or_assoc]
    congr 1
    rw[iD,sZ,cm,cm,cm];omega
   obtain⟨T',t1,t2,t3⟩:=ih (k+1) u _ (by omega) (by omega) H3;refine⟨T',t1,by rw[t2,List.length_set],?_⟩;simp only[hF];rw[cf,aQ (n:=(x.at_:Int)+(x.cG:Int)) (by omega) (by omega)];have e1:(((x.at_+k:Nat):Int)<(x.at_:Int)+(x.cG:Int)):=by omega
   simp only[aU,e1,bd,aC];have hno:(gF S (x.at_+k)||decide (x.at_<=x.at_+k/\x.at_+k<x.at_+k))=false:=by rw[hcl _ (by omega) (by omega)];simp
   rw[ak6 w HT hL (x.at_+k) hpL,hno];simp only[aB];have h232:fm w (!false) 5=some (.inl ()):=rfl;rw[h232];simp only[aB,iO];rw[JS _ (by omega)];simp only[bH,mQ,hlt,bd,aC,gy,fI];rw[ZR hlt];simp only[bc,bK];rw[TM _ (by omega)];have e2:¬((((x.at_+k)%64:Nat):Int)<0):=by omega
   simp only[e2,bM,aD];obtain⟨o1,o2⟩:=or_eq T[(x.at_+k)/64] ((x.at_+k)%64) (HT.lt _ (cx hlt)) (by omega);rw[o1];have e3:(x.at_+k)/64+1<=(eP T).length:=by unfold eP;rw[cH];omega
   simp only[show∀n:Int,(SV.i IntKind.u64 n).cells.length.beq 1=true fromλ_=>rfl,eY,gA,e3,bd,aC,Fw,cf];rw[aQ (by omega) (by omega),show((x.at_+k:Nat):Int)+1=((x.at_+(k+1):Nat):Int) by omega];have hset:(eP T).set ((x.at_+k)/64) (Value.int IntKind.u64 ((T[(x.at_+k)/64]|||2^((x.at_+k)%64):Nat):Int))=eP (T.set ((x.at_+k)/64) ((T[(x.at_+k)/64]?).getD 0|||2^((x.at_+k)%64))):=by unfold eP;rw[cw hlt,qP,<-List.map_set]
   rw[hset];rw[List.length_set] at t3;exact t3
 exact key x.cG 0 w T (by omega) (by omega) H0
theorem Hv{w:Nat}(hw:5<=w)(b:H1 UInt8)(hb:b.length<2^50){o:Int}(ho:o=1\/o=2)(p s:Nat)(hs:s=2\/s=4)(hp:p+s<=b.length):nj w (ah b) o (p:Int) (s:Int)=some (cq b p s o:Int):=by have:=xI (s:=s) (by omega) ho (by omega);unfold nj cq;rw[Ch hw b (by omega) _ _ _ (by omega),this];simp
structure qR(w L:Nat)(b:List UInt8)(o:Int):Prop where
 len:b.length=L
 small:L<2^29
 wide:L+200000<w
 ord:o=1\/o=2
theorem pS{L:Nat}{S S':H1 bo}{x:bo}(h:lE L S x=.ok S'):S'=S++[x]/\x.at_%2=0/\x.at_+x.cG<=L:=by
 unfold lE at h
 grind
theorem akY{w L:Nat}{b:H1 UInt8}{o:Int}(R:qR w L b o){T:H1 Nat}{S S':H1 bo}{x:bn}{t:aN}{dir:Nat}(H:Tk T L (gF S))(h:sK b o dir S x=.ok (t,S'))(hs:x.slot<4294967296)(hS:S'.length<100000000)(sh:Qu)(c:Nat)(no so:Int):
 (∃u,S'=S++u)/\∃T' so',Tk T' L (gF S')/\T'.length=T.length/\
  HD w x.tag x.ty x.az (x.slot:Int) (dir:Int) (ah b) o sh T.length c no so (eP T) (S.flatMap cd)=some (.inl (t.tag,t.ty,t.az,ah t.data,ah b,o,sh,T.length,c,no,so',eP T',S'.flatMap cd)):=by
 have hsm:=R.small;have hlen:=R.len;have hw:=R.wide;have h232:fm w true 6=some (.inl ()):=rfl;unfold sK at h;split at h
 ·cases h
 rename_i h1;have hk:=AQ x.ty;have e1:0<(kindOf x.ty).1 :=by omega
 have e2:¬(x.az<1):=by omega
 have e3:¬(65536<x.az):=by omega
 unfold HD F5;rw[YI];simp only[aB,aU,e1,e2,e3,bd,bM,fH,aC];rw[h232];rw[YJ];simp only[aB];split at h
 ·rename_i h0;have e4:¬(0<((bQ x.ty x.az:Nat):Int)):=by omega
  simp only[e4,bM,aD];rw[ala (by omega) _ _ _ _ _ R.ord];have hl:0<ji x.ty x.az/\ji x.ty x.az<=4:=by
   unfold bQ at h0;have hpos:0<ji x.ty x.az:=by unfold ji;rw[aq (by omega)];exact Int.mul_pos (by omega) e1
   split at h0<;>omega
  have hv:IJ x.ty x.az (x.slot:Int) o=(pM x.ty x.az (aY x.slot 4 o) o).map λd=>(d,((aY x.slot 4 o).drop d.length).all (·==0)):=by unfold IJ;rw[ay ⟨by omega,by omega,hl.1,hl.2⟩,nq]
  rw[hv];split at h
  case h_2=>cases h
  rename_i d hd;injection h with h;cases h;rw[hd];simp only[rR,aB];rw[h232];refine⟨⟨[],(dP _).symm⟩,?_⟩;cases((aY x.slot 4 o).drop d.length).all (·==0)<;>exact⟨T,_,H,rfl,rfl⟩
 ·rename_i h0;have e4:(0<((bQ x.ty x.az:Nat):Int)):=by omega
  simp only[e4,bd,aC];split at h
  ·cases h
  rename_i S2 ht;split at h
  case h_2=>cases h
  rename_i d hd;injection h with h;cases h;obtain⟨a1,a2,a3⟩:=pS ht;obtain⟨_,T',t1,t2,t3⟩:=Hw (w:=w) H (by omega) (by omega) (by rw[<-hlen];exact ht) (by rw[a1,aP] at hS;omega) b hlen o sh c no so;refine⟨⟨_,a1⟩,T',so,t1,t2,?_⟩;dsimp only at t3 a3;rw[t3];simp only[aB,iO,cN,bH,gA,aM,bd,eY];have e5:x.slot<=b.length:=by omega
  simp[e5];rw[mS _ (aM _),eQ (by rw[eu];omega),YK _ _ _ (by rw[eu];omega) (by rw[eu];omega) _ R.ord,hd];simp;rw[h232];simp
theorem akz{w L:Nat}{b:H1 UInt8}{o:Int}(R:qR w L b o)(hL:8<=L)(ho:lQ b=o)(h42:cq b 2 2 o=42){T:H1 Nat}(H:Tk T L (gF []))(sh:Qu)(c:Nat)(no so:Int):
 ∃T',Tk T' L (gF [⟨1,-1,0,0,8⟩])/\T'.length=T.length/\
  Hk w (ah b) 0 sh T.length c no so (eP T) []=some (.inl ((cq b 4 4 o:Int),ah b,o,sh,T.length,c,no,so,eP T',[⟨1,-1,0,0,8⟩].flatMap cd)):=by
 have hsm:=R.small;have hlen:=R.len;have hw:=R.wide;have ht:lE L [] ⟨1,-1,0,0,8⟩=.ok [⟨1,-1,0,0,8⟩]:=by unfold lE;rw[ay ⟨rfl,by show 0+8<=L;omega⟩];rfl
 obtain⟨_,T',t1,t2,t3⟩:=Hw (w:=w) H (by omega) (by omega) ht (by decide) b hlen o sh c no so;refine⟨T',t1,t2,?_⟩;have h288:=Hv (w:=w) (by omega) b (by omega) R.ord 2 2 (.inl rfl) (by omega);have h4:=Hv (w:=w) (by omega) b (by omega) R.ord 4 4 (.inr rfl) (by omega);have e1:¬(Int.ofNat b.length<8):=by simp;omega
 have e2:2<=b.length:=by omega
 have h232:∀n,fm w true n=some (.inl ()):=λ_=>rfl;unfold Hk BS;simp only[cN,aU,e1,bM,fH,h232,aB,iO,gA,e2,bd,eY,aC];rw[show decide (0<=2)=true from rfl,mS _ e2,iL,iR,C3];simp only[aB];rw[EE,er];have hor:(b.take 2=[73,73]/\o=1)\/(b.take 2=[77,77]/\o=2):=by
  unfold lQ at ho;split at ho
  ·rename_i q;exact .inl ⟨q,ho.symm⟩
  ·split at ho
   ·rename_i q;exact .inr ⟨q,ho.symm⟩
   ·have:=R.ord;omega
 have h42b:aj ((cq b 2 2 o:Nat):Int) 42=true:=by rw[h42];rfl
 rcases hor with⟨q,rfl⟩|⟨q,rfl⟩
 ·rw[q,show mO [73,73] (ByteArray.mk #[73,73]).data.toList=true from rfl];rw[show(2:Int)=((2:Nat):Int) from rfl,h288];simp only[aB];rw[h42b,h232];simp;refine Eq.trans (bX (λz=>ob z _) t3) ?_;simp;rw[show(4:Int)=((4:Nat):Int) from rfl,h4];rfl
 ·rw[q,show mO [77,77] (ByteArray.mk #[73,73]).data.toList=false from rfl,show mO [77,77] (ByteArray.mk #[77,77]).data.toList=true from rfl,aC];rw[(show nj w (ah b) 2 2 2=some (cq b 2 2 2:Int) from h288)];simp only[aB];rw[h42b,h232];simp;refine Eq.trans (bX (λz=>ob z _) t3) ?_;simp;rw[(show nj w (ah b) 2 4 4=some (cq b 4 4 2:Int) from h4)];rfl
theorem Ka(b:H1 UInt8)(o:Int):∀(n p:Nat),(jZ b o p n).length=n
 |0,_=>rfl
 |n+1,p=>by show(jZ b o (p+12) n).length+1=n+1;rw[Ka]
theorem RB(b:H1 UInt8)(o:Int):∀(n p i:Nat)(h:i<(jZ b o p n).length),(jZ b o p n)[i]=Aw b (p+12*i) o
 |0,_,i,h=>absurd h (Nat.not_lt_zero _)
 |n+1,p,0,h=>rfl
 |n+1,p,i+1,h=>by
  show(jZ b o (p+12) n)[i]'(by simpa[jZ] using h)=_
  rw[RB b o n (p+12) i]
  grind
theorem WQ:∀{l:H1 bn},ff l=true->∀{i:Nat}(h:i+1<l.length),l[i].tag<l[i+1].tag
 |[],_,i,h=>by grind
 |[_],_,i,h=>by grind
 |a::b::l,hr,i,h=>by
  simp[ff] at hr;cases i with
  |zero=>grind
  |succ i=>exact WQ hr.2 (by grind)
theorem D3(l:H1 bn){c:H1 Qu}(h:c=l.flatMap bR):ae (c.length/4) c=aA bR l:=by rw[h,cy kZ,ir _ (by simp)];rfl
theorem abl{l:H1 bn}{i:Nat}(h:i<l.length):(l.take (i+1)).flatMap bR=(l.take i).flatMap bR++bR l[i]:=by rw[im h,fo];simp
theorem Uf(b:H1 UInt8)(p s:Nat)(o:Int):cq b p s o<256^s:=by
 unfold cq pG;split
 ·rw[qP];have hl:(gS b p s o).length<=s:=by
   unfold gS;split<;>simp<;>omega
  exact o9 (Lw (gS b p s o)) (Nat.pow_le_pow_right (by simp) hl)
 grind
theorem Ug(b:H1 UInt8)(p:Nat){o:Int}(h:o=1\/o=2):cq b p 2 o<65536:=Uf b p 2 o
theorem EK(b:H1 UInt8)(p:Nat)(o:Int):cq b p 4 o<4294967296:=Uf b p 4 o
theorem akW{w L:Nat}{b:H1 UInt8}{o:Int}(R:qR w L b o){T:H1 Nat}{S S':H1 bo}{at_ dir:Nat}(H:Tk T L (gF S))(h0:at_%2=0)(h1:at_+2<=L)(hn:cq b at_ 2 o≠0)(ht:lE L S ⟨2,dir,0,at_,6+12*cq b at_ 2 o⟩=.ok S')
 (hr:ff (jZ b o (at_+2) (cq b at_ 2 o))=true) (hS:S.length<100000000) (hd:dir<2^40) (sh:Qu) (c:Nat) (no so:Int):
 ∃T',Tk T' L (gF S')/\T'.length=T.length/\
  Hy w (at_:Int) (dir:Int) (ah b) o sh T.length c no so (eP T) (S.flatMap cd)=some (.inl (aA bR (jZ b o (at_+2) (cq b at_ 2 o)),ah b,o,sh,T.length,c,no,so,eP T',S'.flatMap cd)):=by
 have hsm:=R.small;have hlen:=R.len;have hw:=R.wide;obtain⟨a1,a2,a3⟩:=pS ht;obtain⟨n,hnn⟩:∃n,cq b at_ 2 o=n:=⟨_,rfl⟩;have hn2:n<65536:=by rw[<-hnn];exact Ug b at_ R.ord
 obtain⟨_,T',t1,t2,t3⟩:=Hw (w:=w) H (by omega) (by omega) ht hS b hlen o sh c no so;refine⟨T',t1,t2,?_⟩;have h288:=Hv (w:=w) (by omega) b (by omega) R.ord at_ 2 (.inl rfl) (by omega);have h232:∀k,fm w true k=some (.inl ()):=λ_=>rfl;have hmod:(at_:Int).tmod 2=0:=by rw[Int.tmod_eq_emod_of_nonneg (by omega)];omega
 rw[hnn] at hn t3 h288 hr a3⊢;dsimp only at t3 a3;unfold Hy NG BL;rw[hmod,show aj 0 0=true from rfl,aC,cN,HU w ⟨by simp only[o5];omega,by simp only[o5];omega⟩ (by omega)];have hroom:(0<=(at_:Int)/\(0:Int)<=2/\(at_:Int)<=Int.ofNat b.length/\(2:Int)<=Int.ofNat b.length -(at_:Int)):=by simp only[o5];omega
 rw[dZ hroom];simp only[aB];rw[h232];simp only[aB,iO];have h288':nj w (ah b) o (at_:Int) 2=some (n:Int):=h288;rw[h288'];simp only[aB];rw[show ak 0 (n:Int)=true by rw[aU,cm];omega,h232];simp only[aB,iO];rw[pH,aQ (n:=(12:Int)*(n:Int)) (by omega) (by omega),cf,aQ (n:=(6:Int)+12*(n:Int)) (by omega) (by omega),show(6:Int)+12*(n:Int)=((6+12*n:Nat):Int) by omega,t3];simp only[aB,iO];obtain⟨E,hE⟩:∃E,E=jZ b o (at_+2) n:=⟨_,rfl⟩;rw[<-hE] at hr⊢;have hat:at_+6+12*n<=L:=by omega
 have h232:fm w true 2=some (.inl ()):=rfl;generalize eP T'=U;generalize S'.flatMap cd=V;generalize T.length=tl;have hEl:E.length=n:=by rw[hE,Ka]
 refine gV (ev:=λi (g:Int->Int->Int->Qu->Int->Qu->Nat->Nat->Int->Int->H1 Qu->H1 Qu->H1 Qu->Zh (Qu×Qu×Int×Qu×Nat×Nat×Int×Int×H1 Qu×H1 Qu⊕Int×Qu×Int×Qu×Nat×Nat×Int×Int×H1 Qu×H1 Qu))=>g at_ n i (ah b) o sh tl c no so U V ((E.take i).flatMap bR)) n ?_ ?_ (by omega)
 ·intro i g hi;have e1:((i:Int)<(n:Int)):=by omega
  simp only[aU,e1,bd,aC,cf,pH];have hat2:at_<2^30:=by omega
  rw[aQ (n:=(at_:Int)+2) (by omega) (by omega),aQ (n:=(12:Int)*(i:Int)) (by omega) (by omega),aQ (n:=(at_:Int)+2+12*(i:Int)) (by omega) (by omega),show(at_:Int)+2+12*(i:Int)=((at_+2+12*i:Nat):Int) by omega,ak7 (by omega) b (by omega) _ o R.ord,ay (by omega)];simp only[aB];have hgi:E[i]'(by omega)=Aw b (at_+2+12*i) o:=by subst hE;exact RB b o n (at_+2) i _
  have hiE:i<E.length:=by omega
  have hci:bR E[i]=[.int .i64 (cq b (at_+2+12*i) 2 o:Int),.int .i64 (cq b (at_+2+12*i+2) 2 o:Int),.int .i64 (cq b (at_+2+12*i+4) 4 o:Int),.int .i64 (cq b (at_+2+12*i+8) 4 o:Int)]:=by rw[hgi];rfl
  have hcl:((E.take i).flatMap bR).length=i*4:=by rw[cy kZ,dk,lI (by omega)]
  have hr1:aF (i*4)=true:=by simp;omega
  have hfin:∀(A:Zh (Qu×Qu×Int×Qu×Nat×Nat×Int×Int×H1 Qu×H1 Qu⊕Int×Qu×Int×Qu×Nat×Nat×Int×Int×H1 Qu×H1 Qu)),(bif aF ((E.take i).flatMap bR).length&&(aF 1&&(List.take 4 (List.drop 0 [Value.int IntKind.i64 (cq b (at_+2+12*i) 2 o:Int),Value.int IntKind.i64 (cq b (at_+2+12*i+2) 2 o:Int),Value.int IntKind.i64 (cq b (at_+2+12*i+4) 4 o:Int),Value.int IntKind.i64 (cq b (at_+2+12*i+8) 4 o:Int)])).length.beq 4) then g at_ n (ag IntKind.i64 ((i:Int)+1)) (ah b) o sh tl c no so U V ((E.take i).flatMap bR++List.take 4 (List.drop 0 [Value.int IntKind.i64 (cq b (at_+2+12*i) 2 o:Int),Value.int IntKind.i64 (cq b (at_+2+12*i+2) 2 o:Int),Value.int IntKind.i64 (cq b (at_+2+12*i+4) 4 o:Int),Value.int IntKind.i64 (cq b (at_+2+12*i+8) 4 o:Int)])) else A)=g at_ n ((i+1:Nat):Int) (ah b) o sh tl c no so U V ((E.take (i+1)).flatMap bR):=by intro A;rw[hcl,hr1,show aF 1=true from rfl,abl hiE,hci,aQ (by omega) (by omega)];rfl
  rcases i with _|i
  ·have e0:aj ((0:Nat):Int) 0=true:=rfl;rw[e0,aC];exact hfin none
  ·have e0:aj ((i+1:Nat):Int) 0=false:=by rw[bY,gQ];omega
   rw[e0,aD,jh,aQ (by omega) (by omega),show((i+1:Nat):Int) -1=(i:Int) by omega,bH,hcl];have e2:i*4<(i+1)*4:=by omega
   have hpi:i<E.length:=by omega
   have htk:List.drop (0+i*4+0) ((E.take (i+1)).flatMap bR)=bR E[i]:=by rw[show 0+i*4+0=i*4 by omega,mT kZ,List.drop_take,show i+1 -i=1 by omega,cW hpi,ox,qa];simp
   have hlt:=WQ hr (i:=i) (by omega);have hg1:(E[i+1]'(by omega)).tag=(cq b (at_+2+12*(i+1)) 2 o:Int):=by rw[hgi];rfl
   rw[hg1] at hlt;simp only[mQ,e2,bd,kA,show Nat.beq 4 4=true from rfl,aC];rw[htk];unfold bR;simp only[bc,bK,hlt,bd];rw[h232];simp only[aB,iO];rw[hcl] at hfin;exact hfin none
 ·intro g;have e1:¬((n:Int)<(n:Int)):=by omega
  simp only[aU,e1,bM,aD];rw[eQ (by omega),D3 E rfl]
theorem akO{w:Nat}(l:H1 iF)(n a b c:Int)(hl:l.length<2^40)(hw:l.length<w):OX w (gL l) n a b c=some (dD (λx=>x.tag==n) l):=by
 refine mX l (λx=>x.tag==n) (ev:=λi (g:Qu->H1 Qu->Int->Int->Zh Int)=>g (aA mn l) [.int .i64 n,.int .i64 a,.int .i64 b,.int .i64 c] l.length i) ?_ ?_ hw
 ·intro i g h;simp_all;rw[bu tT h];unfold mn Pe;simp only[eD,bc,bK,aB,bY];rw[aQ (by omega) (by omega)];by_cases e2:l[i].tag=n<;>grind
 ·intro g;simp
theorem akP{w:Nat}(l:H1 iF)(n a b c:Int)(hl:l.length<2^40)(hw:l.length<w):OY w (gL l) n a b c=some (dD (λx=>x.tag==n) l):=by
 refine mX l (λx=>x.tag==n) (ev:=λi (g:Qu->H1 Qu->Int->Int->Zh Int)=>g (aA mn l) [.int .i64 n,.int .i64 a,.int .i64 b,.int .i64 c] l.length i) ?_ ?_ hw
 ·intro i g h;simp_all;rw[bu tT h];unfold mn O2;simp only[eD,bc,bK,aB,bY];rw[aQ (by omega) (by omega)];by_cases e2:l[i].tag=n<;>grind
 ·intro g;simp
theorem ak8{w:Nat}(l:H1 iF)(n a b c:Int)(hl:l.length<2^40)(hw:l.length<w):H4 w (gL l) n a b c=some (l.any λx=>x.tag==n):=by
 unfold H4;rw[akO l n a b c hl hw];simp;have:=xL (λx:iF=>x.tag==n) l
 grind
theorem Kp{α:Type}(p:α->Bool){l:H1 α}{i:Nat}(h:i<l.length):(l.take (i+1)).filter p=(l.take i).filter p++(if p l[i]=true then[l[i]] else[]):=by
 rw[im h]
 grind
theorem abt{α:Type}(p:α->Bool)(l:H1 α)(i:Nat):((l.take i).filter p).length<=l.length:=by grind
theorem akX{w:Nat}(E:H1 bn)(S:bg)(hS:uS S)(hl:S.bP.length<2^40)(hw:S.bP.length<w)(hE:E.length<100000000)(hEw:E.length<w):
 Hz w (aA bR E) (gL S.bP) S.at_ S.cG S.next=some (aA bR (E.filter λx=>fG S x.tag),aA bR (E.filter λx=>fK S x.tag),aA bR (E.filter λx=>!eW S x.tag)):=by
 unfold Hz yB we;rw[bU];refine gV (ev:=λi (g:Qu->Int->Int->Qu->Int->Int->Int->H1 Qu->H1 Qu->H1 Qu->Zh (Qu×Qu×Qu))=>g (aA bR E) E.length i (gL S.bP) S.at_ S.cG S.next (((E.take i).filter λx=>fG S x.tag).flatMap bR) (((E.take i).filter λx=>fK S x.tag).flatMap bR) (((E.take i).filter λx=>!eW S x.tag).flatMap bR)) E.length ?_ ?_ hEw
 ·intro i g hi;have e1:((i:Int)<(E.length:Int)):=by omega
  simp only[aU,e1,bd,aC,bH];rw[bu kZ hi];unfold bR;simp only[eD,bc,bK];rw[ak8 S.bP _ _ _ _ hl hw];simp only[aB];have hlk:(S.bP.any λx=>x.tag==E[i].tag)=fG S E[i].tag:=rfl;rw[hlk,Kp _ hi,Kp _ hi,Kp _ hi];have hr1:∀p:bn->Bool,aF (List.flatMap bR ((E.take i).filter p)).length=true:=by intro p;have:=abt p E i;rw[cy kZ];simp;omega
  have hr1':∀p:bn->Bool,aF (List.flatMap (λx:bn=>[Value.int .i64 x.tag,Value.int .i64 x.ty,Value.int .i64 x.az,Value.int .i64 (x.slot:Int)]) ((E.take i).filter p)).length=true:=hr1;simp only[hr1',show aF 1=true from rfl,eY,er,ox,qa,cc,List.length_nil,aC,cf];rw[aQ (by omega) (by omega)];have hp:=hS.pair;cases hk:fG S E[i].tag with
  |true=>
   have hnp:fK S E[i].tag=false:=by unfold fG at hk;rw[List.any_eq_true] at hk;obtain⟨x,hx,he⟩:=hk;rw[<-eq_of_beq he];exact(hS.bP x hx).2.2
   have hno:eW S E[i].tag=true:=by unfold eW;rw[hk];rfl
   simp[hnp,hno]
  |false=>
   have hno:eW S E[i].tag=fK S E[i].tag:=by unfold eW;rw[hk];rfl
   rw[hno];by_cases h1:(0:Int)<S.at_
   ·have hb:fK S E[i].tag=(decide (E[i].tag=S.at_)||decide (E[i].tag=S.cG)):=by
     unfold fK;rw[dZ (by omega:S.at_≠0)];rfl
    rw[hb];simp only[bY];by_cases h2:E[i].tag=S.at_
    ·simp[h1,h2]
    ·by_cases h3:E[i].tag=S.cG
     ·simp[h1,h2,h3]
     ·simp[h1,h2,h3]
   ·have hb:fK S E[i].tag=false:=by
     unfold fK;have:¬(S.at_≠0):=λq=>by have:=hp q;omega
     rw[eB this];rfl
    rw[hb];simp[h1]
 ·intro g;have e1:¬((E.length:Int)<(E.length:Int)):=by omega
  simp only[aU,e1,bM,aD,mL];rw[D3 _ rfl,D3 _ rfl,D3 _ rfl]
def xc(sh:H1 bg)(b:H1 UInt8)(o:Int)(L:Nat)(f:Nat)(rec:rV):Prop:=
 ∀(at_ s no:Nat)(Sp:H1 bo)(d:aV)(next no':Nat)(S':H1 bo)(T:H1 Nat)(so:Int)(c:Nat),
  kM b o sh f at_ s no Sp=.ok (d,next,no',S')->s<sh.length->at_<4294967296->S'.length<100000000->no'<2^40->Tk T L (gF Sp)->
  ∃T' so',Tk T' L (gF S')/\T'.length=T.length/\
   rec at_ s (ah b) o (ct sh) T.length c no so (eP T) (Sp.flatMap cd)=some (.inl (dT d,dS d,dB d,(next:Int),ah b,o,ct sh,T.length,c,(no':Int),so',eP T',S'.flatMap cd))
theorem aic{b:H1 UInt8}{o:Int}{no:Nat}{S S':H1 bo}{x:bn}{t:aN}(h:sK b o no S x=.ok (t,S')):∃u,S'=S++u:=by
 unfold sK at h;split at h
 ·grind
 split at h
 ·split at h
  ·simp_all
  grind
 ·split at h
  ·grind
  rename_i S2 ht;split at h
  ·cases h;exact⟨_,(pS ht).1⟩
  grind
theorem yk{own:Int->Bool}{b:H1 UInt8}{o:Int}{no:Nat}:∀{E:H1 bn}{S S':H1 bo}{ts:H1 aN},ko own b o no E S=.ok (ts,S')->∃u,S'=S++u
 |[],S,S',ts,h=>by rw[ko] at h;cases h;exact⟨[],(dP _).symm⟩
 |x::E,S,S',ts,h=>by
  rw[ko] at h;split at h
  ·split at h
   ·exact yk h
   grind
  split at h
  ·grind
  rename_i hv;split at h
  ·grind
  rename_i ht;injection h with h;cases h;obtain⟨u,rfl⟩:=aic hv;obtain⟨v,rfl⟩:=yk ht;simp
theorem BC{rd:Nat->Nat->Nat->H1 bo->Except Int (aV×Nat×Nat×H1 bo)}(hrd:∀a s no S d n no' S',rd a s no S=.ok (d,n,no',S')->no<=no'/\∃u,S'=S++u){Sh:bg}:∀{K:H1 bn}{no no':Nat}{S S':H1 bo}{r:cK},mB rd Sh K no S=.ok (r,no',S')->no<=no'/\∃u,S'=S++u
 |[],no,no',S,S',r,h=>by rw[mB] at h;cases h;exact⟨aM _,[],(dP _).symm⟩
 |x::K,no,no',S,S',r,h=>by
  rw[mB] at h;split at h
  ·grind
  split at h
  ·grind
  split at h
  ·grind
  rename_i hr;injection h with h;cases h;obtain⟨a2,v,rfl⟩:=BC hrd hr
  grind
theorem BA{b:H1 UInt8}{o:Int}{sh:H1 bg}:∀(f a s no:Nat)(S:H1 bo)(d:aV)(n no':Nat)(S':H1 bo),kM b o sh f a s no S=.ok (d,n,no',S')->no<=no'/\∃u,S'=S++u
 |0,a,s,no,S,d,n,no',S',h=>by rw[kM] at h;cases h
 |f+1,a,s,no,S,d,n,no',S',h=>by
  rw[kM] at h;split at h
  case isFalse=>cases h
  split at h
  ·cases h
  split at h
  ·cases h
  rename_i S1 h1;split at h
  case isFalse=>cases h
  split at h
  ·cases h
  rename_i h2;split at h
  ·cases h
  split at h
  ·cases h
  rename_i S3 h3;obtain⟨u1,e1⟩:∃u,S1=S++u:=⟨_,(pS h1).1⟩;obtain⟨u2,e2⟩:=yk h2;obtain⟨k,u3,e3⟩:=BC (BA f) h3;split at h
  ·split at h
   ·cases h
   split at h
   ·cases h
   rename_i h4;injection h with h;cases h;obtain⟨u4,e4⟩:∃u,S'=S3++u:=⟨_,(pS h4).1⟩;refine⟨by omega,u1++u2++u3++u4,?_⟩;rw[e4,e3,e2,e1];simp
  ·injection h with h;cases h;refine⟨by omega,u1++u2++u3,?_⟩;rw[e3,e2,e1];simp
theorem al9(l:H1 (Int×aV))(r:cK)(h:l=aS r):ae ((l.flatMap gw).length/4) (l.flatMap gw)=ae (cj r) (gO r):=by rw[h,cy uC,ir _ (by simp),uE,PL]
theorem adg{w L:Nat}{b:H1 UInt8}{o:Int}(R:qR w L b o){sh:H1 bg}(hsh:jc sh){s:Nat}(hs:s<sh.length)(hlk:(aR sh s).bP.length<100000){f:Nat}{rec:rV}(hrec:xc sh b o L f rec){at_ dir no no':Nat}{E P K:H1 bn}{S S3 S4:H1 bo}{subs:cK}{blob:H1 UInt8}{T:H1 Nat}
 (hK:∀x∈K,fG (aR sh s) x.tag=true/\x.slot<4294967296) (hKl:K.length<70000) (hat:at_+6+12*E.length<=L)
 (h3:mB (kM b o sh f) (aR sh s) K no S=.ok (subs,no',S3))
 (hfin:(∃p q,P=[p,q]/\q.slot≠0/\p.slot<4294967296/\q.slot<4294967296/\lE L S3 ⟨4,dir,0,p.slot,q.slot⟩=.ok S4/\blob=(b.drop p.slot).take q.slot)\/(P.length≠2/\S4=S3/\blob=[]))
 (hS:S4.length<100000000) (hno:no'<2^40) (H:Tk T L (gF S)) (so:Int) (c:Nat) (tc:H1 Qu):
 ∃T' so',Tk T' L (gF S4)/\T'.length=T.length/\
  TC w rec at_ dir (aA bR E) (aA bR P) (aA bR K) K.length 0 (ah b) o (ct sh) T.length c no so (ae 0 []) (gL (aR sh s).bP) (aR sh s).at_ (aR sh s).cG (aR sh s).next (eP T) (S.flatMap cd) tc []=
   some (.inl (ae (tc.length/4) tc,ae (cj subs) (gO subs),ah blob,(cq b (at_+2+12*E.length) 4 o:Int),ah b,o,ct sh,T.length,c,(no':Int),so',eP T',S4.flatMap cd)):=by
 have hsm:=R.small;have hlen:=R.len;have hw:=R.wide;have h232:∀n,fm w true n=some (.inl ()):=λ_=>rfl;have hS34:S3.length<=S4.length:=by
  rcases hfin with⟨p,q,_,_,_,_,ht,_⟩|⟨_,e,_⟩
  ·rw[(pS ht).1,aP];omega
  ·rw[e];exact aM _
 obtain⟨tl,htl⟩:∃tl,T.length=tl:=⟨_,rfl⟩;rw[htl];have key:∀(k i v no:Nat)(S:H1 bo)(T:H1 Nat)(so:Int)(r:cK)(D:H1 (Int×aV)),i+k=K.length->k<v->D.length=i->mB (kM b o sh f) (aR sh s) (K.drop i) no S=.ok (r,no',S3)->D++aS r=aS subs->Tk T L (gF S)->T.length=tl->
  ∃T' so',Tk T' L (gF S4)/\T'.length=tl/\
   lp AX (vK w rec) v at_ dir (aA bR E) (aA bR P) (aA bR K) K.length i (ah b) o (ct sh) tl c no so (ae 0 []) (gL (aR sh s).bP) (aR sh s).at_ (aR sh s).cG (aR sh s).next (eP T) (S.flatMap cd) tc (D.flatMap gw)=
    some (.inl (ae (tc.length/4) tc,ae (cj subs) (gO subs),ah blob,(cq b (at_+2+12*E.length) 4 o:Int),ah b,o,ct sh,tl,c,(no':Int),so',eP T',S4.flatMap cd)):=by
  intro k;induction k with
  |zero=>
   intro i v no S T so r D hi hv hD hr hDr HT hTl;rw[show K.drop i=[] from rO (by omega),mB] at hr;injection hr with hr;cases hr;rw[show aS cK.nil=[] from rfl,dP] at hDr;have e1:¬((i:Int)<(K.length:Int)):=by omega
   have hD2:=al9 D subs hDr;rw[eU AX (vK w rec) (by omega)];unfold vK;simp only[aU,e1,bM,aD];rw[bU];have hnx:=Hv (w:=w) (by omega) b (by omega) R.ord (at_+2+12*E.length) 4 (.inr rfl) (by omega);have haw:ag IntKind.i64 ((ag IntKind.i64 ((at_:Int).add 2)).add (ag IntKind.i64 (Int.mul 12 (Int.ofNat E.length))))=((at_+2+12*E.length:Nat):Int):=by rw[cf,cf,pH,bO,aQ (n:=(at_:Int)+2) (by omega) (by omega),aQ (n:=(12:Int)*(E.length:Int)) (by omega) (by omega),aQ (by omega) (by omega)];omega
   rcases hfin with⟨p,q,rfl,hq,hp4,hq4,ht,rfl⟩|⟨hP,rfl,rfl⟩
   ·rw[show aj (Int.ofNat [p,q].length) 2=true from rfl,aC];have x0:∀(K:H1 Qu->tr),aJ 4 0 (aA bR [p,q]) K=K (bR p++([q].flatMap bR)):=λK=>bu kZ (by show 0<2;omega) K;have x1:∀(K:H1 Qu->tr),aJ 4 1 (aA bR [p,q]) K=K (bR q++([].flatMap bR)):=λK=>bu kZ (by show 1<2;omega) K;have d0:∀(y:bn)(r:H1 Qu),List.drop 3 (bR y++r)=Value.int .i64 (y.slot:Int)::r:=λ_ _=>rfl;rw[x0,d0];simp only[bc,bK];rw[x1,d0];simp only[bc,bK];rw[dZ (show(0:Int)<(q.slot:Int) by omega),h232];simp only[aB,iO];obtain⟨a1,a2,a3⟩:=pS ht;obtain⟨_,T',t1,t2,t3⟩:=Hw (w:=w) HT (by omega) (by omega) ht (by rw[a1,aP] at hS;omega) b hlen o (ct sh) c (no':Int) so;dsimp only at t3 a3;refine⟨T',so,t1,by rw[t2,hTl],?_⟩;rw[hTl] at t3;rw[t3];simp only[aB,iO,cN];rw[cf,aQ (n:=(p.slot:Int)+(q.slot:Int)) (by omega) (by omega),show(p.slot:Int)+(q.slot:Int)=((p.slot+q.slot:Nat):Int) by omega,bH,bH];have e3:p.slot+q.slot<=b.length:=by omega
    have e4:p.slot<=p.slot+q.slot:=by omega
    simp only[gA,e3,e4,bd,jB,aC];rw[mS _ e3,show p.slot+q.slot -p.slot=q.slot by omega,rZ w _ (by rw[dk,eu];omega)];simp only[aB];rw[bU,haw];have hnx':nj w (ah b) o ((at_+2+12*E.length:Nat):Int) 4=some (cq b (at_+2+12*E.length) 4 o:Int):=hnx;rw[hnx'];simp only[aB];rw[hD2]
   ·have e2:aj (Int.ofNat P.length) 2=false:=by rw[bY,gQ,bO];omega
    rw[e2,aD,bU,haw];have hnx':nj w (ah b) o ((at_+2+12*E.length:Nat):Int) 4=some (cq b (at_+2+12*E.length) 4 o:Int):=hnx;rw[hnx'];simp only[aB];rw[hD2];exact⟨T,so,HT,hTl,rfl⟩
  |succ k ih=>
   intro i v no S T so r D hi hv hD hr hDr HT hTl;have hiK:i<K.length:=by omega
   have hmem:=cx hiK;obtain⟨k1,k2⟩:=hK _ hmem;rw[cW hiK,mB] at hr;split at hr
   ·cases hr
   rename_i d next no1 S1 hd
   split at hr
   ·cases hr
   rename_i hnx;split at hr
   ·cases hr
   rename_i r2 no2 S2 hr2;injection hr with hr;cases hr;have hnx:next=0:=qK.1 hnx
   subst hnx;obtain⟨m1,u,m2⟩:=BC (BA f) hr2;have e1:((i:Int)<(K.length:Int)):=by omega
   rw[eU AX (vK w rec) (by omega)];rcases K7 (aR sh s) K[i].tag with⟨_,q⟩|⟨j,hj,q1,_,q3⟩
   ·rw[k1] at q;cases q
   have hsx:=hsh.bP s hs _ (cx hj);rw[q3] at hd;have hsn:(((aR sh s).bP[j].shape.toNat:Nat):Int)=(aR sh s).bP[j].shape:=mI (by omega);obtain⟨T1,so1,t1,t2,t3⟩:=hrec K[i].slot _ no S d 0 no1 S1 T so c hd (by omega) k2 (by have:=bX List.length m2;rw[aP] at this;omega) (by omega) HT;rw[hTl] at t2 t3;obtain⟨T',so',v1,v2,v3⟩:=ih (i+1) (v -1) no1 S1 T1 so1 r2 (D++[(K[i].tag,d)]) (by omega) (by omega) (by rw[aP,hD];rfl) hr2 (by rw[<-hDr];simp[aS]) t1 t2;refine⟨T',so',v1,v2,?_⟩;rw[<-v3];generalize hg:lp AX (vK w rec) (v -1)=g;unfold vK;simp only[aU,e1,bd,aC,bH];rw[bu kZ hiK];have tg:∀(y:bn)(r:H1 Qu),bR y++r=Value.int .i64 y.tag::.int .i64 y.ty::.int .i64 y.az::.int .i64 (y.slot:Int)::r:=λ_ _=>rfl;rw[tg];simp only[bc,bK];rw[akP _ _ _ _ _ (by omega) (by omega),q1];simp only[aB,bH];rw[show gL (aR sh s).bP=aA mn (aR sh s).bP from rfl,bu tT hj];have dl:∀(y:iF)(r:H1 Qu),List.drop 1 (mn y++r)=Value.int .i64 y.shape::r:=λ_ _=>rfl;rw[dl];simp only[bc,bK];rw[<-hsn,t3];simp only[aB,iO];rw[show aj ((0:Nat):Int) 0=true from rfl,h232];simp only[aB,iO];have hr1:aF (D.flatMap gw).length=true:=by rw[cy uC];simp;omega
   rw[hr1,cf,aQ (by omega) (by omega),show(i:Int)+1=((i+1:Nat):Int) by omega,fo];have hsc:[(K[i].tag,d)].flatMap gw=[Value.int .i64 K[i].tag,dT d,dS d,dB d]:=by show gw (K[i].tag,d)++[]=_;unfold gw;rw[ql];rfl
   rw[hsc];rfl
 exact key K.length 0 w no S T so subs [] (by omega) (by omega) rfl (by rw[er];exact h3) rfl H htl
theorem amd{w L:Nat}{b:H1 UInt8}{o:Int}(R:qR w L b o){sh:H1 bg}(hsh:jc sh){s:Nat}(hs:s<sh.length)(hlk:(aR sh s).bP.length<100000){f:Nat}{rec:rV}(hrec:xc sh b o L f rec){at_ dir no no':Nat}{E:H1 bn}{S S2 S3 S4:H1 bo}{tags:H1 aN}{subs:cK}{blob:H1 UInt8}{T:H1 Nat}
 (hE:∀x∈E,x.slot<4294967296) (hEl:E.length<65536) (hat:at_+6+12*E.length<=L)
 (h2:ko (eW (aR sh s)) b o dir E S=.ok (tags,S2))
 (hP1:(E.filter λx=>fK (aR sh s) x.tag).length≠1)
 (h3:mB (kM b o sh f) (aR sh s) (E.filter λx=>fG (aR sh s) x.tag) no S2=.ok (subs,no',S3))
 (hfin:(∃p q,(E.filter λx=>fK (aR sh s) x.tag)=[p,q]/\q.slot≠0/\p.slot<4294967296/\q.slot<4294967296/\lE L S3 ⟨4,dir,0,p.slot,q.slot⟩=.ok S4/\blob=(b.drop p.slot).take q.slot)\/((E.filter λx=>fK (aR sh s) x.tag).length≠2/\S4=S3/\blob=[]))
 (hS:S4.length<100000000) (hno:no'<2^40) (hdir:dir<2^40) (H:Tk T L (gF S)) (so:Int) (c:Nat):
 ∃T' so',Tk T' L (gF S4)/\T'.length=T.length/\
  Zj w rec at_ dir (aA bR E) (aA bR (E.filter λx=>fG (aR sh s) x.tag)) (aA bR (E.filter λx=>fK (aR sh s) x.tag)) (aA bR (E.filter λx=>!eW (aR sh s) x.tag)) (aA bR E) E.length 0 (ah b) o (ct sh) T.length c no so (ae 0 []) (gL (aR sh s).bP) (aR sh s).at_ (aR sh s).cG (aR sh s).next (eP T) (S.flatMap cd) [] []=
   some (.inl (au tags,ae (cj subs) (gO subs),ah blob,(cq b (at_+2+12*E.length) 4 o:Int),ah b,o,ct sh,T.length,c,(no':Int),so',eP T',S4.flatMap cd)):=by
 have hsm:=R.small;have hlen:=R.len;have hw:=R.wide;have h232:∀n,fm w true n=some (.inl ()):=λ_=>rfl;obtain⟨tl,htl⟩:∃tl,T.length=tl:=⟨_,rfl⟩;rw[htl];have hS24:S2.length<=S4.length:=by
  obtain⟨_,u,e⟩:=BC (BA f) h3;have e:=bX List.length e;rw[aP] at e;rcases hfin with⟨p,q,_,_,_,_,ht,_⟩|⟨_,e',_⟩
  ·rw[(pS ht).1,aP];omega
  ·rw[e'];omega
 have key:∀(k i v:Nat)(S:H1 bo)(T:H1 Nat)(so:Int)(ts D:H1 aN),i+k=E.length->k<v->D.length<=i->ko (eW (aR sh s)) b o dir (E.drop i) S=.ok (ts,S2)->D++ts=tags->Tk T L (gF S)->T.length=tl->
  ∃T' so',Tk T' L (gF S4)/\T'.length=tl/\
   lp zt (sY w rec) v at_ dir (aA bR E) (aA bR (E.filter λx=>fG (aR sh s) x.tag)) (aA bR (E.filter λx=>fK (aR sh s) x.tag)) (aA bR ((E.drop i).filter λx=>!eW (aR sh s) x.tag)) (aA bR E) E.length i (ah b) o (ct sh) tl c no so (ae 0 []) (gL (aR sh s).bP) (aR sh s).at_ (aR sh s).cG (aR sh s).next (eP T) (S.flatMap cd) (D.flatMap cC) []=
    some (.inl (au tags,ae (cj subs) (gO subs),ah blob,(cq b (at_+2+12*E.length) 4 o:Int),ah b,o,ct sh,tl,c,(no':Int),so',eP T',S4.flatMap cd)):=by
  intro k;induction k with
  |zero=>
   intro i v S T so ts D hi hv hD hr hDr HT hTl;rw[show E.drop i=[] from rO (by omega),ko] at hr;injection hr with hr;cases hr;rw[dP] at hDr;subst hDr;have e1:¬((i:Int)<(E.length:Int)):=by omega
   rw[eU zt (sY w rec) (by omega)];unfold sY BQ;simp only[aU,e1,bM,aD];rw[bU];have e2:aj (Int.ofNat (E.filter λx=>fK (aR sh s) x.tag).length) 1=false:=by rw[bY,gQ,bO];omega
   rw[e2,show(!false)=true from rfl,h232];simp only[aB,iO];rw[bU];have hKl:=List.length_filter_le (λx:bn=>fG (aR sh s) x.tag) E;obtain⟨T',so',t1,t2,t3⟩:=adg R hsh hs hlk hrec (at_:=at_) (dir:=dir) (E:=E) (P:=E.filter λx=>fK (aR sh s) x.tag) (K:=E.filter λx=>fG (aR sh s) x.tag) (T:=T)
    (λx hx=>⟨(o7.1 hx).2,hE x (o7.1 hx).1⟩) (by omega) hat h3 hfin hS hno HT so c (D.flatMap cC)
   rw[hTl] at t2 t3;refine⟨T',so',t1,t2,?_⟩;have htg:ae ((D.flatMap cC).length/4) (D.flatMap cC)=au D:=by rw[cy ig,ir _ (by decide)];rfl
   rw[htg] at t3;exact t3
  |succ k ih=>
   intro i v S T so ts D hi hv hD hr hDr HT hTl;have hiE:i<E.length:=by omega
   have hmem:=cx hiE;have e1:((i:Int)<(E.length:Int)):=by omega
   have tg:∀(y:bn)(r:H1 Qu),bR y++r=Value.int .i64 y.tag::.int .i64 y.ty::.int .i64 y.az::.int .i64 (y.slot:Int)::r:=λ_ _=>rfl;rw[cW hiE,ko] at hr;rw[eU zt (sY w rec) (by omega)];by_cases ho:eW (aR sh s) E[i].tag=true
   ·rw[ay ho] at hr;split at hr
    case isFalse=>cases hr
    rename_i h41;obtain⟨T',so',v1,v2,v3⟩:=ih (i+1) (v -1) S T so ts D (by omega) (by omega) (by omega) hr hDr HT hTl;refine⟨T',so',v1,v2,?_⟩;rw[<-v3];generalize hg:lp zt (sY w rec) (v -1)=g;have hfl:(E.drop i).filter (λx=>!eW (aR sh s) x.tag)=(E.drop (i+1)).filter (λx=>!eW (aR sh s) x.tag):=by rw[cW hiE,kE,ho];rfl
    rw[hfl];generalize hX:(E.drop (i+1)).filter (λx=>!eW (aR sh s) x.tag)=X;unfold sY BQ;simp only[aU,e1,bd,aC,bH];rw[bu kZ hiE,tg];simp only[bc,bK];rw[bU,h41.1,h41.2];have hnx:ag IntKind.i64 ((i:Int).add 1)=((i+1:Nat):Int):=by rw[cf,aQ (by omega) (by omega)];rfl
    have hend:(bif aj 4 4 then ob (fm w (aj 1 1) 6) λ(x112:PUnit⊕Int)=>dI x112 (λ(x113:PUnit)=>g (at_:Int) (dir:Int) (aA bR E) (aA bR (E.filter λx=>fG (aR sh s) x.tag)) (aA bR (E.filter λx=>fK (aR sh s) x.tag)) (aA bR X) (aA bR E) (E.length:Int) (ag IntKind.i64 ((i:Int).add 1)) (ah b) o (ct sh) tl c no so (ae 0 []) (gL (aR sh s).bP) (aR sh s).at_ (aR sh s).cG (aR sh s).next (eP T) (S.flatMap cd) (D.flatMap cC) []) λ(x114:Int)=>some (Sum.inr (x114,ah b,o,ct sh,tl,c,(no:Int),so,eP T,S.flatMap cd)) else(none:tr))=g (at_:Int) (dir:Int) (aA bR E) (aA bR (E.filter λx=>fG (aR sh s) x.tag)) (aA bR (E.filter λx=>fK (aR sh s) x.tag)) (aA bR X) (aA bR E) (E.length:Int) ((i+1:Nat):Int) (ah b) o (ct sh) tl c no so (ae 0 []) (gL (aR sh s).bP) (aR sh s).at_ (aR sh s).cG (aR sh s).next (eP T) (S.flatMap cd) (D.flatMap cC) []:=by rw[hnx];rfl
    rcases X with _|⟨y,X⟩
    ·have e5:decide ((0:Int)<Int.ofNat ([]:H1 bn).length)=false:=rfl;rw[e5,aD];exact hend
    ·have e5:decide ((0:Int)<Int.ofNat (y::X).length)=true:=by rw[cm,bO,cc];omega
     have hy:eW (aR sh s) y.tag=false:=by have:=(o7.1 (show y∈(E.drop (i+1)).filter (λx=>!eW (aR sh s) x.tag) by rw[hX];exact nr)).2;simpa using this
     have cA:¬(E[i].tag=y.tag):=λq=>by rw[q,hy] at ho;cases ho
     have x0:∀(K:H1 Qu->tr),aJ 4 0 (aA bR (y::X)) K=K (bR y++(X.flatMap bR)):=λK=>bu kZ (l:=y::X) (m:=0) (by rw[cc];omega) K;rw[e5,aC,x0,tg];simp only[bc,bK,bY,cA,bM,aD];have hend2:=hend;simp only[bY] at hend2;exact hend2
   ·rw[aq ho] at hr;split at hr
    ·cases hr
    rename_i t S1 hv1;split at hr
    ·cases hr
    rename_i ts2 S2' ht;injection hr with hr;cases hr;obtain⟨u,hu⟩:=yk ht;obtain⟨_,T1,so1,t1,t2,t3⟩:=akY (w:=w) (dir:=dir) R HT hv1 (hE _ hmem) (by have:=bX List.length hu;rw[aP] at this;omega) (ct sh) c (no:Int) so;rw[hTl] at t2 t3;obtain⟨T',so',v1,v2,v3⟩:=ih (i+1) (v -1) S1 T1 so1 ts2 (D++[t]) (by omega) (by omega) (by rw[aP,wX];omega) ht (by rw[<-hDr];simp) t1 t2;refine⟨T',so',v1,v2,?_⟩;rw[<-v3];generalize hg:lp zt (sY w rec) (v -1)=g;have ho':eW (aR sh s) E[i].tag=false:=by simpa using ho
    have hfl:(E.drop i).filter (λx=>!eW (aR sh s) x.tag)=E[i]::(E.drop (i+1)).filter (λx=>!eW (aR sh s) x.tag):=by rw[cW hiE,kE,ho'];rfl
    rw[hfl];generalize hX:(E.drop (i+1)).filter (λx=>!eW (aR sh s) x.tag)=X;unfold sY BQ;simp only[aU,e1,bd,aC,bH];rw[bu kZ hiE,tg];simp only[bc,bK];rw[bU];have e5:decide ((0:Int)<Int.ofNat (E[i]::X).length)=true:=by rw[cm,bO,cc];omega
    have x0:∀(K:H1 Qu->tr),aJ 4 0 (aA bR (E[i]::X)) K=K (bR E[i]++(X.flatMap bR)):=λK=>bu kZ (l:=E[i]::X) (m:=0) (by rw[cc];omega) K;rw[e5,aC,x0,tg];simp only[bc,bK,bY,bd,aC];rw[t3];simp only[aB,iO];have hr1:aF (D.flatMap cC).length=true:=by rw[cy ig];simp;omega
    rw[hr1,bU];have e6:1<=(E[i]::X).length:=by rw[cc];omega
    simp only[show aF 1=true from rfl,eY,er,ox,qa,cc,List.length_nil,gA,aM,bd,show Nat.beq (0+1+1+1+1) 4=true from rfl,aC,cf];have e7:1<=X.length+1:=by omega
    have e8:decide (1<=X.length+1)=true:=dZ e7;rw[e8,aC,r8 kZ (E[i]::X) (a:=1) (b:=X.length+1) (by rw[cc];omega),show X.length+1 -1=X.length by omega,List.drop_succ_cons,er,eQ (aM _),aQ (n:=(i:Int)+1) (by omega) (by omega),show(i:Int)+1=((i+1:Nat):Int) by omega,fo];have htc:[t].flatMap cC=[Value.int .i64 t.tag,.int .i64 t.ty,.int .i64 t.az,ah t.data]:=rfl;rw[htc]
 have hfin0:=key E.length 0 w S T so tags [] (by omega) (by omega) (aM _) (by rw[er];exact h2) rfl H htl;rw[er] at hfin0;exact hfin0
theorem RC(b:H1 UInt8)(o:Int):∀(n p:Nat),∀x∈jZ b o p n,x.slot<4294967296
 |0,_,x,h=>by cases h
 |n+1,p,x,h=>by
  rcases cX.1 (h) with rfl|h
  ·exact EK b (p+8) o
  ·exact RC b o n (p+12) x h
theorem alW{w L:Nat}{b:H1 UInt8}{o:Int}(R:qR w L b o){sh:H1 bg}(hsh:jc sh)(hlk:∀s,s<sh.length->(aR sh s).bP.length<100000){f:Nat}{rec:rV}(hrec:xc sh b o L f rec):xc sh b o L (f+1) (It w rec):=by
 have hsm:=R.small;have hlen:=R.len;have hw:=R.wide;intro at_ s no Sp d next no' S' T so c h hs hat hS hno HT
 rw[kM] at h;split at h
 case isFalse=>cases h
 rename_i h0;split at h
 ·cases h
 rename_i hn;split at h
 ·cases h
 rename_i S1 h1;split at h
 case isFalse=>cases h
 rename_i hr;split at h
 ·cases h
 rename_i tags S2 h2;split at h
 ·cases h
 rename_i hP1;split at h
 ·cases h
 rename_i subs no2 S3 h3;rw[hlen] at h0 h1;obtain⟨a1,_,a3⟩:=pS h1;obtain⟨u2,e2⟩:=yk h2;obtain⟨k,u3,e3⟩:=BC (BA f) h3;obtain⟨n,hnn⟩:∃n,cq b at_ 2 o=n:=⟨_,rfl⟩;have hn2:n<65536:=by rw[<-hnn];exact Ug b at_ R.ord
 obtain⟨E,hE⟩:∃E,jZ b o (at_+2) n=E:=⟨_,rfl⟩;have hEl:E.length=n:=by rw[<-hE,Ka]
 have hEs:∀x∈E,x.slot<4294967296:=by rw[<-hE];exact RC b o n _
 rw[hnn,hE] at h;dsimp only at a3;have hS13:Sp.length<=S3.length:=by rw[e3,e2,a1];simp only[aP];omega
 have hend:∃S4 blob,((∃p q,(E.filter λx=>fK (aR sh s) x.tag)=[p,q]/\q.slot≠0/\p.slot<4294967296/\q.slot<4294967296/\lE L S3 ⟨4,(no:Int),0,p.slot,q.slot⟩=.ok S4/\blob=(b.drop p.slot).take q.slot)\/((E.filter λx=>fK (aR sh s) x.tag).length≠2/\S4=S3/\blob=[]))/\
  d=.mk tags subs blob/\next=cq b (at_+2+12*n) 4 o/\no'=no2/\S'=S4:=by
  split at h
  ·rename_i p q hpq;split at h
   ·cases h
   rename_i hq;split at h
   ·cases h
   rename_i S4 ht;injection h with h;cases h;refine⟨_,_,.inl ⟨p,q,hpq,hq,?_,?_,by rw[<-hlen];exact ht,rfl⟩,rfl,rfl,rfl,rfl⟩
   ·exact hEs p (o7.1 (show p∈E.filter λx=>fK (aR sh s) x.tag by rw[hpq];simp)).1
   ·exact hEs q (o7.1 (show q∈E.filter λx=>fK (aR sh s) x.tag by rw[hpq];simp)).1
  ·rename_i hno2;injection h with h;cases h;refine⟨_,_,.inr ⟨λq=>?_,rfl,rfl⟩,rfl,rfl,rfl,rfl⟩
   rcases hF:(E.filter λx=>fK (aR sh s) x.tag) with _|⟨x,_|⟨y,_|⟨z,l⟩⟩⟩<;>grind
 obtain⟨S4,blob,hfin,rfl,rfl,rfl,rfl⟩:=hend;have hS34:S3.length<=S'.length:=by
  rcases hfin with⟨p,q,_,_,_,_,ht,_⟩|⟨_,e',_⟩
  ·rw[(pS ht).1,aP];omega
  ·rw[e'];omega
 obtain⟨T1,t1,t2,t3⟩:=akW R HT h0.1 h0.2 hn h1 hr (by omega) (by omega) (ct sh) c (ag .i64 ((no:Int).add 1)) so;rw[hnn] at t3 hn h1 hr h2 hP1 h3;rw[hE] at t3 h2 hP1 h3;have haw:ag IntKind.i64 ((no:Int).add 1)=((no+1:Nat):Int):=by rw[cf,aQ (by omega) (by omega)];rfl
 rw[haw] at t3;obtain⟨T',so',v1,v2,v3⟩:=amd R hsh hs (hlk s hs) hrec (at_:=at_) (dir:=no) hEs (by omega) (by omega) h2 hP1 h3 hfin hS hno (by omega) t1 so c;rw[t2] at v2 v3;refine⟨T',so',v1,v2,?_⟩;unfold It;rw[bH,show ct sh=aA jz sh from rfl,bu zk hs];have hsg:sh[s]=aR sh s:=by unfold aR;rw[cw hs];rfl
 have tg:∀(S:bg)(r:H1 Qu),jz S++r=gL S.bP::.int .i64 S.at_::.int .i64 S.cG::.int .i64 S.next::r:=λ_ _=>rfl;rw[hsg,tg];simp only[bc,bK];rw[show aj (no:Int) (no:Int)=true by rw[bY,cm],aC,haw,show aA jz sh=ct sh from rfl,t3];simp only[aB,iO];rw[akX E _ (hsh.ok s) (by have:=hlk s hs;omega) (by have:=hlk s hs;omega) (by omega) (by omega)];simp only[aB];rw[bU];rw[hEl] at v3;rw[hEl];exact v3
theorem Re{w L:Nat}{b:H1 UInt8}{o:Int}(R:qR w L b o){sh:H1 bg}(hsh:jc sh)(hlk:∀s,s<sh.length->(aR sh s).bP.length<100000)(z:rV):
 ∀(f n:Nat),f<=n->xc sh b o L f (mh z (It w) n)
 |0,n,_=>by
  intro at_ s no Sp d next no' S' T so c h
  cases h
 |f+1,n+1,h=>by exact alW R hsh hlk (Re R hsh hlk z f n (by omega))
theorem akA{w L:Nat}{b:H1 UInt8}{o:Int}(R:qR w L b o){sh:H1 bg}(hsh:jc sh)(hlk:∀s,s<sh.length->(aR sh s).bP.length<100000){f:Nat}(hf:f<=w):xc sh b o L f (Hl w):=Re R hsh hlk _ f w hf
theorem Wz{rd:Nat->Nat->Nat->H1 bo->Except Int (aV×Nat×Nat×H1 bo)}(hrd:∀a s no S d n no' S',rd a s no S=.ok (d,n,no',S')->no'+S.length<=no+S'.length){Sh:bg}:∀{K:H1 bn}{no no':Nat}{S S':H1 bo}{r:cK},mB rd Sh K no S=.ok (r,no',S')->no'+S.length<=no+S'.length
 |[],no,no',S,S',r,h=>by rw[mB] at h;cases h;exact aM _
 |x::K,no,no',S,S',r,h=>by
  rw[mB] at h;split at h
  ·grind
  rename_i hd;split at h
  ·grind
  split at h
  ·grind
  rename_i hr;injection h with h;cases h;have a1:=hrd _ _ _ _ _ _ _ _ hd;have a2:=Wz hrd hr;omega
theorem Wy{b:H1 UInt8}{o:Int}{sh:H1 bg}:∀(f a s no:Nat)(S:H1 bo)(d:aV)(n no':Nat)(S':H1 bo),kM b o sh f a s no S=.ok (d,n,no',S')->no'+S.length<=no+S'.length
 |0,a,s,no,S,d,n,no',S',h=>by rw[kM] at h;cases h
 |f+1,a,s,no,S,d,n,no',S',h=>by
  rw[kM] at h;split at h
  case isFalse=>cases h
  split at h
  ·cases h
  split at h
  ·cases h
  rename_i S1 h1;split at h
  case isFalse=>cases h
  split at h
  ·cases h
  rename_i h2;split at h
  ·cases h
  split at h
  ·cases h
  rename_i S3 h3;have e1:=bX List.length (pS h1).1;rw[aP,wX] at e1;obtain⟨u2,e2⟩:=yk h2;have e2:=bX List.length e2;rw[aP] at e2;have e3:=Wz (Wy f) h3;split at h
  ·split at h
   ·cases h
   split at h
   ·cases h
   rename_i h4;injection h with h;cases h;have e4:=bX List.length (pS h4).1;rw[aP] at e4;omega
  ·injection h with h;cases h;omega
theorem aib{b:H1 UInt8}{o:Int}{sh:H1 bg}:∀(f a s no:Nat)(S:H1 bo)(d:aV)(n no':Nat)(S':H1 bo),kM b o sh f a s no S=.ok (d,n,no',S')->n<4294967296
 |0,a,s,no,S,d,n,no',S',h=>by rw[kM] at h;cases h
 |f+1,a,s,no,S,d,n,no',S',h=>by
  rw[kM] at h;split at h
  case isFalse=>cases h
  split at h
  ·cases h
  split at h
  ·cases h
  split at h
  case isFalse=>cases h
  split at h
  ·cases h
  split at h
  ·cases h
  split at h
  ·cases h
  split at h
  ·split at h
   ·cases h
   split at h
   ·cases h
   injection h with h;cases h;exact EK _ _ _
  ·injection h with h;cases h;exact EK _ _ _
theorem Wx{b:H1 UInt8}{o:Int}{sh:H1 bg}:∀(f:Nat)(first:Bool)(a:Nat)(s:Int)(no:Nat)(S:H1 bo)(ds:H1 aV)(S':H1 bo),oS b o sh f first a s no S=.ok (ds,S')->∃u,S'=S++u
 |0,first,a,s,no,S,ds,S',h=>by rw[oS] at h;cases h
 |f+1,first,a,s,no,S,ds,S',h=>by
  rw[oS] at h;split at h
  ·simp_all
  split at h
  ·grind
  split at h
  ·grind
  rename_i hd;split at h
  ·grind
  rename_i hc;injection h with h;cases h;obtain⟨_,u,rfl⟩:=BA _ _ _ _ _ _ _ _ _ hd;obtain⟨v,rfl⟩:=Wx f _ _ _ _ _ _ _ hc;simp
theorem QV{w L:Nat}{b:H1 UInt8}{o:Int}(R:qR w L b o){sh:H1 bg}(hsh:jc sh)(hlk:∀s,s<sh.length->(aR sh s).bP.length<100000)(hl:sh.length<100000){S':H1 bo}(hS:S'.length<100000000)(c:Nat)(tl:Nat):
 ∀(f v at_:Nat)(s:Int)(no:Nat)(Sp:H1 bo)(D ds:H1 aV)(T:H1 Nat)(so:Int),f<v->D.length+f<=sh.length+2->oS b o sh f D.isEmpty at_ s no Sp=.ok (ds,S')->at_<4294967296->s<sh.length->no<=Sp.length->Tk T L (gF Sp)->T.length=tl->
  ∃T' so' no',lp DF (xw w) v (at_:Int) s (ah b) o (ct sh) tl c (no:Int) so o 0 (eP T) (Sp.flatMap cd) (D.flatMap dr)=some (o,0,ah b,o,ct sh,tl,c,no',so',(D++ds).flatMap dr,eP T',S'.flatMap cd)
 |0,v,at_,s,no,Sp,D,ds,T,so,_,_,h,_,_,_,_,_=>by rw[oS] at h;cases h
 |f+1,v,at_,s,no,Sp,D,ds,T,so,hv,hD,h,hat,hs,hno,HT,hTl=>by
  have hw:=R.wide;have h232:∀n,fm w true n=some (.inl ()):=λ_=>rfl;rw[oS] at h;rw[eU DF (xw w) (by omega)];split at h
  ·rename_i h0;injection h with h;cases h;rw[h0.1];have hDe:D.length≠0:=by
    intro q;have:D=[]:=qM.1 q;rw[this] at h0;exact absurd h0.2 (by decide)
   refine⟨T,so,(no:Int),?_⟩;unfold xw F6 BN;have e1:ak 0 ((0:Nat):Int)=false:=rfl;have e2:aj (Int.ofNat ((D.flatMap dr).length/3)) 0=false:=by rw[cy kX,bY,gQ,bO];omega
   simp_all
  ·rename_i h0;split at h
   ·cases h
   rename_i hs0;split at h
   ·cases h
   rename_i d next no1 S1 hd
   split at h
   ·cases h
   rename_i ds2 S2 hc;injection h with h;cases h;have hst:(s.toNat:Int)=s:=mI (by omega);have hsl:s.toNat<sh.length:=by omega
   obtain⟨u,hu⟩:=Wx _ _ _ _ _ _ _ _ hc;have hu:=bX List.length hu;rw[aP] at hu;have hcn:=Wy _ _ _ _ _ _ _ _ _ hd;obtain⟨T1,so1,t1,t2,t3⟩:=akA R hsh hlk (f:=sh.length) (by omega) at_ s.toNat no Sp d next no1 S1 T so c hd hsl hat (by omega) (by omega) HT
   rw[hTl] at t2 t3;rw[hst] at t3;have hnx:=hsh.next s.toNat hsl;obtain⟨T',so',no',v3⟩:=QV R hsh hlk hl hS c tl f (v -1) next (aR sh s.toNat).next no1 S1 (D++[d]) ds2 T1 so1 (by omega) (by rw[aP,wX];omega) (by
    have:(D++[d]).isEmpty=false:=by cases D<;>rfl
    rw[this];exact hc) (aib _ _ _ _ _ _ _ _ _ hd) (by omega) (by omega) t1 t2
   refine⟨T',so',no',?_⟩;rw[ed] at v3;rw[show D++d::ds2=D++([d]++ds2) from rfl,<-v3];generalize hg:lp DF (xw w) (v -1)=g;have hsn:(!ak s 0)=true:=by rw[aU,eB (by omega:¬s<0)];rfl
   have hr1:aF (D.flatMap dr).length=true:=by rw[cy kX];simp;omega
   have hsg:sh[s.toNat]=aR sh s.toNat:=by unfold aR;rw[cw hsl];rfl
   have tg:∀(S:bg)(r:H1 Qu),(jz S++r).drop 3=.int .i64 S.next::r:=λ_ _=>rfl;have hdc:List.take 3 (List.drop 0 [dT d,dS d,dB d])=[d].flatMap dr:=by rw[dG,lH,dP,ql];rfl
   have x0:∀(K:H1 Qu->Zh (Int×Int×Qu×Int×Qu×Nat×Nat×Int×Int×H1 Qu×H1 Qu×H1 Qu)),aE s (λx58=>aJ 4 x58 (ct sh) K)=K (jz (aR sh s.toNat)++(sh.drop (s.toNat+1)).flatMap jz):=by intro K;rw[<-hst,bH,show ct sh=aA jz sh from rfl,nq,bu zk hsl,hsg]
   unfold xw F6 BN;have fin:∀(A:Int->Zh (Int×Int×Qu×Int×Qu×Nat×Nat×Int×Int×H1 Qu×H1 Qu×H1 Qu))(B:Int×Qu×Int×Qu×Nat×Nat×Int×Int×H1 Qu×H1 Qu->Zh (Int×Int×Qu×Int×Qu×Nat×Nat×Int×Int×H1 Qu×H1 Qu×H1 Qu)),
    (ob (fm w (!ak s 0) 2) λ(x43:PUnit⊕Int)=>dI x43 (λ(x44:PUnit)=>ob (Hl w (at_:Int) s (ah b) o (ct sh) tl c (no:Int) so (eP T) (Sp.flatMap cd)) λx45=>dI x45 (λ(x46:Qu×Qu×Qu×Int×Qu×Int×Qu×Nat×Nat×Int×Int×H1 Qu×H1 Qu)=>bif aF (D.flatMap dr).length&&(aF 1&&(List.take 3 (List.drop 0 [x46.fst,x46.snd.fst,x46.snd.snd.fst])).length.beq 3) then aE s λ(x47:Nat)=>aJ 4 x47 x46.snd.snd.snd.snd.snd.snd.fst λ(x48:H1 Qu)=>af (List.drop 3 x48) λ(x49:Qu)(x50:H1 Qu)=>aw IntKind.i64 x49 λ(x51:Int)=>g x46.snd.snd.snd.fst x51 x46.snd.snd.snd.snd.fst x46.snd.snd.snd.snd.snd.fst x46.snd.snd.snd.snd.snd.snd.fst x46.snd.snd.snd.snd.snd.snd.snd.fst x46.snd.snd.snd.snd.snd.snd.snd.snd.fst x46.snd.snd.snd.snd.snd.snd.snd.snd.snd.fst x46.snd.snd.snd.snd.snd.snd.snd.snd.snd.snd.fst o 0 x46.snd.snd.snd.snd.snd.snd.snd.snd.snd.snd.snd.fst x46.snd.snd.snd.snd.snd.snd.snd.snd.snd.snd.snd.snd (D.flatMap dr++List.take 3 (List.drop 0 [x46.fst,x46.snd.fst,x46.snd.snd.fst])) else none) B) A)=g (next:Int) (aR sh s.toNat).next (ah b) o (ct sh) tl c (no1:Int) so1 o 0 (eP T1) (S1.flatMap cd) ((D++[d]).flatMap dr):=by
    intro A B;rw[hsn,h232];simp only[aB,iO];rw[t3];simp only[aB,iO];rw[hr1,hdc,x0,tg];simp only[bc,bK];rw[fo,show[d].flatMap dr=dr d++[] from rfl,dP,kX];rfl
   by_cases hp:0<at_
   ·have e1:ak 0 (at_:Int)=true:=by rw[aU,cm];omega
    rw[e1,aC];exact fin _ _
   ·have e1:ak 0 (at_:Int)=false:=by rw[aU,gQ];omega
    have hDe:D=[]:=by
     cases D with
     |nil=>rfl
     |cons a l=>exact absurd ⟨by omega,rfl⟩ h0
    have e2:aj (Int.ofNat ((D.flatMap dr).length/3)) 0=true:=by rw[hDe];rfl
    rw[e1,aD,e2,aC];exact fin _ _
theorem WK:∀n:Nat,rep n (Value.int IntKind.u64 0).cells.toList=eP (List.replicate n 0)
 |0=>rfl
 |n+1=>by show _++rep n _=_;rw[WK n];rfl
theorem amE(L:Nat):Tk (List.replicate (L/64+1) 0) L (gF []):=by
 refine⟨uK,λn hn=>(by grind),λp hp=>?_⟩
 ·unfold DB gF
  grind
theorem Oa{w:Nat}{b:H1 UInt8}{sh:H1 bg}(hb:b.length<2^29)(hw:b.length+200000<w)(hsh:jc sh)(hlk:∀s,s<sh.length->(aR sh s).bP.length<100000)(hl:sh.length<100000)(h0:0<sh.length)(tO:rC w (ct sh)=some true){o:Int}{ds:H1 aV}{S:H1 bo}(hS:S.length<100000000)(h:uH b sh=.ok (⟨o,ds⟩,S)):
 yN w (ah b) (ct sh)=some (o,db ds,aA cd S,0):=by
 unfold uH at h;split at h
 ·cases h
 split at h
 ·cases h
 rename_i h42;split at h
 ·cases h
 rename_i ds1 Sx hc;injection h with h;injection h with h1 h2;injection h1 with h1 h3;subst h1 h2 h3;have ho:lQ b=1\/lQ b=2:=by
  have:lQ b≠0:=λq=>h42 (.inl q);unfold lQ at this⊢;split
  ·exact .inl rfl
  ·split
   ·exact .inr rfl
   ·rename_i a c;rw[aq a,aq c] at this;exact absurd rfl this
 have R:qR w b.length b (lQ b):=⟨rfl,hb,hw,ho⟩;obtain⟨T1,t1,t2,t3⟩:=akz R (by omega) rfl (qK.1 λq=>h42 (.inr q)) (amE b.length) (ct sh) (b.length/64+1) 0 0;rw[uK] at t2 t3;obtain⟨T2,so2,no2,v3⟩:=QV R hsh hlk hl hS (b.length/64+1) (b.length/64+1) (sh.length+2) w (cq b 4 4 (lQ b)) 0 0 [⟨1,-1,0,0,8⟩] [] ds1 T1 0 (by omega) (by simp) hc (EK _ _ _) (by omega) (by omega) t1 t2;have h180:G9 w (ah b) (ct sh)=some (ah b,0,ct sh,b.length/64+1,b.length/64+1,0,0,eP (List.replicate (b.length/64+1) 0),[]):=by
  unfold G9;rw[cN,bO,JS _ (by omega),cf,aQ (by omega) (by omega),show((b.length/64:Nat):Int)+1=((b.length/64+1:Nat):Int) by omega];simp only[bH];have e1:b.length/64+1<=1000000000:=by omega
  simp only[gA,aM,e1,bd,jB,kA];rw[WK];rfl
 have h181:Ha w (ah b) 0 (ct sh) (b.length/64+1) (b.length/64+1) 0 0 (eP (List.replicate (b.length/64+1) 0)) []=some (lQ b,0,ah b,lQ b,ct sh,b.length/64+1,b.length/64+1,no2,so2,ds1.flatMap dr,eP T2,Sx.flatMap cd):=by unfold Ha BN;rw[tO];rw[t3];exact v3
 unfold yN;rw[h180];simp;rw[h181];simp only[aB];rw[Y5 Sx _ rfl,cy kX,ir _ (by decide)];rfl
theorem Yw(w:Nat)(a b c t:Int)(d:Qu):wB w a b c d t=some (if a<t then-1 else if t<a then 1 else 0):=by
 unfold wB ON HF;by_cases h:a<t
 ·simp[h]
 ·by_cases h2:t<a
  ·simp[h,h2]
  ·simp[h,h2]
theorem Oz{w:Nat}(l:H1 aN)(t:Int)(hr:fP l=true)(hl:l.length<2^40)(hw:l.length+2<w):
 ∃i:Nat,yS w (au l) t=some ((i:Int),(iK l t).isSome)/\i<=l.length/\(∀h:(iK l t).isSome=true,∃h':i<l.length,iK l t=some l[i])/\(∀x (h:x<l.length),x<i->l[x].tag<t)/\∀x (h:x<l.length),i<=x->t<=l[x].tag:=by
 have key:∀(k i j v:Nat),j=i+k->j<=l.length->k+1<v->(∀x (h:x<l.length),x<i->l[x].tag<t)->(∀x (h:x<l.length),j<=x->t<=l[x].tag)->
  ∀(z:Qu->Int->Int->Int->Int->Zh (Int×Bool))(F:(Qu->Int->Int->Int->Int->Zh (Int×Bool))->Qu->Int->Int->Int->Int->Zh (Int×Bool)),
  (∀(x8:Qu->Int->Int->Int->Int->Zh (Int×Bool))(x9:Qu)(x10 x11 x12 x13:Int),F x8 x9 x10 x11 x12 x13=bif ak x12 x13 then aE (ag IntKind.i64 ((ag IntKind.u64 (ag IntKind.i64 (x12.add x13))).fdiv (2^1))) λ(x14:Nat)=>aJ 4 x14 x9 λ(x15:H1 Qu)=>af x15 λ(x16:Qu)(x17:H1 Qu)=>aw IntKind.i64 x16 λ(x18:Int)=>af x17 λ(x19:Qu)(x20:H1 Qu)=>aw IntKind.i64 x19 λ(x21:Int)=>af x20 λ(x22:Qu)(x23:H1 Qu)=>aw IntKind.i64 x22 λ(x24:Int)=>af x23 λ(x25:Qu)(x26:H1 Qu)=>ob (wB w x18 x21 x24 x25 x10) λ(x27:Int)=>bif ak x27 0 then x8 x9 x10 x11 (ag IntKind.i64 ((ag IntKind.i64 ((ag IntKind.u64 (ag IntKind.i64 (x12.add x13))).fdiv (2^1))).add 1)) x13 else x8 x9 x10 x11 x12 (ag IntKind.i64 ((ag IntKind.u64 (ag IntKind.i64 (x12.add x13))).fdiv (2^1))) else bif ak x12 x11 then aE x12 λ(x28:Nat)=>aJ 4 x28 x9 λ(x29:H1 Qu)=>af x29 λ(x30:Qu)(x31:H1 Qu)=>aw IntKind.i64 x30 λ(x32:Int)=>af x31 λ(x33:Qu)(x34:H1 Qu)=>aw IntKind.i64 x33 λ(x35:Int)=>af x34 λ(x36:Qu)(x37:H1 Qu)=>aw IntKind.i64 x36 λ(x38:Int)=>af x37 λ(x39:Qu)(x40:H1 Qu)=>ob (wB w x32 x35 x38 x39 x10) λ(x41:Int)=>some (x12,aj x41 0) else some (x12,false))->
  ∃i':Nat,lp z F v (au l) t l.length i j=some ((i':Int),(iK l t).isSome)/\i'<=l.length/\(∀h:(iK l t).isSome=true,∃h':i'<l.length,iK l t=some l[i'])/\(∀x (h:x<l.length),x<i'->l[x].tag<t)/\∀x (h:x<l.length),i'<=x->t<=l[x].tag:=by
  intro k;induction k using Nat.strongRecOn with
  |ind k ih=>
   intro i j v hj hjl hv h1 h2 z F hF;have tg:∀(y:aN)(r:H1 Qu),cC y++r=Value.int .i64 y.tag::.int .i64 y.ty::.int .i64 y.az::ah y.data::r:=λ_ _=>rfl;rw[eU z F (by omega),hF];by_cases hk:k=0
   ·subst hk;have e1:¬((i:Int)<(j:Int)):=by omega
    simp only[aU,e1,bM,aD];by_cases hi:i<l.length
    ·have e2:((i:Int)<(l.length:Int)):=by omega
     simp only[e2,bd,aC,bH];rw[show au l=aA cC l from rfl,bu ig hi,tg];simp only[bc,bK];rw[Yw];simp only[aB];have hge:=h2 i hi (by omega);by_cases he:l[i].tag=t
     ·have hf:iK l t=some l[i]:=by
       unfold iK;rw[List.find?_eq_some_iff_getElem];refine⟨by simp[he],i,hi,rfl,λx hx=>?_⟩;have:=h1 x (by omega) hx;simp;omega
      refine⟨i,?_,by omega,λ_=>⟨hi,hf⟩,h1,λx h q=>h2 x h (by omega)⟩;rw[hf,aq (by omega),aq (by omega)];rfl
     ·have hf:iK l t=none:=by
       unfold iK;rw[List.find?_eq_none];intro y hy;obtain⟨x,hx,rfl⟩:=List.mem_iff_getElem.1 hy;have a:=λq=>h1 x hx q;have b:x=i\/x<i\/i<x:=by omega
       rcases b with rfl|b|b
       ·simpa using he
       ·have:=h1 x hx b;simp;omega
       ·have:=vZ hr b hx;simp;omega
      refine⟨i,?_,by omega,(λh=>by rw[hf] at h;cases h),h1,λx h q=>h2 x h (by omega)⟩;rw[hf,aq (by omega),ay (by omega)];rfl
    ·have e2:¬((i:Int)<(l.length:Int)):=by omega
     simp only[e2,bM,aD];have hf:iK l t=none:=by unfold iK;rw[List.find?_eq_none];intro y hy;obtain⟨x,hx,rfl⟩:=List.mem_iff_getElem.1 hy;have:=h1 x hx (by omega);simp;omega
     exact⟨i,by rw[hf];rfl,by omega,(λh=>by rw[hf] at h;cases h),h1,λx h q=>h2 x h (by omega)⟩
   ·have e1:((i:Int)<(j:Int)):=by omega
    obtain⟨m,hm⟩:∃m,(i+j)/2=m:=⟨_,rfl⟩;have hmi:i<=m/\m<j:=by omega
    have haw:ag IntKind.i64 ((ag IntKind.u64 (ag IntKind.i64 ((i:Int).add (j:Int)))).fdiv (2^1))=(m:Int):=by rw[cf,aQ (n:=(i:Int)+(j:Int)) (by omega) (by omega),tw (by omega) (by omega),show((2:Int)^1)=2 from rfl,Int.fdiv_eq_ediv_of_nonneg _ (by decide),show((i:Int)+(j:Int))/2=(m:Int) by omega,aQ (by omega) (by omega)]
    simp only[aU,e1,bd,aC];rw[haw,bH,show au l=aA cC l from rfl,bu ig (by omega:m<l.length),tg];simp only[bc,bK];rw[Yw];simp only[aB];by_cases hlt:l[m].tag<t
    ·rw[ay hlt,show decide ((-1:Int)<0)=true from rfl,aC,cf,aQ (by omega) (by omega),show(m:Int)+1=((m+1:Nat):Int) by omega];refine ih (j -(m+1)) (by omega) (m+1) j (v -1) (by omega) hjl (by omega) (λx hx hxm=>?_) h2 z F hF;by_cases hxe:x=m
     ·subst hxe;exact hlt
     ·have:=vZ hr (show x<m by omega) (show m<l.length by omega);omega
    ·rw[aq hlt];have e3:∀(A B:Zh (Int×Bool)),(bif decide ((if t<l[m].tag then(1:Int) else 0)<0) then A else B)=B:=by
      intro A B;split<;>rfl
     rw[e3];refine ih (m -i) (by omega) i m (v -1) (by omega) (by omega) (by omega) h1 (λx hx hxm=>?_) z F hF;by_cases hxe:x=m
     ·subst hxe;omega
     ·have:=vZ hr (show m<x by omega) hx;omega
 obtain⟨i,a,b,c⟩:=key l.length 0 l.length w (by omega) (aM _) (by omega) (λ_ _ h=>by omega) (λx h h'=>by omega) _ _ (λ_ _ _ _ _ _=>rfl);refine⟨i,?_,b,c⟩;unfold yS OM Gd;refine Eq.trans (bX (λz=>ob z _) a) rfl
theorem GO{w:Nat}(l:H1 aN)(t:Int)(hr:fP l=true)(hl:l.length<2^40)(hw:l.length+2<w)(hd:∀t∈l,t.data.length<=1000000000):
 Ce w (au l) t=some (match iK l t with|some x=>(x.ty,x.az,ah x.data,true)|none=>(0,0,ae 0 [],false)):=by
 obtain⟨i,a,b,c,_⟩:=Oz l t hr hl hw;unfold Ce;rw[a];simp only[aB];cases hf:iK l t with
 |none=>rfl
 |some x=>
  obtain⟨h',e⟩:=c (by grind);rw[hf] at e;injection e with e;rw[bH,show au l=aA cC l from rfl,bu ig h',(show∀(y:aN)(r:H1 Qu),List.drop 1 (cC y++r)=.int .i64 y.ty::.int .i64 y.az::ah y.data::r fromλ_ _=>rfl)]
  simp;unfold uq;rw[rZ w _ (hd _ (cx h')),<-e];rfl
def xO(l:H1 aN):H1 (Int×aV)->H1 aN
 |[]=>l
 |(_,.mk tags _ _)::r=>xO tags r
theorem Tt:∀(s:cK)(l:H1 aN),xP l s=xO l (aS s)
 | .nil,l=>rfl
 | .cons _ (.mk tags _ _) r,l=>by rw[xP,Tt r tags];rfl
theorem tG(tags:H1 aN)(subs:cK)(blob:H1 UInt8):dr (.mk tags subs blob)=[au tags,ae (cj subs) (gO subs),ah blob]:=by rw[dr]
def ZY(m:Nat)(l:H1 (Int×aV)):Prop:=∀p∈l,iG m p.2
theorem ahn{w m:Nat}(hm:m<=1000000)(hw:m+20<w)(L:H1 (Int×aV))(hL:L.length<=m)(hS:ZY m L)(o:Int)(a b c e f g:Qu)(i0:H1 aN):
 lp VL (Fp w) w (aA gw L) L.length 0 o a b c (au i0) e f g=some (true,o,a,b,c,au (xO i0 L),e,f,g):=by
 refine nQ (ev:=λi s (k:Dj)=>k (aA gw L) L.length i o a b c (au s) e f g) (Inv:=λi s=>xO s (L.drop i)=xO i0 L) L.length i0 (by rw[er]) ?_ ?_ (by omega)
 ·intro i g s hi hI;have hsm:=hS _ (cx hi);rw[cW hi] at hI;have e1:((i:Int)<(L.length:Int)):=by omega
  have sg:∀(p:Int×aV)(r:H1 Qu),gw p++r=.int .i64 p.1 ::dT p.2 ::dS p.2 ::dB p.2 ::r:=by intro p r;unfold gw;rw[ql];rfl
  obtain⟨⟨tags,subs,blob⟩,hd⟩:∃d,L[i].2 =d:=⟨_,rfl⟩;have hsm2:tags.length<=m/\cj subs<=m/\blob.length<=m/\(∀t∈tags,t.data.length<=m)/\iH m subs:=by rw[hd] at hsm;exact hsm
  refine⟨tags,?_,?_⟩
  ·rw[<-hI,show L[i]=(L[i].1,L[i].2) from rfl,hd];rfl
  ·unfold Fp BO;simp only[aU,e1,bH];rw[bu uC hi,sg];simp only[bc];rw[hd,show dT (.mk tags subs blob)=au tags from rfl,sH tags (by omega) (λt ht=>by have:=hsm2.2.2.2.1 t ht;omega) (by omega)];simp only[cf];rw[aQ (by omega) (by omega)];rfl
 ·intro g s hI;rw[rN,xO] at hI;unfold Fp BO;simp;rw[hI]
theorem akx{w m:Nat}(A:Hand w)(hm:m<=1000000)(hw:m+20<w){r r':dJ}{d:aV}(hd:iG m d)(hr:∀tags subs blob,d=.mk tags subs blob->fP tags=true)(h:rf r d=some r'):
 Hj w (dT d) (dS d) (dB d) r.order (au r.cu) (au r.bG) (au r.bN) (au r.bm) (au r.first) (ah r.bF) (ah r.cP)=some (true,r'.order,au r'.cu,au r'.bG,au r'.bN,au r'.bm,au r'.first,ah r'.bF,ah r'.cP):=by
 obtain⟨tags,subs,blob⟩:=d;have hsm2:tags.length<=m/\cj subs<=m/\blob.length<=m/\(∀t∈tags,t.data.length<=m)/\iH m subs:=hd;have hrt:=hr tags subs blob rfl;have hsl:=uE subs;have hdrop:=A.drop tags 37500 hrt (by omega) (by omega) (λt ht=>by have:=hsm2.2.2.2.1 t ht;omega);have hlp:=ahn hm hw (aS subs) (by omega) (λp hp=>xi hsm2.2.2.2.2 p hp) r.order (au r.cu) (au (pD tags 37500)) (au r.bN) (au r.first);unfold Hj BO;rw[show dT (.mk tags subs blob)=au tags from rfl,show dS (.mk tags subs blob)=ae (cj subs) (gO subs) from rfl,(GO tags 37500 hrt (by omega) (by omega) (λt ht=>by have:=hsm2.2.2.2.1 t ht;omega)),CX];simp only[rf,Tt] at h;cases hf:iK tags 37500 with
 |some v=>
  rw[hf] at h;simp only at h;split at h
  case isFalse=>cases h
  rename_i h7;injection h with h;subst h;simp;rw[h7,hdrop];exact hlp _ _ _
 |none=>rw[hf] at h;injection h with h;subst h;rw[hdrop];simp only[abn];exact hlp _ _ _
theorem adI{w m:Nat}(hm:m<=1000000)(hw:m+20<w)(ds:H1 aV)(hl:ds.length<=m)(hS:oC m ds)(r x:dJ)(hx:vp r ds=x)(hc:iS x=0)(hE:jR x m)(A B C D E F G:Qu):
 lp Uj (EO w) w (aA dr ds) ds.length 0 0 A B C D E F G r.order (au r.cu) (au r.bG) (au r.bN) (au r.bm) (au r.first) (ah r.bF) (ah r.cP)=some (x.order,au x.cu,au x.bG,au x.bN,au x.bm,au x.first,ah x.bF,ah x.cP,0):=by
 refine nQ (σ:=dJ) (ev:=λi s (k:Dg)=>k (aA dr ds) ds.length i 0 A B C D E F G s.order (au s.cu) (au s.bG) (au s.bN) (au s.bm) (au s.first) (ah s.bF) (ah s.cP)) (Inv:=λi s=>vp s (ds.drop i)=x) ds.length r hx ?_ ?_ (by omega)
 ·intro i g s hi hI;have hsm:=hS _ (cx hi);rw[cW hi] at hI;obtain⟨⟨tags,subs,blob⟩,hd⟩:∃d,ds[i]=d:=⟨_,rfl⟩;rw[hd] at hI hsm;have hsm2:tags.length<=m/\cj subs<=m/\blob.length<=m/\(∀t∈tags,t.data.length<=m)/\iH m subs:=hsm;refine⟨_,hI,?_⟩;unfold EO;simp_all;rw[bu kX hi,hd,Ao];simp;rw[show dT (.mk tags subs blob)=au tags from rfl,show dB (.mk tags subs blob)=ah blob from rfl,sH tags (by omega) (λt ht=>by have:=hsm2.2.2.2.1 t ht;omega) (by omega),rZ w blob (by omega),aQ (by omega) (by omega)];rfl
 ·intro g s hI;rw[rN,vp] at hI;subst hI;unfold EO;simp;rw[Yq hE (by omega) hw,hc];rfl
def rI(r:dJ):H1 (Int×aV)->Zh dJ
 |[]=>some r
 |(tag,d)::s=>if tag=34853 then rI {r with bN:=(match d with| .mk tags _ _=>tags)} s else(rf r d).bind λr=>rI r s
theorem PK:∀(s:cK)(r:dJ),rH r s=rI r (aS s)
 | .nil,r=>rfl
 | .cons tag (.mk tags a b) s,r=>by
  show(if tag=34853 then rH {r with bN:=tags} s else(rf r (.mk tags a b)).bind λr=>rH r s)=(if tag=34853 then rI {r with bN:=tags} (aS s) else(rf r (.mk tags a b)).bind λr=>rI r (aS s))
  split
  ·exact PK s _
  ·congr 1
   funext r
   exact PK s r
theorem al8(r:dJ)(tag:Int)(d:aV)(s:H1 (Int×aV)):rI r ((tag,d)::s)=if tag=34853 then rI {r with bN:=(match d with| .mk tags _ _=>tags)} s else(rf r d).bind λr=>rI r s:=by rfl
def Dr(d:aV):Prop:=∀tags subs blob,d=.mk tags subs blob->fP tags=true
theorem akk{w m:Nat}(A:Hand w)(hm:m<=1000000)(hw:m+20<w){o:Int}{ds:H1 aV}{x:dJ}(h200:ur w o (db ds) (ct dC)=some 0)(h:xV ⟨o,ds⟩=some x)(hE:jR x m)(hl:ds.length<=m)(hS:oC m ds)(hr:∀d∈ds,∀tags subs blob,d=.mk tags subs blob->∀p∈aS subs,Dr p.2):
 G8 w o (db ds)=some (x.order,au x.cu,au x.bG,au x.bN,au x.bm,au x.first,ah x.bF,ah x.cP,0):=by
 unfold xV at h;rcases ds with _|⟨⟨tags,subs,blob⟩,ds⟩
 ·cases h
 simp only at h;rw[PK] at h;obtain⟨r1,hr1,h⟩:=Option.bind_eq_some_iff.1 h;split at h
 case isFalse=>cases h
 rename_i hc;injection h with h;have hsm2:tags.length<=m/\cj subs<=m/\blob.length<=m/\(∀t∈tags,t.data.length<=m)/\iH m subs:=hS _ nr;have hrs:=hr _ nr tags subs blob rfl;have hsl:=uE subs;rw[cc] at hl;have e0:∀(K:H1 Qu->Zh (Int×Qu×Qu×Qu×Qu×Qu×Qu×Qu×Int)),aJ 3 0 (db (.mk tags subs blob::ds)) K=K (dr (.mk tags subs blob)++ds.flatMap dr):=λK=>bu kX (m:=0) (by rw[cc];omega) K
 have d0:∀r:H1 Qu,List.drop 0 (dr (.mk tags subs blob)++r)=au tags::ae (cj subs) (gO subs)::ah blob::r:=by intro r;rw[tG];rfl
 have d1:∀r:H1 Qu,List.drop 1 (dr (.mk tags subs blob)++r)=ae (cj subs) (gO subs)::ah blob::r:=by intro r;rw[tG];rfl
 unfold G8;rw[Om];simp only[aB];rw[h200];simp only[aB];rw[show(!aj 0 0)=false from rfl,aD,e0,d0];simp only[bc];rw[sH tags (by omega) (λt ht=>by have:=hsm2.2.2.2.1 t ht;omega) (by omega)];simp only[aB];rw[e0,d1];simp only[bc];rw[CX,bU];have main:lp Ui (EN w) w (aA gw (aS subs)) (aS subs).length 0 o (db (.mk tags subs blob::ds)) 0 (ae 0 []) (ae 0 []) (ae 0 []) (ae 0 []) (ae 0 []) (ae 0 []) (ae 0 []) o (au tags) (au []) (au []) (au []) (au []) (ah []) (ah [])=some (x.order,au x.cu,au x.bG,au x.bN,au x.bm,au x.first,ah x.bF,ah x.cP,0):=by
  refine nQ (σ:=dJ) (ev:=λi s (k:Df)=>k (aA gw (aS subs)) (aS subs).length i o (db (.mk tags subs blob::ds)) 0 (ae 0 []) (ae 0 []) (ae 0 []) (ae 0 []) (ae 0 []) (ae 0 []) (ae 0 []) s.order (au s.cu) (au s.bG) (au s.bN) (au s.bm) (au s.first) (ah s.bF) (ah s.cP)) (Inv:=λi s=>rI s ((aS subs).drop i)=some r1) (aS subs).length ⟨o,tags,[],[],[],[],[],[]⟩ ?_ ?_ ?_ (by omega)
  ·exact hr1
  ·intro i g s hi hI;have hmem:=cx hi;have hsm:=xi hsm2.2.2.2.2 _ hmem;have hri:=hrs _ hmem;rw[cW hi] at hI;have e1:((i:Int)<((aS subs).length:Int)):=by omega
   have sg:∀(p:Int×aV)(r:H1 Qu),gw p++r=.int .i64 p.1 ::dT p.2 ::dS p.2 ::dB p.2 ::r:=by intro p r;unfold gw;rw[ql];rfl
   rw[al8] at hI;unfold EN;simp_all;rw[bu uC hi,sg];simp;by_cases hg:(aS subs)[i].1 =34853
   ·rw[ay hg] at hI;simp_all;refine⟨_,hI,?_⟩;obtain⟨⟨tags2,subs2,blob2⟩,hd⟩:∃d,(aS subs)[i].2 =d:=⟨_,rfl⟩;rw[hd] at hsm⊢;have hsm3:tags2.length<=m/\cj subs2<=m/\blob2.length<=m/\(∀t∈tags2,t.data.length<=m)/\iH m subs2:=hsm;rw[show dT (.mk tags2 subs2 blob2)=au tags2 from rfl,sH tags2 (by omega) (λt ht=>by have:=hsm3.2.2.2.1 t ht;omega) (by omega)];rw[aQ (by omega) (by omega)];rfl
   ·rw[aq hg] at hI;simp_all;obtain⟨s2,hs2,hI⟩:=Option.bind_eq_some_iff.1 hI;refine⟨s2,hI,?_⟩;rw[akx A hm hw hsm hri hs2];simp only[aB,bW,aD,cf];rw[aQ (by omega) (by omega)];rfl
  ·intro g s hI;rw[rN,rI] at hI;injection hI with hI;subst hI;have e1:¬(((aS subs).length:Int)<((aS subs).length:Int)):=by omega
   unfold EN;simp;rw[show db (.mk tags subs blob::ds)=aA dr (.mk tags subs blob::ds) from rfl,bU];have e2:1<=(aV.mk tags subs blob::ds).length:=by rw[cc];omega
   simp only[gA,aM,e2,bd,jB,aC];rw[r8 kX _ (aM _),List.drop_succ_cons,er,eQ (by rw[cc];omega),bU];exact adI hm hw ds (by omega) (λd hd=>hS d (lU _ hd)) s x h (by rw[<-h];exact hc) hE _ _ _ _ _ _ _
 exact main
theorem ajK{w m:Nat}(A:Hand w)(hm:m<=1000000)(hw:m+20<w){b:H1 UInt8}{o:Int}{ds:H1 aV}{S:H1 bo}{x:dJ}(h117:yN w (ah b) (ct dC)=some (o,db ds,aA cd S,0))(h200:ur w o (db ds) (ct dC)=some 0)(h:xV ⟨o,ds⟩=some x)(hE:jR x m)(hl:ds.length<=m)(hS:oC m ds)(hr:∀d∈ds,∀tags subs blob,d=.mk tags subs blob->∀p∈aS subs,Dr p.2):
 Cd w (ah b)=some (x.order,au x.cu,au x.bG,au x.bN,au x.bm,au x.first,ah x.bF,ah x.cP,0):=by
 unfold Cd Gc;rw[Om];simp;rw[h117];simp;rw[akk A hm hw h200 h hE hl hS hr];rfl
theorem YR(w:Nat)(b:H1 UInt8):CJ w (ah b)=some (nM.isPrefixOf b):=by unfold CJ;have:ae 6 (List.drop 0 [Value.int IntKind.u8 69,Value.int IntKind.u8 120,Value.int IntKind.u8 105,Value.int IntKind.u8 102,Value.int IntKind.u8 0,Value.int IntKind.u8 0])=ah nM:=rfl;rw[this,B4];rfl
theorem N7(w:Nat)(b:H1 UInt8):Cc w (ah b)=some (fT.isPrefixOf b):=by unfold Cc;have:ae 12 (List.drop 0 [Value.int IntKind.u8 73,Value.int IntKind.u8 67,Value.int IntKind.u8 67,Value.int IntKind.u8 95,Value.int IntKind.u8 80,Value.int IntKind.u8 82,Value.int IntKind.u8 79,Value.int IntKind.u8 70,Value.int IntKind.u8 73,Value.int IntKind.u8 76,Value.int IntKind.u8 69,Value.int IntKind.u8 0])=ah fT:=rfl;rw[this,B4];rfl
theorem alv{w:Nat}{b k:H1 UInt8}(hk:b=nM++k)(hb:b.length<=65533){o:Int}{a1 a2 a3 a4 a5 a6 a7:Qu}(h:Cd w (ah k)=some (o,a1,a2,a3,a4,a5,a6,a7,0)):zi w (ah b)=some (o,a1,a2,a3,a4,a5,a6,a7,0):=by
 have hp:nM.isPrefixOf b=true:=by rw[hk,qL];exact s9 _ _
 have hl:6<=b.length:=by rw[hk,aP];have:nM.length=6:=rfl;omega
 have e1:¬((65533:Int)<(b.length:Int)):=by omega
 have e2:¬((b.length:Int)<(6:Int)):=by omega
 unfold zi N8 N9 Gc;rw[cN];simp[e1];simp[e2];rw[YR,hp];simp[hl];rw[mS _ (aM _),eQ (by rw[eu];omega),show b.drop 6=k by rw[hk];rfl,h];rfl
theorem ajL{w:Nat}{c:H1 UInt8}(h1:1<=c.length)(h2:c.length<=65519):GK w (ah (fT++1::1::c)) ((0:Nat):Int) 1=some true:=by
 have hp:fT.isPrefixOf (fT++1::1::c)=true:=by rw[qL];exact s9 _ _
 have hl:(fT++1::1::c).length=c.length+14:=by rw[aP];show 12+_=_;simp;omega
 have i12:(fT++1::1::c)[12]'(by omega)=1:=rfl
 have i13:(fT++1::1::c)[13]'(by omega)=1:=rfl
 unfold GK;rw[cN,N7,hp];simp only[aB,aD];rw[oO (by omega:12<_),i12];unfold bh;simp only[bc,bK];rw[show aj (ag IntKind.i64 ((1:UInt8).toNat:Int)) (ag IntKind.i64 (Int.add ((0:Nat):Int) 1))=true from rfl];rw[oO (by omega:13<_),i13];unfold bh;simp only[bc,bK];rw[show aj (ag IntKind.i64 ((1:UInt8).toNat:Int)) 1=true from rfl];simp only[bW];rw[hl,jh,bO,aQ (by omega) (by omega),show((c.length+14:Nat):Int) -14=(c.length:Int) by omega];simp only[bY,aU];by_cases h:(c.length:Int)=65519
 ·simp[h]
 ·have e1:¬((c.length:Int)<1):=by omega
  have e3:(((0:Nat):Int)=ag IntKind.i64 (Int.sub 1 1)):=rfl;simp only[h,e1,(show((c.length:Int)<65519) from by omega),bM,bd,fH,aC,aD];rw[dZ e3,aC]
theorem alw{w:Nat}(hw:20<w){b:H1 UInt8}(hb:b.length<=65519):Ii w (aA cV (gD b))=some (ah b,0):=by
 have hbl:∀l:H1 (H1 UInt8),∀K:Nat->Zh (Qu×Int),ar (aA cV l) K=K l.length:=λl K=>bU cV l K;unfold Ii gD;by_cases h0:b.length=0
 ·rw[ay h0,hbl,hbl,eU _ _ (by omega)];have:b=[]:=qM.1 h0;subst this;rfl
 ·rw[aq h0,hbl,hbl,eU _ _ (by omega)];have x0:∀(K:H1 Qu->Zh (Qu×Int)),aJ 1 0 (aA cV [fT++1::1::b]) K=K (cV (fT++1::1::b)++([].flatMap cV)):=λK=>bu (k:=1) (λ_=>rfl) (m:=0) (by show 0<1;omega) K;have hl:(fT++1::1::b).length=b.length+14:=by rw[aP];show 12+_=_;simp;omega
  have e1:¬((Int.ofNat (fT++1::1::b).length)<14):=by rw[bO];omega
  have e14:14<=(fT++1::1::b).length:=by omega
  rw[show(0:Int)=((0:Nat):Int) from rfl,bH,x0];rw[show cV (fT++1::1::b)++([].flatMap cV)=[ah (fT++1::1::b)] from rfl];simp only[bc];rw[cN];simp only[aU,e1,aD];rw[hbl,show Int.ofNat [fT++1::1::b].length=1 from rfl,ajL (by omega) hb];rw[cN];simp only[gA,e14,bd,aC];rw[mS _ (aM _),eQ (by rw[eu];omega),show(fT++1::1::b).drop 14=b from rfl,iL,iR,gy];have hr1:aF b.length=true:=by simp;omega
  rw[hr1];rw[show ag IntKind.i64 (Int.add ((0:Nat):Int) 1)=1 from rfl,eU _ _ (by omega)];simp;rw[oG]
def zw(m:Int)(p:H1 UInt8->Bool):H1 bJ->Bool
 |[]=>false
 |s::_=>decide (s.bZ=m)&&p s.data
theorem oW{β:Type}(s:bJ)(r:H1 bJ)(K:H1 Qu->Zh β):aJ 3 0 (dV (s::r)) K=K (cT s++r.flatMap cT):=bu jM (by simp) K
theorem Gi{β:Type}(s:bJ)(r:H1 bJ)(K:Qu->Zh β):gC 3 1 (s::r).length (dV (s::r)) K=K (dV r):=by rw[show dV (s::r)=aA cT (s::r) from rfl,r8 jM _ (aM _),eQ (by simp)];rfl
theorem sN{β:Type}(l:H1 bJ)(K:Nat->Zh β):ar (dV l) K=K l.length:=bU cT l K
theorem alp{w:Nat}{m:Int}{s:bJ}{r:H1 bJ}(h1:s.bZ=m)(h2:nM.isPrefixOf s.data=true)(x2:Int)(x3 x4 x5 x6 x7 x8 x9 x10 x11 x12:Qu)(x13 x14:Int):Ig w m (dV (s::r)) x2 x3 x4 x5 x6 x7 x8 x9 x10 x11 x12 x13 x14=some (ah s.data,true,dV r,x2,x3,x4,x5,x6,x7,x8,x9,x10,x11,x12,x13,x14):=by
 have e1:aj (Int.ofNat (s::r).length) 0=false:=by rw[bY,gQ,bO,cc];omega
 have e2:1<=(s::r).length:=by rw[cc];omega
 have c2:∀q:H1 Qu,cT s++q=.int .i64 s.bZ::ah s.data::ah s.scan::q:=λ_=>rfl;unfold Ig uh;rw[sN,e1,oW,(show∀q:H1 Qu,List.drop 0 (cT s++q)=.int .i64 s.bZ::ah s.data::ah s.scan::q fromλ_=>rfl)];simp only[bc,bK];rw[h1,show aj m m=true by rw[bY,cm],oW,(show∀q:H1 Qu,List.drop 1 (cT s++q)=ah s.data::ah s.scan::q fromλ_=>rfl)];simp only[bc];rw[YR,h2];simp only[aB,bW,aD];rw[oW,c2];simp only[bc,bK];rw[sN];simp only[gA,aM,e2,bd,jB,aC];rw[Gi]
theorem alm{w:Nat}{m:Int}{s:bJ}{r:H1 bJ}(h1:s.bZ=m)(h2:gG.isPrefixOf s.data=true)(x2:Int)(x3 x4 x5 x6 x7 x8 x9 x10 x11 x12:Qu)(x13 x14:Int):zg w m (dV (s::r)) x2 x3 x4 x5 x6 x7 x8 x9 x10 x11 x12 x13 x14=some (ah s.data,true,dV r,x2,x3,x4,x5,x6,x7,x8,x9,x10,x11,x12,x13,x14):=by
 have e1:aj (Int.ofNat (s::r).length) 0=false:=by rw[bY,gQ,bO,cc];omega
 have e2:1<=(s::r).length:=by rw[cc];omega
 have c2:∀q:H1 Qu,cT s++q=.int .i64 s.bZ::ah s.data::ah s.scan::q:=λ_=>rfl;unfold zg uh;rw[sN,e1,oW,(show∀q:H1 Qu,List.drop 0 (cT s++q)=.int .i64 s.bZ::ah s.data::ah s.scan::q fromλ_=>rfl)];simp only[bc,bK];rw[h1,show aj m m=true by rw[bY,cm],oW,(show∀q:H1 Qu,List.drop 1 (cT s++q)=ah s.data::ah s.scan::q fromλ_=>rfl)];simp only[bc];rw[Po,h2];simp only[aB,bW,aD];rw[oW,c2];simp only[bc,bK];rw[sN];simp only[gA,aM,e2,bd,jB,aC];rw[Gi]
theorem alk{w:Nat}{m:Int}{l:H1 bJ}(h:zw m (λd=>gG.isPrefixOf d) l=false)(x2:Int)(x3 x4 x5 x6 x7 x8 x9 x10 x11 x12:Qu)(x13 x14:Int):zg w m (dV l) x2 x3 x4 x5 x6 x7 x8 x9 x10 x11 x12 x13 x14=some (ae 0 [],false,dV l,x2,x3,x4,x5,x6,x7,x8,x9,x10,x11,x12,x13,x14):=by
 unfold zg uh;rw[sN];cases l with
 |nil=>rfl
 |cons s r=>
  have h:(decide (s.bZ=m)&&gG.isPrefixOf s.data)=false:=h;rw[(show aj (Int.ofNat (s::r).length) 0=false from by rw[bY,gQ,bO,cc];omega),aD,oW,(show∀q:H1 Qu,List.drop 0 (cT s++q)=.int .i64 s.bZ::ah s.data::ah s.scan::q fromλ_=>rfl)];simp only[bc,bK,bY];by_cases hm:s.bZ=m
  ·rw[dZ hm,eY] at h;rw[oW,(show∀q:H1 Qu,List.drop 1 (cT s++q)=ah s.data::ah s.scan::q fromλ_=>rfl)];simp;rw[Po,h];simp
  ·rw[eB hm,fH,aC]
theorem alo{w:Nat}{m:Int}{s:bJ}{r:H1 bJ}(h1:s.bZ=m)(h2:fT.isPrefixOf s.data=true)(x2:Int)(x3 x4 x5 x6 x7 x8 x9 x10 x11 x12:Qu)(x13 x14:Int):uz w m (dV (s::r)) x2 x3 x4 x5 x6 x7 x8 x9 x10 x11 x12 x13 x14=some (ah s.data,true,dV r,x2,x3,x4,x5,x6,x7,x8,x9,x10,x11,x12,x13,x14):=by
 have e1:aj (Int.ofNat (s::r).length) 0=false:=by rw[bY,gQ,bO,cc];omega
 have e2:1<=(s::r).length:=by rw[cc];omega
 have c2:∀q:H1 Qu,cT s++q=.int .i64 s.bZ::ah s.data::ah s.scan::q:=λ_=>rfl;unfold uz uh;rw[sN,e1,oW,(show∀q:H1 Qu,List.drop 0 (cT s++q)=.int .i64 s.bZ::ah s.data::ah s.scan::q fromλ_=>rfl)];simp only[bc,bK];rw[h1,show aj m m=true by rw[bY,cm],oW,(show∀q:H1 Qu,List.drop 1 (cT s++q)=ah s.data::ah s.scan::q fromλ_=>rfl)];simp only[bc];rw[N7,h2];simp only[aB,bW,aD];rw[oW,c2];simp only[bc,bK];rw[sN];simp only[gA,aM,e2,bd,jB,aC];rw[Gi]
theorem aln{w:Nat}{m:Int}{l:H1 bJ}(h:zw m (λd=>fT.isPrefixOf d) l=false)(x2:Int)(x3 x4 x5 x6 x7 x8 x9 x10 x11 x12:Qu)(x13 x14:Int):uz w m (dV l) x2 x3 x4 x5 x6 x7 x8 x9 x10 x11 x12 x13 x14=some (ae 0 [],false,dV l,x2,x3,x4,x5,x6,x7,x8,x9,x10,x11,x12,x13,x14):=by
 unfold uz uh;rw[sN];cases l with
 |nil=>rfl
 |cons s r=>
  have h:(decide (s.bZ=m)&&fT.isPrefixOf s.data)=false:=h;rw[(show aj (Int.ofNat (s::r).length) 0=false from by rw[bY,gQ,bO,cc];omega),aD,oW,(show∀q:H1 Qu,List.drop 0 (cT s++q)=.int .i64 s.bZ::ah s.data::ah s.scan::q fromλ_=>rfl)];simp only[bc,bK,bY];by_cases hm:s.bZ=m
  ·rw[dZ hm,eY] at h;rw[oW,(show∀q:H1 Qu,List.drop 1 (cT s++q)=ah s.data::ah s.scan::q fromλ_=>rfl)];simp;rw[N7,h];simp
  grind
theorem als{w:Nat}(cs:H1 (H1 UInt8))(hcs:∀c∈cs,fT.isPrefixOf c=true)(hl:cs.length<1000)(hw:2000<w){r:H1 bJ}(h:zw 226 (λd=>fT.isPrefixOf d) r=false)(x1:Int)(x2 x3 x4 x5 x6 x7 x8 x9 x10 x11:Qu)(x12 x13:Int):
 zh w (dV (cs.map (λc=>⟨226,c,[]⟩)++r)) x1 x2 x3 x4 x5 x6 x7 x8 x9 x10 x11 x12 x13=some (dV r,x1,x2,x3,x4,x5,x6,x7,x8,x9,x10,x11,x12,x13,cs.flatMap cV):=by
 obtain⟨tk,htk⟩:∃tk:H1 (H1 UInt8)->Qu×Bool×Qu×Int×Qu×Qu×Qu×Qu×Qu×Qu×Qu×Qu×Qu×Qu×Int×Int,tk=λl=>match l with
  |[]=>(ae 0 [],false,dV r,x1,x2,x3,x4,x5,x6,x7,x8,x9,x10,x11,x12,x13)
  |c::l=>(ah c,true,dV (l.map (λc=>(⟨226,c,[]⟩:bJ))++r),x1,x2,x3,x4,x5,x6,x7,x8,x9,x10,x11,x12,x13):=⟨_,rfl⟩
 have ht:∀l:H1 (H1 UInt8),(∀c∈l,fT.isPrefixOf c=true)->uz w 226 (dV (l.map (λc=>(⟨226,c,[]⟩:bJ))++r)) x1 x2 x3 x4 x5 x6 x7 x8 x9 x10 x11 x12 x13=some (tk l):=by
  intro l hl;rw[htk];cases l with
  |nil=>exact aln h _ _ _ _ _ _ _ _ _ _ _ _ _
  |cons c l=>have:=alo (w:=w) (s:=⟨226,c,[]⟩) (r:=l.map (λc=>(⟨226,c,[]⟩:bJ))++r) rfl (hl c nr) x1 x2 x3 x4 x5 x6 x7 x8 x9 x10 x11 x12 x13;exact this
 unfold zh;rw[ht cs hcs];refine nQ (ev:=λi _ (g:Qu->Bool->Qu->Int->Qu->Qu->Qu->Qu->Qu->Qu->Qu->Qu->Qu->Qu->Int->Int->H1 Qu->Zh (Qu×Int×Qu×Qu×Qu×Qu×Qu×Qu×Qu×Qu×Qu×Qu×Int×Int×H1 Qu))=>g (tk (cs.drop i)).1 (tk (cs.drop i)).2.1 (tk (cs.drop i)).2.2.1 (tk (cs.drop i)).2.2.2.1 (tk (cs.drop i)).2.2.2.2.1 (tk (cs.drop i)).2.2.2.2.2.1 (tk (cs.drop i)).2.2.2.2.2.2.1 (tk (cs.drop i)).2.2.2.2.2.2.2.1 (tk (cs.drop i)).2.2.2.2.2.2.2.2.1 (tk (cs.drop i)).2.2.2.2.2.2.2.2.2.1 (tk (cs.drop i)).2.2.2.2.2.2.2.2.2.2.1 (tk (cs.drop i)).2.2.2.2.2.2.2.2.2.2.2.1 (tk (cs.drop i)).2.2.2.2.2.2.2.2.2.2.2.2.1 (tk (cs.drop i)).2.2.2.2.2.2.2.2.2.2.2.2.2.1 (tk (cs.drop i)).2.2.2.2.2.2.2.2.2.2.2.2.2.2.1 (tk (cs.drop i)).2.2.2.2.2.2.2.2.2.2.2.2.2.2.2 ((cs.take i).flatMap cV)) (Inv:=λ_ _=>True) cs.length () trivial ?_ ?_ (by omega)
 ·intro i g _ hi _;refine⟨(),trivial,?_⟩;have hfl:((cs.take i).flatMap cV).length=i:=by
   rw[cy (k:=1) (λ_=>rfl),dk,lI (by omega),gy]
  simp only[(show tk (cs.drop i)=(ah cs[i],true,dV ((cs.drop (i+1)).map (λc=>(⟨226,c,[]⟩:bJ))++r),x1,x2,x3,x4,x5,x6,x7,x8,x9,x10,x11,x12,x13) from by rw[(cW hi),htk])];rw[hfl,(show aF i=true from by simp;omega),ht _ (λc hc=>hcs c (qN hc)),im hi,fo];rfl
 ·intro g _ _;simp_all
theorem alu{w:Nat}(r:H1 bJ)(hl:r.length<2^40)(hw:r.length<w)(h:∀s∈r,qe s.bZ=false)(x1:Int)(x2 x3 x4 x5 x6 x7 x8 x9 x10 x11:Qu)(x12 x13:Int):
 Pr w (dV r) x1 x2 x3 x4 x5 x6 x7 x8 x9 x10 x11 x12 x13=some (false,dV r,x1,x2,x3,x4,x5,x6,x7,x8,x9,x10,x11,x12,x13):=by
 refine gV (ev:=λi (g:Qu->Int->Int->Qu->Int->Qu->Qu->Qu->Qu->Qu->Qu->Qu->Qu->Qu->Qu->Int->Int->Zh (Bool×Qu×Int×Qu×Qu×Qu×Qu×Qu×Qu×Qu×Qu×Qu×Qu×Int×Int))=>g (dV r) r.length i (dV r) x1 x2 x3 x4 x5 x6 x7 x8 x9 x10 x11 x12 x13) r.length ?_ ?_ hw
 ·intro i g hi;have c2:∀(s:bJ)(q:H1 Qu),cT s++q=.int .i64 s.bZ::ah s.data::ah s.scan::q:=λ_ _=>rfl;have ha:=h _ (cx hi);unfold qe at ha;simp;rw[show dV r=aA cT r from rfl,bu jM hi,aQ (by omega) (by omega)];simp_all
 simp
noncomputable def T8(w:Nat)(aT q:Qu)(a1:Int)(a2 a3 a4 a5 a6 a7 a8 a9 a10 a11:Qu)(a12 a13:Int):Zh (Int×Qu×Qu×Qu×Qu×Qu×Qu×Qu×Qu×Qu×Qu×Int×Int×Int):=
 ob (zh w q a1 a2 a3 a4 a5 a6 a7 a8 a9 a10 a11 a12 a13) λx=>BK w x (aT,true,q,0,q,q,q,q,q,q,q,q,q,q,0,0)
theorem adx{w m:Nat}(A:Hand w){aT:H1 UInt8}{cs:H1 (H1 UInt8)}{r:H1 bJ}{core:H1 UInt8}{cg:H1 UInt8}(hcs:cs=gD cg)(hicc:cg.length<=65519)
 (hm:m<2^26) (hw:2*m+200000<w) (hr:∀s∈r,qe s.bZ=false) (hr1:r.length≠0) (hcore:nJ core=true) (hcw:dA (⟨216,[],[]⟩::r)=core) (hmay:mZ (⟨216,[],[]⟩::r)=true) (hseg:xh (⟨216,[],[]⟩::r) m) (hlen:r.length<=m) (hcl:core.length<=m)
 {o:Int} {b1 b2 b3 b4 b5 b6 b7:Qu} (h60:zi w (ah aT)=some (o,b1,b2,b3,b4,b5,b6,b7,0)) (a1:Int) (a2 a3 a4 a5 a6 a7 a8 a9 a10 a11:Qu) (a12 a13:Int):
 T8 w (ah aT) (dV (cs.map (λc=>(⟨226,c,[]⟩:bJ))++r)) a1 a2 a3 a4 a5 a6 a7 a8 a9 a10 a11 a12 a13=some (o,b1,b2,b3,b4,b5,b6,b7,ah cg,ah core,a11,a12,a13,0):=by
 have hq:zw 226 (λd=>fT.isPrefixOf d) r=false:=by
  cases r with
  |nil=>rfl
  |cons s r=>have:=hr s nr;unfold qe at this;rw[gQ] at this;show(decide (s.bZ=226)&&_)=false;rw[eB (by omega)];rfl
 have hpre:∀c∈cs,fT.isPrefixOf c=true:=by
  intro c hc;rw[hcs] at hc;unfold gD at hc;split at hc
  ·cases hc
  ·rw[nt.1 hc,qL];exact s9 _ _
 have hchl:cs.length<=1:=by rw[hcs];unfold gD;split<;>simp
 have e0:aj 0 0=true:=rfl;unfold T8 BK yy F7;rw[als cs hpre (by omega) (by omega) hq];simp only[aB];rw[alu r (by omega) (by omega) hr];rw[h60];have hcv:ae ((cs.flatMap cV).length/1) (cs.flatMap cV)=aA cV (gD cg):=by rw[cy (k:=1) (λ_=>rfl),kG,gy,hcs];rfl
 rw[hcv,alw (by omega) hicc];simp only[aB,e0,bW,aD];rw[show dV r=aA cT r from rfl,vw jM,cy jM];have e1:(1+r.length).ble 1=false:=by rw[gA,gQ];omega
 have r2:aF r.length=true:=by simp;omega
 have hn:=nextslicecap_le (need:=1+r.length) (old:=1) (by omega);have r3:(Builtin.nextslicecap (1+r.length) 1).ble 5000000000=true:=by rw[iq];omega
 rw[e1,r2,r3];rw[show List.take 3 (List.drop 0 [Value.int IntKind.i64 216,ae 0 [],ae 0 []])++r.flatMap cT=(⟨216,[],[]⟩::r:H1 bJ).flatMap cT from rfl,XL,YQ A _ (by omega) hseg (by rw[cc];omega) ⟨by rw[cc];omega,by omega,by omega⟩ hmay (by rw[hcw];omega),hcw];simp;rw[Pn core (by omega) (by omega),hcore];rfl
theorem aip{sh:H1 bg}{s:Nat}{d:aV}(h:cM sh s d=true):Dr d:=by
 rintro tags subs blob rfl
 simp only[cM,ky] at h
 grind
theorem aiq{sh:H1 bg}{s:Nat}{tags:H1 aN}{subs:cK}{blob:H1 UInt8}(h:cM sh s (.mk tags subs blob)=true):∀p∈aS subs,Dr p.2 :=by simp[cM] at h;intro p hp;exact aip (KK h.2.2.2.2 p hp).2
theorem jR.more{x:dJ}{m k:Nat}(h:jR x m)(hk:m<=k):jR x k:=by obtain⟨⟨r0,r2,r3,r4,r1⟩,d0,d2,d3,d4,d1,hmk,hth⟩:=h;exact⟨⟨by omega,by omega,by omega,by omega,by omega⟩,λt ht=>by have:=d0 t ht;omega,λt ht=>by have:=d2 t ht;omega,λt ht=>by have:=d3 t ht;omega,λt ht=>by have:=d4 t ht;omega,λt ht=>by have:=d1 t ht;omega,by omega,by omega⟩
theorem Z8{w:Nat}(W:cZ w){x:dJ}{b:H1 UInt8}(h:iQ x=.ok b)(hx:jR x 9000)(hw:800000<w):zi w (ah b)=some (x.order,au x.cu,au x.bG,au x.bN,au x.bm,au x.first,ah x.bF,ah x.cP,0):=by
 have hr:=hx.rows;obtain⟨-,-,hp2,hp3,hp4⟩:=Ab h (by unfold rl at hr⊢;omega);have hce:iS x=0:=by unfold iQ at h;split at h<;>grind
 have TR:=D6 W hx hce;have hl:(eM (fg x) dC).length<=65533:=by rw[hp3,aP] at hp2;omega
 obtain⟨-,k1,k2,-⟩:=Zt hx (by decide);have hsp:=CT (fg x).dO 0 8 TR.hd;have hsp3:(fD (fg x)).length=(jA 0 8 (fg x).dO).length+1:=rfl;have h114:=ajK W.hand (by omega) (by omega) (Oa (b:=eM (fg x) dC) (by omega) (by omega) Kl (λs hs=>by have:=RQ s hs;omega) (by decide) (by decide) TR.tO (S:=fD (fg x)) (by omega) (by rw[hp4];rfl)) TR.check (by rw[amk];exact Un hce) (hx.more (by omega)) TR.iM TR.hd (λd hd tags subs blob he p hp=>by obtain⟨s,hs⟩:=KJ TR.hh d hd;rw[he] at hs;exact aiq hs p hp);exact alv hp3 hp2 h114
theorem aaJ{core:H1 UInt8}{r:H1 bJ}(c4:dA (⟨216,[],[]⟩::r)=core)(hmay:mZ (⟨216,[],[]⟩::r)=true):xh (⟨216,[],[]⟩::r) core.length:=by
 intro s hs;rcases cX.1 hs with rfl|hs2
 ·simp
 ·have h1:=NY hs;by_cases ha:je s.bZ=true
  ·obtain⟨-,-,q,-⟩:=P5 hmay hs
   grind
  ·unfold dt at h1
   grind
theorem SE{x:oA}{aT:H1 UInt8}{r:H1 bJ}(c2:DJ x.core=⟨216,[],[]⟩::r)(c4:dA (⟨216,[],[]⟩::r)=x.core):(fj x aT).length<=100+aT.length+x.cO.length+x.cg.length+x.core.length:=by
 have e:fj x aT=dt ⟨216,[],[]⟩++(dt ⟨225,aT,[]⟩++(dA (if x.cO.length=0 then[] else[⟨226,x.cO,[]⟩])++(dA ((gD x.cg).map (λc=>⟨226,c,[]⟩))++dA r))):=by unfold fj jK;rw[c2];simp[dA]
 have k1:(dt ⟨216,[],[]⟩).length=2:=rfl;have k2:(dt ⟨225,aT,[]⟩).length<=aT.length+4:=by unfold dt;split<;>simp<;>omega
 have k3:(dA (if x.cO.length=0 then[] else[⟨226,x.cO,[]⟩])).length<=x.cO.length+4:=by
  split
  ·simp[dA]
  ·simp[dA];unfold dt;split<;>simp<;>omega
 have k4:(dA ((gD x.cg).map (λc=>⟨226,c,[]⟩))).length<=x.cg.length+30:=by
  unfold gD;split
  ·simp[dA]
  ·simp[dA];unfold dt;split<;>simp[fT]<;>omega
 have k5:(dA r).length<=x.core.length:=by have:=bX List.length c4;rw[mH,aP] at this;omega
 simp_all;omega
theorem aaz(w:Nat)(l:H1 UInt8)(hl:l.length<=1000000000):Ih w (ah l)=some (ah l):=by
 unfold Ih;rw[cN];by_cases h:l.length=0
 ·have:l=[]:=qM.1 h;subst this;rfl
 ·have e1:Nat.beq l.length 0=false:=by
   rw[Bool.eq_false_iff];intro q;exact h (bT q)
  rw[e1];have hn:=nextslicecap_le (need:=0+l.length) (old:=0) (by omega);have e5:(0+l.length).ble 0=false:=by rw[gA,gQ];omega
  have e6:Nat.blt 0 l.length=true:=by rw[mQ,cm];omega
  have r1:aF l.length=true:=by simp;omega
  unfold Pq F8;rw[cN,e6,iL,iR,e5,r1,(show(Builtin.nextslicecap (0+l.length) 0).ble 5000000000=true from by rw[iq];omega)];simp;rw[oG]
theorem YB{w m:Nat}(y:H1 UInt8)(hy:y.length<2^26)(W:cZ w){x:oA}{aT:H1 UInt8}(h:xe x aT)(hx:jR x.aG 9000)(hm:m<2^24)(hc:x.core.length<=m/\x.cg.length<=m/\x.cO.length<=m)(hw:2*m+800000+y.length<w):
 uu w (ah (fj x aT++y))=some (x.aG.order,au x.aG.cu,au x.aG.bG,au x.aG.bN,au x.aG.bm,au x.aG.first,ah x.aG.bF,ah x.aG.cP,ah x.cg,ah x.core,ah x.cO,if x.cO.length=0 then 0 else((aT.length+10:Nat):Int),((fj x aT).length:Int),0):=by
 have hb:=W.kH;have hA:=W.hand;obtain⟨-,hp1,hp2,hp3,hp4⟩:=Ab h.app h.rows;have hrd:ofM (fj x aT++y)=.ok (jK x aT) (fj x aT).length:=Uo (KO h.core hp2 h.cg (by rcases h.cO with q|q;omega;exact q.2)) y;obtain⟨r,c1,c2,c3,c4,c5,c6⟩:=DK h.core;have hrl:r.length<=x.core.length:=by simpa using(EP _ _ _ _ _ _ c1)
 have hmayC:mZ (⟨216,[],[]⟩::r)=true:=by show(true&&jw r)=true;rw[c3];rfl
 have hr0:r.length≠0:=by obtain⟨s,hs,_⟩:=c5;intro q;rw[qM.1 q] at hs;cases hs
 have h60:=Z8 W h.app hx (by omega);have himl:=SE (aT:=aT) c2 c4;have hi3:=h.cg;have htail:=λq=>adx (m:=m) hA (aT:=aT) (cs:=gD x.cg) (r:=r) (core:=x.core) (cg:=x.cg) rfl h.cg (by omega) (by omega) c6 hr0 h.core c4 hmayC (λs hs=>by have:=aaJ c4 hmayC s hs;omega) (by omega) (by omega) h60 0 (ae 0 []) (ae 0 []) (ae 0 []) (ae 0 []) (ae 0 []) (ae 0 []) (ae 0 []) (ae 0 []) (ae 0 []) q;have hL:jK x aT=⟨216,[],[]⟩::⟨225,aT,[]⟩::((if x.cO.length=0 then[] else[⟨226,x.cO,[]⟩])++((gD x.cg).map (λc=>⟨226,c,[]⟩)++r)):=by unfold jK;rw[c2];rfl
 unfold uu yy BK F7;rw[Ie _ (by rw[aP];omega) (by rw[aP];omega),hrd];simp only[aB,(rfl),bW,aD];rw[hL,sN];have hbl:∀(s:bJ)(l:H1 bJ),((s::l).length.ble (s::l).length&&Nat.ble 1 (s::l).length)=true:=by intro s l;rw[gA,gA,dZ (aM _),dZ (by rw[cc];omega)];rfl
 rw[hbl,aC,Gi,alp (s:=⟨225,aT,[]⟩) rfl hp1];simp only[aB,bW,aD];by_cases hmp:x.cO.length=0
 ·rw[ay hmp,ay hmp,fy];have hno:zw 226 (λd=>gG.isPrefixOf d) ((gD x.cg).map (λc=>(⟨226,c,[]⟩:bJ))++r)=false:=by
   unfold gD;split
   ·show zw 226 _ r=false;cases r with
    |nil=>rfl
    |cons s r=>have:=c6 s nr;unfold qe at this;rw[gQ] at this;show(decide (s.bZ=226)&&_)=false;rw[eB (by omega)];rfl
   ·rfl
  rw[alk hno];have:x.cO=[]:=qM.1 hmp;rw[this];exact htail (ae 0 []) 0 ((fj x aT).length:Int)
 ·rw[aq hmp,aq hmp];obtain⟨m1,m2⟩:=h.cO.resolve_left hmp;rw[show[⟨226,x.cO,[]⟩]++((gD x.cg).map (λc=>⟨226,c,[]⟩)++r)=(⟨226,x.cO,[]⟩:bJ)::((gD x.cg).map (λc=>⟨226,c,[]⟩)++r) from rfl,alm (s:=⟨226,x.cO,[]⟩) rfl m1];simp only[aB,aC];rw[aaz w _ (by omega)];simp only[aB];rw[cN,cf,cf,bO,aQ (n:=(6:Int)+(aT.length:Int)) (by omega) (by omega),aQ (by omega) (by omega),show(6:Int)+(aT.length:Int)+4=((aT.length+10:Nat):Int) by omega];exact htail (ah x.cO) ((aT.length+10:Nat):Int) ((fj x aT).length:Int)
theorem akI{w m:Nat}(W:cZ w){x:oA}{aT:H1 UInt8}(h:xe x aT)(hx:jR x.aG 9000)(hm:m<2^24)(hc:x.core.length<=m/\x.cg.length<=m/\x.cO.length<=m)(hw:2*m+800000<w):
 uu w (ah (fj x aT))=some (x.aG.order,au x.aG.cu,au x.aG.bG,au x.aG.bN,au x.aG.bm,au x.aG.first,ah x.aG.bF,ah x.aG.cP,ah x.cg,ah x.core,ah x.cO,if x.cO.length=0 then 0 else((aT.length+10:Nat):Int),((fj x aT).length:Int),0):=by
 have:=YB [] (by decide) W h hx hm hc (by simpa using hw);rwa[dP] at this
def fC(p:cS):H1 Qu:=[.int .i64 p.attr,.int .i64 p.size,.int .i64 p.at_,.int .i64 p.ee,.int .i64 p.ef]
theorem nX(p:cS):(fC p).length=5:=rfl
def dU(l:H1 cS):Qu:=aA fC l
theorem Bw{w:Nat}(hw:8<=w)(n:Int){o:Int}(ho:o=1\/o=2):iB w n 4 o=some (if 0<=n/\n<4294967296 then(ah (aY n.toNat 4 o),true) else(ae 0 [],false)):=by
 rw[sR hw,ay (by rcases ho with rfl|rfl<;>rfl),show(4:Int).toNat=4 from rfl,MH]
 grind
theorem vX{w:Nat}(hw:8<=w)(n:Int){o:Int}(ho:o=1\/o=2):iB w n 2 o=some (if 0<=n/\n<65536 then(ah (aY n.toNat 2 o),true) else(ae 0 [],false)):=by
 rw[sR hw,ay (by rcases ho with rfl|rfl<;>rfl),show(2:Int).toNat=2 from rfl,show pN n 2 o=if 0<=n/\n<65536 then some (aY n.toNat 2 o) else none from rfl]
 grind
theorem FK(l:H1 UInt8)(hl:l.length<=100):(aF l.length&&(l.map bh).length.beq (l.length*1))=true:=by rw[(show aF l.length=true from by simp;omega),cH,gy,nv];rfl
theorem FM(X:H1 Qu)(l:H1 UInt8)(hX:X.length<=100)(hl:l.length<=100):(aF X.length&&(aF l.length&&(l.map bh).length.beq (l.length*1)))=true:=by rw[(show aF X.length=true from by simp;omega),FK l hl];rfl
theorem Oo{w:Nat}(hw:8<=w)(p:cS){o:Int}(ho:o=1\/o=2):Cn w p.attr p.size p.at_ p.ee p.ef o=some (if kL p=true then(ah (eX o p),true) else(ae 0 [],false)):=by
 unfold Cn Cr lC;simp only[aB];unfold kL;rw[Bw hw _ ho];by_cases h1:0<=p.attr/\p.attr<4294967296
 case neg=>rw[aq h1,aq (by simp only[cm];exactλq=>h1 q.1)];rfl
 rw[ay h1];simp only[aB,aD];rw[iL,iR,FK _ (by rw[eL];omega),Bw hw _ ho];by_cases h2:0<=p.size/\p.size<4294967296
 case neg=>rw[aq h2,aq (by simp only[cm];exactλq=>h2 q.2.1)];rfl
 rw[ay h2];simp only[aB,aD];rw[iL,iR,FM _ _ (by simp[eL]) (by rw[eL];omega),Bw hw _ ho];by_cases h3:0<=p.at_/\p.at_<4294967296
 case neg=>rw[aq h3,aq (by simp only[cm];exactλq=>h3 q.2.2.1)];rfl
 rw[ay h3];simp only[aB,aD];rw[iL,iR,FM _ _ (by simp[eL]) (by rw[eL];omega),vX hw _ ho];by_cases h4:0<=p.ee/\p.ee<65536
 case neg=>rw[aq h4,aq (by simp only[cm];exactλq=>h4 q.2.2.2.1)];rfl
 rw[ay h4];simp only[aB,aD];rw[iL,iR,FM _ _ (by simp[eL]) (by rw[eL];omega),vX hw _ ho];by_cases h5:0<=p.ef/\p.ef<65536
 case neg=>rw[aq h5,aq (by simp only[cm];exactλq=>h5 q.2.2.2.2)];rfl
 rw[ay h5,ay (by rw[cm];exact⟨h1,h2,h3,h4,h5⟩)];simp only[aB,aD];rw[iL,iR,FM _ _ (by simp[eL]) (by rw[eL];omega)]
 congr 2
 rw[oG];unfold eX;simp
theorem akc{w:Nat}(hw:100<w)(n:Nat)(hn:n<4294967296):G2 w 4 (ae 1 [Value.int IntKind.i64 (n:Int)])=some (4,1,ah (fa n 4),true):=by
 unfold G2 NM;rw[yV,show kindOf 4=(4,4,1) from rfl];simp;have h211:Hh w 4 (ae 1 [Value.int IntKind.i64 (n:Int)]) 4 4 1=some (4,1,true,(fa n 4).map bh):=by
  unfold Hh;have hl:∀K:Nat->Zh (Int×Int×Bool×H1 Qu),ar (ae 1 [Value.int IntKind.i64 (n:Int)]) K=K 1:=λ_=>rfl;rw[hl,hl,eU _ _ (by omega),show ak 0 (Int.ofNat 1)=true from rfl,show(0:Int)=((0:Nat):Int) from rfl,bH,(show∀K:H1 Qu->Zh (Int×Int×Bool×H1 Qu),aJ 1 0 (ae 1 [Value.int IntKind.i64 (n:Int)]) K=K [Value.int IntKind.i64 (n:Int)] fromλ_=>rfl)];simp only[bc,bK];have h212:Hi w 4 4 1 (n:Int)=some (ah (fa n 4),true):=by unfold Hi NP;rw[Bw (by omega) _ (.inr rfl),ay (by omega)];rfl
  rw[h212];simp only[aB];rw[iL,iR,gy,pB,aC,eU _ _ (by omega),show ag IntKind.i64 (Int.add ((0:Nat):Int) 1)=1 from rfl,show ak 1 (Int.ofNat 1)=false from rfl,aD,fy,cH,kG,<-oG];rfl
 rw[h211];simp;rw[oG]
def VS(view:H1 aN):Prop:=view.length<=9000/\∀t∈view,t.data.length<=9000
theorem ZP{w:Nat}(W:cZ w){o:Int}(ho:o=1\/o=2){view:H1 aN}(hv:VS view)(hr:da 5 view=true)(h0:view.length≠0):pj w 10000 kU o (gx o view).dO:=by
 have hl:=hv.1;refine PV W Jn (Yu (by have:=W.kH;omega)) (by decide) (λs hs=>?_) ho (by simp[gx]) (by simp[gx]) (λd hd'=>?_) (by simp[gx,kV,gj,jX]) (by simp[gx,gZ,dL,iu]) (P2 hr h0 (by omega))
 ·have:s=0:=by simp[kU] at hs;omega
  rw[this];decide
 ·simp[gx] at hd';subst hd';exact⟨by omega,by show 0<=_;omega,by show 0<=_;omega,λt ht=>by have:=hv.2 t ht;omega,trivial⟩
theorem alC{w:Nat}(W:cZ w)(o:Int){view:H1 aN}(hv:VS view):Io w o (au view)=some (match rL o view with| .ok b=>(ah b,0)| .error e=>(ae 0 [],e)):=by
 have hb:=W.kH;have hl:=hv.1;have hlen:∀K:Nat->Zh (Qu×Int),ar (au view) K=K view.length:=λK=>bU cC view K;unfold Io rL NJ;by_cases ho:o=1\/o=2
 case neg=>rw[ay (.inl ho)];rw[(show aj o 1=false from by rw[bY,gQ];exactλq=>ho (.inl q)),(show aj o 2=false from by rw[bY,gQ];exactλq=>ho (.inr q))];rfl
 have hrest:(ar (au view) λ(x2:Nat)=>bif aj (Int.ofNat x2) 0 then some (ae 0 [],1) else ob (oi w 5 (au view)) λ(x3:Bool)=>bif !x3 then some (ae 0 [],6) else ob (yP w) λx4=>ob (wo w o (ae 1 (List.drop 0 [au view,ae 0 [],ae 0 []])) x4) λx5=>some (x5.fst,x5.snd))=some (match(if¬(o=1\/o=2)\/view.length=0 then .error 1 else if da 5 view=false then .error 6 else if 65533<4+gT (gx o view) then .error 7 else .ok (gG++eM (gx o view) kU):Except Int (H1 UInt8)) with| .ok b=>(ah b,0)| .error e=>(ae 0 [],e)):=by
  rw[hlen];by_cases h0:view.length=0
  ·rw[ay (.inr h0),h0];rfl
  have e1:aj (Int.ofNat view.length) 0=false:=by rw[bY,gQ,bO];omega
  rw[aq (by intro q;rcases q with q|q;exact q ho;exact h0 q),e1,ru (by omega) 5 view (by omega) (λt ht=>by have:=hv.2 t ht;omega) (by omega)]
  cases hr:da 5 view with
  |false=>rfl
  |true=>
   have T:=ZP W ho hv hr h0;have e2:yP w=some (ct kU):=rfl;rw[e2];simp only[aB,aD];have e3:ae 1 (List.drop 0 [au view,ae 0 [],ae 0 []])=db (gx o view).dO:=by show _=ae 1 (dr (.mk view .nil [])++[]);rfl
   rw[e3,(Yk T),show(⟨o,(gx o view).dO⟩:mN)=gx o view from rfl];by_cases h7:65533<4+gT (gx o view)
   ·rw[ay h7,ay h7];rfl
   ·rw[aq h7,aq h7];rfl
 rcases ho with rfl|rfl<;>simp_all
structure aO where
 aG:dJ
 cg:List UInt8
 core:List UInt8
 attr:Int
 ee:Int
 ef:Int
 view:List aN
def cR(p:aO):H1 Qu:=[.int .i64 p.aG.order,au p.aG.cu,au p.aG.bG,au p.aG.bN,au p.aG.bm,au p.aG.first,ah p.aG.bF,ah p.aG.cP,ah p.cg,ah p.core,.int .i64 p.attr,.int .i64 p.ee,.int .i64 p.ef,au p.view]
theorem kj(p:aO):(cR p).length=14:=rfl
def cI(l:H1 aO):Qu:=aA cR l
theorem nR(p:aO)(r:H1 Qu):cR p++r=.int .i64 p.aG.order::au p.aG.cu::au p.aG.bG::au p.aG.bN::au p.aG.bm::au p.aG.first::ah p.aG.bF::ah p.aG.cP::ah p.cg::ah p.core::.int .i64 p.attr::.int .i64 p.ee::.int .i64 p.ef::au p.view::r:=rfl
def TS(l:H1 aN):Prop:=l.length<=60/\∀t∈l,t.data.length<=600
structure eJ(p:aO):Prop where
 t0:TS p.aG.cu
 t2:TS p.aG.bG
 t3:TS p.aG.bN
 t4:TS p.aG.bm
 t1:TS p.aG.first
 tv:TS p.view
 T5:p.aG.bF.length<=2000
 th:p.aG.cP.length<=2000
 ic:p.cg.length<=2000
 co:p.core.length<=2000
theorem eJ.vn{p:aO}(h:eJ p):jR p.aG 9000:=by obtain⟨⟨a0,b0⟩,⟨a2,b2⟩,⟨a3,b3⟩,⟨a4,b4⟩,⟨a1,b1⟩,-,m1,m2,-,-⟩:=h;exact⟨⟨by omega,by omega,by omega,by omega,by omega⟩,λt ht=>by have:=b0 t ht;omega,λt ht=>by have:=b2 t ht;omega,λt ht=>by have:=b3 t ht;omega,λt ht=>by have:=b4 t ht;omega,λt ht=>by have:=b1 t ht;omega,by omega,by omega⟩
theorem eJ.vs{p:aO}(h:eJ p):VS p.view:=⟨by have:=h.tv.1;omega,λt ht=>by have:=h.tv.2 t ht;omega⟩
def jG(p:aO):Bool:=match iQ p.aG with| .ok _=>false| .error _=>true
def Af(_:aO):Bool:=false
def nH(p:aO):Bool:=!nJ p.core
def oE(p:aO):Bool:=!decide ((0<=p.attr/\p.attr<4294967296)/\(0<=p.ee/\p.ee<65536)/\(0<=p.ef/\p.ef<65536))
def mP(p:aO):Bool:=!da 5 p.view
theorem QD{x:dJ}{e:Int}(h:iQ x=.error e):e≠0:=by
 unfold iQ at h
 grind
theorem ajO{w:Nat}(W:cZ w){p:aO}(h:eJ p)(a b c:Int)(v x y:Qu):GQ w p.aG.order (au p.aG.cu) (au p.aG.bG) (au p.aG.bN) (au p.aG.bm) (au p.aG.first) (ah p.aG.bF) (ah p.aG.cP) x y a b c v=some (jG p):=by
 unfold GQ jG;rw[Pd W h.vn];cases he:iQ p.aG with
 |ok b=>rfl
 |error e=>have:=QD he;simp_all
theorem ajP{w:Nat}(W:cZ w){p:aO}(h:eJ p)(o a b c:Int)(v x1 x2 x3 x4 x5 x6 x7 y:Qu):GR w o x1 x2 x3 x4 x5 x6 x7 (ah p.cg) y a b c v=some (Af p):=by
 have hi:=h.ic;unfold GR Af;rw[cN,bO,YU w _ (by omega)];simp only[aB,aU];have:xx p.cg.length<=1:=by unfold xx;omega
 rw[eB (by omega)]
theorem ajT{w:Nat}(W:cZ w){p:aO}(h:eJ p)(o a b c:Int)(v x1 x2 x3 x4 x5 x6 x7 x8:Qu):GS w o x1 x2 x3 x4 x5 x6 x7 x8 (ah p.core) a b c v=some (nH p):=by have hb:=W.kH;have hi:=h.co;unfold GS nH;rw[Pn _ (by omega) (by omega)];rfl
theorem ajU{w:Nat}(W:cZ w)(p:aO)(o:Int)(v x1 x2 x3 x4 x5 x6 x7 x8 x9:Qu):GU w o x1 x2 x3 x4 x5 x6 x7 x8 x9 p.attr p.ee p.ef v=some (oE p):=by
 have hb:=W.kH;unfold GU oE;rw[Bw (by omega) _ (.inr rfl),vX (by omega) _ (.inr rfl),vX (by omega) _ (.inr rfl)];by_cases h1:0<=p.attr/\p.attr<4294967296
 ·by_cases h2:0<=p.ee/\p.ee<65536
  ·by_cases h3:0<=p.ef/\p.ef<65536
   ·simp_all
   ·simp[h3]
  ·simp[h2]
 ·simp[h1]
theorem ajV{w:Nat}(W:cZ w){p:aO}(h:eJ p)(o a b c:Int)(x1 x2 x3 x4 x5 x6 x7 x8 x9:Qu):GW w o x1 x2 x3 x4 x5 x6 x7 x8 x9 a b c (au p.view)=some (mP p):=by have hb:=W.kH;obtain⟨a1,b1⟩:=h.tv;unfold GW mP;rw[ru (by omega) 5 p.view (by omega) (λt ht=>by have:=b1 t ht;omega) (by omega)];rfl
theorem akn{w:Nat}(W:cZ w){l:H1 aO}(h:∀p∈l,eJ p)(hl:l.length<=2000):OA w (cI l)=some (dD jG l):=by
 have hb:=W.kH;refine mX l jG (ev:=λi (g:Qu->Int->Int->Zh Int)=>g (aA cR l) l.length i) ?_ ?_ (by omega)
 ·intro i g hi;simp_all;rw[bu kj hi,nR];simp;rw[ajO W (h _ (cx hi)),aQ (by omega) (by omega)];simp
 simp
theorem ako{w:Nat}(W:cZ w){l:H1 aO}(h:∀p∈l,eJ p)(hl:l.length<=2000):OB w (cI l)=some (dD Af l):=by
 have hb:=W.kH;refine mX l Af (ev:=λi (g:Qu->Int->Int->Zh Int)=>g (aA cR l) l.length i) ?_ ?_ (by omega)
 ·intro i g hi;simp_all;rw[bu kj hi,nR];simp;rw[ajP W (h _ (cx hi)),aQ (by omega) (by omega)];simp
 simp
theorem akp{w:Nat}(W:cZ w){l:H1 aO}(h:∀p∈l,eJ p)(hl:l.length<=2000):OC w (cI l)=some (dD nH l):=by
 have hb:=W.kH;refine mX l nH (ev:=λi (g:Qu->Int->Int->Zh Int)=>g (aA cR l) l.length i) ?_ ?_ (by omega)
 ·intro i g hi;simp_all;rw[bu kj hi,nR];simp;rw[ajT W (h _ (cx hi)),aQ (by omega) (by omega)];simp
 simp
theorem akq{w:Nat}(W:cZ w){l:H1 aO}(h:∀p∈l,eJ p)(hl:l.length<=2000):OD w (cI l)=some (dD oE l):=by
 have hb:=W.kH;refine mX l oE (ev:=λi (g:Qu->Int->Int->Zh Int)=>g (aA cR l) l.length i) ?_ ?_ (by omega)
 ·intro i g hi;simp_all;rw[bu kj hi,nR];simp;rw[ajU W,aQ (by omega) (by omega)];simp
 simp
theorem akr{w:Nat}(W:cZ w){l:H1 aO}(h:∀p∈l,eJ p)(hl:l.length<=2000):OE w (cI l)=some (dD mP l):=by
 have hb:=W.kH;refine mX l mP (ev:=λi (g:Qu->Int->Int->Zh Int)=>g (aA cR l) l.length i) ?_ ?_ (by omega)
 ·intro i g hi;simp_all;rw[bu kj hi,nR];simp;rw[ajV W (h _ (cx hi)),aQ (by omega) (by omega)];simp
 simp
end Lt
end Go.Proofs.YtcfjfbeadhnknaaGreatDoor

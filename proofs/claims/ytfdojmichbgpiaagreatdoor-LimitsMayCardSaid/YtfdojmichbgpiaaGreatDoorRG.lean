import Derived.Test.YtfdojmichbgpiaaGreatDoorRF
namespace Go.Proofs.YtfdojmichbgpiaaGreatDoor
set_option maxRecDepth 100000
set_option maxHeartbeats 1000000
namespace Lt
section
theorem SF(ty au:Int):0<=iW ty au/\iW ty au<=65536*8:=by
 unfold iW;have hk:=Bw ty;split
 ·simp
 ·exact⟨Int.mul_nonneg (by omega) (by omega),Int.mul_le_mul (by omega) (by omega) (by omega) (by simp)⟩
theorem Wd(w:Nat)(ty au:Int):CP w ty au=some (iW ty au):=by
 have hs:=SF ty au;unfold CP;unfold iW at hs⊢;simp;by_cases h1:au<1
 ·rw[ar h1,ar (.inl h1)]
 rw[ai h1];by_cases h2:65536<au
 ·rw[ar h2,ar (.inr h2)]
 rw[ai h2,ai (by omega),V7];simp;rw[aN (by omega) (by omega)]
theorem V8(w:Nat)(ty au:Int):CL w ty au=some (bY ty au:Int):=by
 unfold CL bY;rw[Wd];simp
 grind
theorem ag9(w:Nat)(ty au:Int):H5 w ty au=some (decide (0<iW ty au/\iW ty au<=4)):=by
 unfold H5;rw[Wd];simp;by_cases h:0<iW ty au
 ·rw[ar h];by_cases h2:4<iW ty au
  ·grind
  grind
 grind
variable{α:Type}
def db(p:α->Bool)(l:List α):Int:=match l.findIdx? p with
 |some i=>(i:Int)
 |none=>-1
theorem yF(p:α->Bool)(l:List α):db p l<0↔l.all (λx=>!p x)=true:=by
 unfold db;cases h:l.findIdx? p with
 |none=>grind
 |some i=>
  obtain⟨hi,h1,-⟩:=List.findIdx?_eq_some_iff_getElem.1 h
  grind
variable{w:Nat}
theorem mg{δ:Type}{z:δ}{F:δ->δ}(l:List α)(p:α->Bool)(ev:Nat->δ->Option Int)(hs:∀i g (h:i<l.length),ev i (F g)=if p l[i]=true then some (i:Int) else ev (i+1) g)(he:∀g,ev l.length (F g)=some (-1))(hw:l.length<w):
 ev 0 (lp z F w)=some (db p l):=by
 have key:∀(d i v:Nat),i+d=l.length->d<v->ev i (lp z F v)=some (match(l.drop i).findIdx? p with|some j=>((i+j:Nat):Int)|none=>-1):=by
  intro d;induction d with
  |zero=>
   intro i v hi hv;obtain rfl:i=l.length:=by omega
   rw[ef z F (by omega),he,s8];rfl
  |succ d ih=>
   intro i v hi hv;have hlt:i<l.length:=by omega
   rw[ef z F (by omega),hs i _ hlt,dG hlt,List.findIdx?_cons];by_cases hp:p l[i]=true
   ·rw[ar hp,ar hp];rfl
   ·grind
 have:=key l.length 0 w (by omega) hw;rw[this,eL];unfold db;cases l.findIdx? p<;>simp
theorem ahb(l:List UInt8)(hl:l.length<2^40)(hw:l.length<w):On w (aj l)=some (db (λb=>b !=0) l):=by
 refine mg l (λb=>b !=0) (ev:=λi (g:Value->Int->Int->Option Int)=>g (aj l) l.length i) ?_ ?_ hw
 ·intro i g h;have e1:((i:Int)<(l.length:Int)):=by omega
  simp only[bc,e1,ct];rw[pV h];simp only[bN,rT];unfold Oj;simp only[cD,cR];rw[aN (by omega) (by omega)];have e2:(decide ((l[i].toNat:Int)=0))=!(l[i]!=0):=by rw[fO];simp[<-nC]
  rw[e2];cases l[i]!=0<;>simp
 ·intro g;simp
theorem aha(l:List UInt8)(hl:l.length<2^40)(hw:l.length<w):H6 w (aj l)=some (!l.all (·==0)):=by
 unfold H6;rw[ahb l hl hw];simp;have:=yF (λb:UInt8=>b !=0) l
 grind
theorem LN(n:Int)(o:Int):oZ n 4 o=if 0<=n/\n<4294967296 then some (aU n.toNat 4 o) else none:=rfl
def Iy(ty au slot order:Int):Option (List UInt8×Bool):=
 if 0<=slot/\slot<4294967296/\0<iW ty au/\iW ty au<=4 then
  (oW ty au (aU slot.toNat 4 order) order).map λd=>(d,((aU slot.toNat 4 order).drop d.length).all (·==0))
 else none
theorem abA{ty au:Int}{b d:List UInt8}{o:Int}(h:oW ty au b o=some d):d.length<=b.length:=by
 unfold oW at h;split at h
 ·cases h;rw[xc,dH];omega
 grind
theorem ag3(hw:100<=w)(tag ty au slot o:Int)(ho:o=1\/o=2):
 HS w tag ty au slot o=some (match Iy ty au slot o with|some (d,c)=>(ty,au,aj d,c,true)|none=>(0,0,ae 0 [],false,false)):=by
 unfold HS Iy;rw[sJ (by omega),ar (by rcases ho with rfl|rfl<;>rfl),show(4:Int).toNat=4 from rfl,LN,ag9];by_cases h1:¬(0<=slot/\slot<4294967296)
 ·rw[ai h1,ai (by omega)];rfl
 replace h1:=qp.1 h1;rw[ar h1];by_cases h2:¬(0<iW ty au/\iW ty au<=4)
 ·rw[ai (by omega)];simp[h2]
 simp_all;have hl:(aU slot.toNat 4 o).length=4:=eh _ _ _;rw[V9 ty au _ (by omega) (by omega) o ho];cases hv:oW ty au (aU slot.toNat 4 o) o with
 |none=>rfl
 |some d=>simp[(abA hv)];rw[pL _ (aB _),gh (by rw[dZ];omega),aha _ (by rw[dZ];omega) (by rw[dZ];omega)];simp
theorem H4(hw:5<=w)(l:List UInt8)(hl:l.length<2^60)(s o p:Int)(ok:Bool)(hp:0<=p/\p<2^60)(hs:0<=s/\s<=8):
 wY w s (aj l) o p ok=some ((oR l p s o).getD 0,aj l,o,p+s,ok&&(oR l p s o).isSome):=by
 unfold wY Om;rw[GG hw l hl p s o (by omega)];simp;rw[aN (by omega) (by omega)]
 grind
theorem ag0(hw:5<=w)(l:List UInt8)(hl:l.length<2^50)(p:Nat)(o:Int)(ho:o=1\/o=2):
 HK w (aj l) p o=some (if p+12<=l.length then((cn l p 2 o:Int),(cn l (p+2) 2 o:Int),(cn l (p+4) 4 o:Int),(cn l (p+8) 4 o:Int),true) else(0,0,0,0,false)):=by
 unfold HK;rw[dU];by_cases hp:¬(p+12<=l.length)
 ·by_cases hb:(p:Int)<2^62
  ·rw[HH w ⟨by simp;omega,by simp only[oD];omega⟩ hb];have:¬(0<=(p:Int)/\(0:Int)<=12/\(p:Int)<=Int.ofNat l.length/\(12:Int)<=Int.ofNat l.length -p):=by
    simp;omega
   simp only[aA,this,cy,fu,ay];rw[ai hp]
  ·unfold wW;have e1:¬((p:Int)<0):=by omega
   have e2:Int.ofNat l.length<(p:Int):=by simp;omega
   simp only[bc,e1,e2,cy,bn,fu,cL,ay,aE,show decide ((12:Int)<0)=false from rfl,aA];rw[ai hp]
 replace hp:=qp.1 hp;rw[ar hp,HH w ⟨by simp;omega,by simp only[oD];omega⟩ (by omega)];have:(0<=(p:Int)/\(0:Int)<=12/\(p:Int)<=Int.ofNat l.length/\(12:Int)<=Int.ofNat l.length -p):=by simp;omega
 simp_all;have g:∀(k s:Nat),(s=2\/s=4)->k+s<=12->(oR l ((p:Int)+k) s o).isSome=true/\(oR l ((p:Int)+k) s o).getD 0=(cn l (p+k) s o:Int):=by intro k s hs hk;have:=Bq (l:=l) (p:=p+k) (s:=s) (by omega) ho (by omega);rw[show((p+k:Nat):Int)=(p:Int)+k by omega] at this;unfold cn;rw[show((p+k:Nat):Int)=(p:Int)+k by omega,this];exact⟨rfl,by simp⟩
 rw[H4 hw l (by omega) 2 o p true (by omega) (by omega)];simp;rw[H4 hw l (by omega) 2 o _ _ (by omega) (by omega)];simp;rw[H4 hw l (by omega) 4 o _ _ (by omega) (by omega)];simp;rw[H4 hw l (by omega) 4 o _ _ (by omega) (by omega)];have g0:=g 0 2 (.inl rfl) (by decide);have g1:=g 2 2 (.inl rfl) (by decide);have g2:=g 4 4 (.inr rfl) (by decide);have g3:=g 8 4 (.inr rfl) (by decide);rw[show(p:Int)+((0:Nat):Int)=p by omega] at g0;rw[show(p:Int)+2+2=(p:Int)+4 by omega,show(p:Int)+4+4=(p:Int)+8 by omega];simp at g0 g1 g2 g3;rw[g0.1,g1.1,g2.1,g3.1,g0.2,g1.2,g2.2,g3.2];rfl
end
section
def cx(t:aI):List Value:=[.int .i64 t.tag,.int .i64 t.ty,.int .i64 t.au,aj t.data]
theorem gI(t:aI):(cx t).length=4:=rfl
def az(l:List aI):Value:=aC cx l
def lC(x:gU):List Value:=[.int .i64 x.tag,.int .i64 x.shape]
theorem ue(x:gU):(lC x).length=2:=rfl
def fY(l:List gU):Value:=aC lC l
def iL(s:aV):List Value:=[fY s.bG,.int .i64 s.at_,.int .i64 s.cA,.int .i64 s.next]
theorem zZ(s:aV):(iL s).length=4:=rfl
def cw(l:List aV):Value:=aC iL l
mutual
def dK:aO->List Value
 | .mk tags subs blob=>[az tags,ae (cm subs) (gd subs),aj blob]
def gd:cF->List Value
 | .nil=>[]
 | .cons tag d r=>.int .i64 tag::(dK d++gd r)
end
theorem nX(d:aO):(dK d).length=3:=by cases d;rfl
theorem WQ:∀s:cF,(gd s).length=cm s*4
 | .nil=>rfl
 | .cons tag d r=>by show(dK d++gd r).length+1=(cm r+1)*4;rw[aR,nX,WQ r];omega
variable{w:Nat}
theorem SG{δ:Type}{z:δ}{F:δ->δ}(m:Nat)(ok:Nat->Bool)(ev:Nat->δ->Option Bool)(hs:∀i g,i<m->ev i (F g)=if ok i=true then ev (i+1) g else some false)(he:∀g,ev m (F g)=some true)(hw:m<w):
 ev 0 (lp z F w)=some ((List.range m).all ok):=by
 have key:∀(d i v:Nat),i+d=m->d<v->ev i (lp z F v)=some ((List.range d).all λj=>ok (i+j)):=by
  intro d;induction d with
  |zero=>intro i v hi hv;rw[ef z F (by omega),show i=m by omega,he];rfl
  |succ d ih=>
   intro i v hi hv;rw[ef z F (by omega),hs i _ (by omega),xu];by_cases h:ok i=true
   ·rw[ih (i+1) (v -1) (by omega) (by omega)];simp[h]
    congr 2
    funext j
    congr 1;omega
   ·rw[ai h];simp[h]
 have:=key m 0 w (by omega) hw;simpa using this
theorem agN(hw:8<=w)(n:Int):zO w n=some (my n):=by unfold zO;rw[sJ hw];have hm:fC 2 2=true:=rfl;rw[ar hm];unfold oZ my;by_cases h:0<=n/\n<65536<;>simp[h]
theorem G7(w:Nat)(tags:List aI)(subs:cF)(blob:List UInt8)(h:tags.length+cm subs<2^60):jT w (az tags) (ae (cm subs) (gd subs)) (aj blob)=some (bF (.mk tags subs blob):Int):=by
 unfold jT az bF;simp only[dw,aaQ,dU,bc,qI,cu,cR];rw[aN (n:=(tags.length:Int)+(cm subs:Int)) (by omega) (by omega)];by_cases hb:blob.length=0
 ·rw[ai (by omega),ar hb];rfl
 ·rw[ar (by omega),ai hb,aN (by omega) (by omega)];rfl
end
section
variable{w:Nat}
theorem agK(l:List gU)(n:Int)(hl:l.length<2^40)(hw:l.length<w):NS w (fY l) n=some (db (λx=>x.tag==n) l):=by
 refine mg l (λx=>x.tag==n) (ev:=λi (g:Value->List Value->Int->Int->Option Int)=>g (aC lC l) [.int .i64 n] l.length i) ?_ ?_ hw
 ·intro i g h;simp_all;rw[bW ue h];unfold lC Ol;simp only[jg,bN,cH,aA,cD];rw[aN (by omega) (by omega)];by_cases e2:l[i].tag=n<;>grind
 ·intro g;simp
theorem ag2(l:List gU)(n:Int)(hl:l.length<2^40)(hw:l.length<w):CI w (fY l) n=some (l.any λx=>x.tag==n):=by
 unfold CI;rw[agK l n hl hw];simp;have:=yF (λx:gU=>x.tag==n) l
 grind
def IS(S:aV):Prop:=0<=S.at_
theorem ag7(S:aV)(n:Int)(hs:IS S)(hl:S.bG.length<2^40)(hw:S.bG.length<w):CN w (fY S.bG) S.at_ S.cA S.next n=some (ej S n):=by
 have hs:0<=S.at_:=hs;unfold CN ej eZ eS;rw[ag2 S.bG n hl hw];simp;by_cases h0:0<S.at_
 ·have h1:S.at_≠0:=by omega
  grind
 grind
theorem ae3(l:List aI):fD l=(List.range l.length).all λi=>decide (i=0)||decide ((l[i -1]?.getD ⟨0,0,0,[]⟩).tag<(l[i]?.getD ⟨0,0,0,[]⟩).tag):=by
 induction l with
 |nil=>rfl
 |cons a l ih=>
  cases l with
  |nil=>rfl
  |cons b l=>
   show(decide (a.tag<b.tag)&&fD (b::l))=_;rw[ih,cQ (a:=a),xu,cQ,xu];simp
   congr 1
theorem ah9(S:aV)(l:List aI):jI S l=(List.range l.length).all λi=>(decide (i=0)||decide ((l[i -1]?.getD ⟨0,0,0,[]⟩).tag<(l[i]?.getD ⟨0,0,0,[]⟩).tag))&&(my (l[i]?.getD ⟨0,0,0,[]⟩).tag&&(!ej S (l[i]?.getD ⟨0,0,0,[]⟩).tag&&dW (l[i]?.getD ⟨0,0,0,[]⟩).ty (l[i]?.getD ⟨0,0,0,[]⟩).au (l[i]?.getD ⟨0,0,0,[]⟩).data)):=by
 unfold jI;rw[ae3,fO];simp;constructor
 ·grind
 ·intro h;refine⟨λi hi=>(h i hi).1,λx hx=>?_⟩;obtain⟨i,hi,rfl⟩:=List.getElem_of_mem hx
  grind
theorem agU(S:aV)(l:List aI)(X Y Z:Value)(hs:IS S)(hS:S.bG.length<2^40)(hl:l.length<2^40)(hd:∀t∈l,t.data.length<2^40)(hw:S.bG.length+l.length+10<=w):
 Hv w X (az l) Y Z (fY S.bG) S.at_ S.cA S.next=some (jI S l):=by
 unfold Hv az;rw[dw,ah9];refine SG l.length _ (ev:=λi (g:Value->Int->Int->Value->Value->Value->Value->Int->Int->Int->Option Bool)=>g (aC cx l) l.length i (aC cx l) Y Z (fY S.bG) S.at_ S.cA S.next) ?_ ?_ (by omega)
 ·intro i g h;have e1:((i:Int)<(l.length:Int)):=by omega
  simp only[bc,e1,bn,ay,ct];rw[bW gI h,dD h];have hdi:=hd _ (dL h);have tg:∀(t:aI)(r:List Value),cx t++r=.int .i64 t.tag::.int .i64 t.ty::.int .i64 t.au::aj t.data::r:=λ_ _=>rfl;simp only[tg,bN,cH,cR,iV,te];rw[agN (by omega),aN (n:=(i:Int)+1) (by omega) (by omega)];simp only[aA];rw[ag7 S _ hs hS (by omega),zI w _ _ _ hdi];simp only[aA];have fin:∀a b:Bool,(cond a (some false) (cond (!b) (some false) (g (aC cx l) (l.length:Int) ((i:Int)+1) (aC cx l) Y Z (fY S.bG) S.at_ S.cA S.next)))=if(!a&&b)=true then g (aC cx l) (l.length:Int) ((i+1:Nat):Int) (aC cx l) Y Z (fY S.bG) S.at_ S.cA S.next else some false:=by intro a b;cases a<;>cases b<;>rfl
  rcases Bool.eq_false_or_eq_true (my l[i].tag) with ht|ht
  ·simp only[ht,cL,aE,fP];by_cases h0:i=0
   ·have e2:¬((0:Int)<(i:Int)):=by omega
    have e3:decide (i=0)=true:=by simp[h0]
    simp only[e2,cy,aE,fin,e3,Bool.true_or,fP]
   ·have e2:((0:Int)<(i:Int)):=by omega
    rw[aN (n:=(i:Int) -1) (by omega) (by omega),lk (by omega),show((i:Int) -1).toNat=i -1 by omega];rw[bW gI (show i -1<l.length by omega)];simp_all;by_cases h3:l[i -1].tag<l[i].tag<;>grind
  ·simp_all
 ·intro g;have e1:¬((l.length:Int)<(l.length:Int)):=by omega
  simp
end
section
def aL:cF->List (Int×aO)
 | .nil=>[]
 | .cons tag d r=>(tag,d)::aL r
def dT:aO->Value
 | .mk tags _ _=>az tags
def dS:aO->Value
 | .mk _ subs _=>ae (cm subs) (gd subs)
def dB:aO->Value
 | .mk _ _ blob=>aj blob
theorem pM(d:aO):dK d=[dT d,dS d,dB d]:=by cases d;rfl
def fH(p:Int×aO):List Value:=.int .i64 p.1 ::dK p.2
theorem uP(p:Int×aO):(fH p).length=4:=by unfold fH;rw[cQ,nX]
theorem uQ:∀s:cF,(aL s).length=cm s
 | .nil=>rfl
 | .cons _ _ r=>by show(aL r).length+1=cm r+1;rw[uQ r]
theorem OX:∀s:cF,gd s=(aL s).flatMap fH
 | .nil=>rfl
 | .cons t d r=>by show Value.int .i64 t::(dK d++gd r)=(Value.int .i64 t::dK d)++(aL r).flatMap fH;rw[OX r];rfl
theorem Da(s:cF):ae (cm s) (gd s)=aC fH (aL s):=by unfold aC;rw[uQ,OX]
mutual
def gV(m:Nat):aO->Prop
 | .mk tags subs blob=>tags.length<=m/\cm subs<=m/\blob.length<=m/\(∀t∈tags,t.data.length<=m)/\gW m subs
def gW(m:Nat):cF->Prop
 | .nil=>True
 | .cons _ d r=>gV m d/\gW m r
end
variable{m:Nat}
theorem xG:∀{s:cF},gW m s->∀p∈aL s,gV m p.2
 | .nil,_,p,h=>by cases h
 | .cons t d r,h,p,hp=>by
  rcases cj.1 hp with rfl|hp
  ·exact h.1
  ·exact xG h.2 p hp
theorem Ed:∀{s:cF},∀p∈aL s,fA p.2 <=jw s
 | .nil,p,h=>by cases h
 | .cons t d r,p,hp=>by
  rcases cj.1 hp with rfl|hp
  ·exact Nat.le_max_left _ _
  ·exact eP (Ed p hp) (Nat.le_max_right _ _)
variable{w:Nat}
theorem agG(l:List gU)(n:Int)(a b c:Value)(hl:l.length<2^40)(hw:l.length<w):NT w (fY l) n a b c=some (db (λx=>x.tag==n) l):=by
 refine mg l (λx=>x.tag==n) (ev:=λi (g:Value->List Value->Int->Int->Option Int)=>g (aC lC l) [.int .i64 n,a,b,c] l.length i) ?_ ?_ hw
 ·intro i g h;simp_all;rw[bW ue h];unfold lC Oc;rw[aN (by omega) (by omega)];simp
 simp
theorem KB(S:aV)(n:Int):(db (λx:gU=>x.tag==n) S.bG<0/\eS S n=false)\/
 ∃k,∃h:k<S.bG.length,db (λx:gU=>x.tag==n) S.bG=(k:Int)/\eS S n=true/\(kM S n).getD 0=(S.bG[k]).shape.toNat:=by
 unfold eS kM db;cases h:S.bG.findIdx? (λx=>x.tag==n) with
 |none=>left;refine⟨by decide,?_⟩;rw[List.findIdx?_eq_none_iff] at h;rw[Bool.eq_false_iff];intro q;obtain⟨x,hx,e⟩:=List.any_eq_true.1 q;rw[h x hx] at e;cases e
 |some k=>
  right;obtain⟨hk,h1,h2⟩:=List.findIdx?_eq_some_iff_getElem.1 h;refine⟨k,hk,rfl,List.any_eq_true.2 ⟨_,dL hk,h1⟩,?_⟩;have:S.bG.find? (λx=>x.tag==n)=some S.bG[k]:=by rw[List.find?_eq_some_iff_getElem];exact⟨h1,k,hk,rfl,λj hj=>by have:=h2 j hj;simpa using this⟩
  rw[this];rfl
theorem ae2(l:List Int):nh l=(List.range l.length).all λi=>decide (i=0)||decide ((l[i -1]?.getD 0)<(l[i]?.getD 0)):=by
 induction l with
 |nil=>rfl
 |cons a l ih=>
  cases l with
  |nil=>rfl
  |cons b l=>
   show(decide (a<b)&&nh (b::l))=_;rw[ih,cQ (a:=a),xu,cQ,xu];simp
   congr 1
theorem WO:∀s:cF,kx s=(aL s).map Prod.fst
 | .nil=>rfl
 | .cons t d r=>by show t::kx r=t::(aL r).map Prod.fst;rw[WO r]
theorem RD(sh:List aV)(S:aV):∀s:cF,iB sh S s=(aL s).all λp=>eS S p.1 &&cK sh ((kM S p.1).getD 0) p.2
 | .nil=>by simp[iB,aL]
 | .cons t d r=>by simp only[iB,aL,List.all_cons];rw[RD sh S r,Bool.and_assoc]
def yQ:Int×aO:=(0,.mk [] .nil [])
theorem Z3(sh:List aV)(S:aV)(s:cF):(nh (kx s)&&iB sh S s)=(List.range (aL s).length).all λi=>
 (decide (i=0)||decide (((aL s)[i -1]?.getD yQ).1 <((aL s)[i]?.getD yQ).1))&&(eS S ((aL s)[i]?.getD yQ).1 &&cK sh ((kM S ((aL s)[i]?.getD yQ).1).getD 0) ((aL s)[i]?.getD yQ).2):=by
 rw[ae2,RD,WO,eD,fO];simp only[bg,jf,List.mem_range];have hf:∀i:Nat,((List.map Prod.fst (aL s))[i]?).getD 0=((aL s)[i]?.getD yQ).1 :=by intro i;rw[List.getElem?_map];cases(aL s)[i]? <;>rfl
 simp only[hf];constructor
 ·grind
 ·intro h;refine⟨λi hi=>(h i hi).1,λx hx=>?_⟩;obtain⟨i,hi,rfl⟩:=List.getElem_of_mem hx
  grind
theorem ahS(hm:m<2^38)(hw:2*m+100<=w)(sh:List aV)(hsh:iu sh)(hl:∀s,s<sh.length->(aJ sh s).bG.length<=m)(rec:Value->Value->Value->Value->Int->Option Bool)
 (d:aO) (s:Nat) (hs:s<sh.length) (hd:gV m d) (hrec:∀p∈aL (match d with| .mk _ subs _=>subs),∀k:Nat,k<sh.length->rec (cw sh) (dT p.2) (dS p.2) (dB p.2) (k:Int)=some (cK sh k p.2)):
 Ir w rec (cw sh) (dT d) (dS d) (dB d) (s:Int)=some (cK sh s d):=by
 obtain⟨tags,subs,blob⟩:=d;have hd:tags.length<=m/\cm subs<=m/\blob.length<=m/\(∀t∈tags,t.data.length<=m)/\gW m subs:=hd;have hS:sh[s]=aJ sh s:=by unfold aJ;rw[dD hs];rfl
 have hp:IS (aJ sh s):=by
  have:=(hsh.ok s).pair;show 0<=(aJ sh s).at_;by_cases q:(aJ sh s).at_=0
  ·omega
  ·have:=this q;omega
 have hln:=hl s hs;unfold Ir cw cK MH;simp only[dT,dS,dB,ct];rw[bW zZ hs,hS];have tg:∀(S:aV)(r:List Value),iL S++r=fY S.bG::.int .i64 S.at_::.int .i64 S.cA::.int .i64 S.next::r:=λ_ _=>rfl;simp only[tg,bN,cH];rw[G7 w tags subs blob (by omega),agU (aJ sh s) tags _ _ _ hp (by omega) (by omega) (λt ht=>by have:=hd.2.2.2.1 t ht;omega) (by omega)];simp only[aA,bc,qI,cD];generalize hE:bF (.mk tags subs blob)=E;by_cases h1:(E:Int)<1
 ·rw[ar h1];have:¬(1<=E/\E<=65535):=by omega
  simp[this]
 rw[ai h1];by_cases h2:65535<(E:Int)
 ·rw[ar h2];have:¬(1<=E/\E<=65535):=by omega
  simp[this]
 rw[ai h2];have h3:(1<=E/\E<=65535):=by omega
 simp only[h3,and_self,bn,fP];rcases Bool.eq_false_or_eq_true (jI (aJ sh s) tags) with ht|ht
 ·simp only[ht,cL,aE,fP];rw[dU];have sg:∀(p:Int×aO)(r:List Value),fH p++r=.int .i64 p.1 ::dT p.2 ::dS p.2 ::dB p.2 ::r:=by
   intro p r;unfold fH;rw[pM];rfl
  have hsl:=uQ subs;have fin:∀(b:Bool)(x y:Option Bool),(cond (!b) x y)=if b=true then y else x:=by intro b x y;cases b<;>rfl
  by_cases hb:blob.length=0
  case' pos=>rw[ai (by simp only[oD];omega)];simp only[hb,bn,Bool.true_or,fP]
  case' neg=>
   rw[ar (by simp only[oD];omega)];by_cases ha:(aJ sh s).at_=0
   case pos=>rw[ar ha];simp[hb,ha]
   rw[ai ha];simp only[hb,ha,cy,ne_eq,not_false_eq_true,bn,Bool.or_true,fP]
  all_goals
   rw[Da,dw,Z3];refine SG (aL subs).length _ (ev:=λi (g:Value->Int->Int->Value->Value->Value->Value->Value->Int->Int->Int->Option Bool)=>g (aC fH (aL subs)) (aL subs).length i (aC iL sh) (az tags) (aC fH (aL subs)) (aj blob) (fY (aJ sh s).bG) (aJ sh s).at_ (aJ sh s).cA (aJ sh s).next) ?_ ?_ (by omega)
   ·intro i g h;have e1:((i:Int)<((aL subs).length:Int)):=by omega
    simp only[e1,gj,ct];rw[bW uP h,dD h];simp only[sg,bN,cH,cR,iV,te];rw[agG _ _ _ _ _ (by omega) (by omega)];simp only[aA];rcases KB (aJ sh s) (aL subs)[i].1 with⟨hn,hb0⟩|⟨k,hk,e,hb1,e2⟩
    ·rw[ar hn];simp only[hb0,uT,Bool.and_false,mA,gN]
    ·rw[e,ai (by omega)];have hmem:=dL (l:=(aJ sh s).bG) hk;have hlk:=hsh.bG s hs _ hmem;have hr:=hrec _ (dL h) ((aJ sh s).bG[k]).shape.toNat (by omega);rw[lM (by omega)] at hr;have lg:∀(x:gU)(r:List Value),(lC x++r).drop 1=.int .i64 x.shape::r:=λ_ _=>rfl;rw[aN (n:=(i:Int)+1) (by omega) (by omega)];unfold fY;simp only[ct];rw[bW ue hk];simp only[lg,bN,cH];unfold cw at hr;rw[hr];simp only[aA,fin,hb1,fP,e2];by_cases h0:i=0
     ·have e3:decide (i=0)=true:=by simp[h0]
      rw[ai (by omega)];simp only[e3,Bool.true_or,fP];rfl
     ·rw[ar (by omega),aN (n:=(i:Int) -1) (by omega) (by omega),lk (by omega),show((i:Int) -1).toNat=i -1 by omega];rw[bW uP (show i -1<(aL subs).length by omega),dD (show i -1<(aL subs).length by omega)];simp only[eL,sg,bN,cH,te];by_cases h3:(aL subs)[i -1].1 <(aL subs)[i].1
      ·simp only[h3,bn,gj,Bool.or_true,fP];rfl
      ·simp only[h3,cy,h0,Bool.or_self,uT,mA,gN]
   ·intro g;have e1:¬(((aL subs).length:Int)<((aL subs).length:Int)):=by omega
    simp only[e1,gN]
 ·simp only[ht,fu,ay,uT]
theorem RE(hm:m<2^38)(hw:2*m+100<=w)(sh:List aV)(hsh:iu sh)(hl:∀s,s<sh.length->(aJ sh s).bG.length<=m)(z:Value->Value->Value->Value->Int->Option Bool):
 ∀(n:Nat)(d:aO)(s:Nat),fA d<=n->s<sh.length->gV m d->pU z (Ir w) n (cw sh) (dT d) (dS d) (dB d) (s:Int)=some (cK sh s d)
 |0,d,s,h,_,_=>by obtain⟨tags,subs,blob⟩:=d;unfold fA at h;omega
 |n+1,d,s,h,hs,hd=>by refine ahS hm hw sh hsh hl _ d s hs hd ?_;obtain⟨tags,subs,blob⟩:=d;intro p hp k hk;have hp:p∈aL subs:=hp;have:=Ed p hp;unfold fA at h;exact RE hm hw sh hsh hl z n p.2 k (by omega) hk (xG hd.2.2.2.2 p hp)
theorem agB(hm:m<2^38)(hw:2*m+100<=w)(sh:List aV)(hsh:iu sh)(hl:∀s,s<sh.length->(aJ sh s).bG.length<=m)(d:aO)(s:Nat)(hs:s<sh.length)(hd:gV m d)(jA:fA d<=w):
 NQ w (cw sh) (dT d) (dS d) (dB d) (s:Int)=some (cK sh s d):=RE hm hw sh hsh hl _ w d s jA hs hd
end
section
def cd(x:bm):List Value:=[.int .i64 x.ny,.int .i64 x.dir,.int .i64 x.tag,.int .i64 x.at_,.int .i64 x.cA]
theorem C7(x:bm):(cd x).length=5:=rfl
theorem vR(n:Nat):aD n<=n+1:=by unfold aD;omega
theorem Ue(ty au:Int):bY ty au<=524288:=by
 have:=SF ty au;unfold bY
 grind
variable{e:Nat}
theorem NO(w:Nat)(ny dir tag no:Int){n:Nat}(hn:n<2^50)(he:e<2^50)(c:List Value)(hc:c.length<=1000000000):
 wV w ny dir tag n e no c=some (((aD e+n:Nat):Int),no,c++cd ⟨ny,dir,tag,aD e,n⟩):=by
 have hv:=vR e;unfold wV Ob;rw[ag6 w (by omega)];simp;rw[aN (by omega) (by omega)];simp_all;rfl
theorem JD(t:aI):∀(l:List aI)(e:Nat),ck e (l++[t])=if bY t.ty t.au=0 then ck e l else aD (ck e l)+bY t.ty t.au
 |[],e=>rfl
 |a::l,e=>by show(if bY a.ty a.au=0 then ck e (l++[t]) else ck (aD e+bY a.ty a.au) (l++[t]))=_;rw[JD t l e,JD t l (aD e+bY a.ty a.au)];by_cases h:bY a.ty a.au=0<;>simp[ck,h]
theorem WC(no:Nat)(t:aI):∀(l:List aI)(e:Nat),cX no e (l++[t])=cX no e l++(if bY t.ty t.au=0 then[] else[⟨3,no,t.tag,aD (ck e l),bY t.ty t.au⟩])
 |[],e=>by simp[cX,ck]
 |a::l,e=>by by_cases h:bY a.ty a.au=0<;>simp[cX,ck,h,WC no t l]
theorem JC{K:Nat}(hK:524289<=K):∀(l:List aI)(e:Nat),ck e l<=e+l.length*K
 |[],e=>Nat.le_add_right _ _
 |a::l,e=>by
  have h1:=JC hK l e;have h2:=JC hK l (aD e+bY a.ty a.au);have h3:=vR e;have h4:=Ue a.ty a.au;have h5:(a::l).length*K=l.length*K+K:=by rw[cQ,Nat.succ_mul]
  unfold ck
  grind
theorem Zc(l:List aI)(e:Nat):ck e l<=e+l.length*600000:=JC (by simp) l e
theorem OP(no:Nat):∀(l:List aI)(e:Nat),(cX no e l).length<=l.length
 |[],e=>by simp[cX]
 |a::l,e=>by
  have h1:=OP no l e;have h2:=OP no l (aD e+bY a.ty a.au);unfold cX
  grind
theorem ahN(no:Nat)(l:List aI)(e i:Nat):(cX no e (l.take i)).length<=(cX no e l).length:=by
 have:∀(a b:List aI)(e:Nat),cX no e (a++b)=cX no e a++cX no (ck e a) b:=by
  intro a;induction a with
  |nil=>intro b e;rfl
  |cons p a ih=>intro b e;by_cases h:bY p.ty p.au=0<;>simp[cX,ck,h,ih]
 rw[<-mD i l,this];simp
theorem w9(l:List bm):(l.flatMap cd).length=l.length*5:=eJ C7 l
theorem agT{w:Nat}(l:List aI)(X Y:Value)(no:Nat)(k:Int)(c:List Value)(he:e+l.length*600000<2^50)(hc:c.length+(cX no e l).length*5<=1000000000)(hw:l.length<w):
 Hu w (az l) X Y no e k c=some ((ck e l:Int),k,c++(cX no e l).flatMap cd):=by
 unfold Hu az;rw[dw];have s0:c=c++(cX no e (l.take 0)).flatMap cd:=by simp[cX]
 conv=>lhs;rw[s0]
 refine lD (ev:=λi (g:Int->Value->Int->Int->Int->Int->List Value->Option (Int×Int×List Value))=>g no (aC cx l) l.length i (ck e (l.take i):Nat) k (c++(cX no e (l.take i)).flatMap cd)) l.length ?_ ?_ hw
 ·intro i g h;have e1:((i:Int)<(l.length:Int)):=by omega
  simp[e1];rw[bW gI h];have tg:∀(t:aI)(r:List Value),cx t++r=.int .i64 t.tag::.int .i64 t.ty::.int .i64 t.au::aj t.data::r:=λ_ _=>rfl;simp[tg];rw[V8,aN (n:=(i:Int)+1) (by omega) (by omega)];simp only[aA];rw[nB h,JD,WC];have hlt:(l.take i).length<=l.length:=by rw[dH];omega
  have b1:=Zc (l.take i) e;have b2:=ahN no l e i;have b3:=Ue l[i].ty l[i].au;by_cases h0:bY l[i].ty l[i].au=0
  ·simp only[h0,gj,eH];rfl
  ·have e2:((0:Int)<((bY l[i].ty l[i].au:Nat):Int)):=by omega
   simp only[e2,h0,gN];rw[NO w 3 no l[i].tag k (by omega) (by omega) _ (by rw[aR,w9];omega)];simp only[aA,gq,ff,nz,eH,dY];rfl
 ·intro g;simp
end
section
def gE(e:Nat):List (Int×aO)->Nat
 |[]=>e
 |p::l=>gE (bq e p.2) l
def fy:List (Int×aO)->Nat
 |[]=>0
 |p::l=>dt p.2 +fy l
def fG(no e:Nat):List (Int×aO)->List bm
 |[]=>[]
 |p::l=>fF no e p.2 ++fG (no+dt p.2) (bq e p.2) l
theorem JB:∀(s:cF)(e:Nat),eu e s=gE e (aL s)
 | .nil,e=>by simp[eu,aL,gE]
 | .cons t d r,e=>by simp[eu,aL,gE,JB r]
theorem Js:∀(s:cF),ia s=fy (aL s)
 | .nil=>by simp[ia,aL,fy]
 | .cons t d r=>by simp[ia,aL,fy,Js r]
theorem Im:∀(s:cF)(no e:Nat),jU no e s=fG no e (aL s)
 | .nil,no,e=>by simp[jU,aL,fG]
 | .cons t d r,no,e=>by simp[jU,aL,fG,Im r]
theorem QQ(p:Int×aO):∀(l:List (Int×aO))(e:Nat),gE e (l++[p])=bq (gE e l) p.2
 |[],_=>rfl
 |a::l,e=>QQ p l (bq e a.2)
theorem Qv(p:Int×aO):∀(l:List (Int×aO)),fy (l++[p])=fy l+dt p.2
 |[]=>by simp[fy]
 |a::l=>by simp[fy,Qv p l,lO]
theorem WA(p:Int×aO):∀(l:List (Int×aO))(no e:Nat),fG no e (l++[p])=fG no e l++fF (no+fy l) (gE e l) p.2
 |[],no,e=>by simp[fG,fy,gE]
 |a::l,no,e=>by simp[fG,fy,gE,WA p l,lO]
theorem Ej:∀(l:List (Int×aO))(e:Nat),e<=gE e l
 |[],_=>aB _
 |p::l,e=>eP (Bf p.2 e) (Ej l (bq e p.2))
theorem Zb(l:List (Int×aO))(e i:Nat):gE e (l.take i)<=gE e l:=by
 have:∀(a b:List (Int×aO))(e:Nat),gE e (a++b)=gE (gE e a) b:=by
  intro a;induction a with
  |nil=>intro b e;rfl
  |cons p a ih=>intro b e;exact ih b (bq e p.2)
 conv=>rhs;rw[<-mD i l,this]
 exact Ej _ _
theorem YH(l:List (Int×aO))(i:Nat):fy (l.take i)<=fy l:=by
 have:∀(a b:List (Int×aO)),fy (a++b)=fy a+fy b:=by
  intro a;induction a with
  |nil=>simp[fy]
  |cons p a ih=>intro b;simp[fy,ih b,lO]
 rw[<-mD i l,this];simp
theorem ahK(l:List (Int×aO))(no e i:Nat):(fG no e (l.take i)).length<=(fG no e l).length:=by
 have:∀(a b:List (Int×aO))(no e:Nat),fG no e (a++b)=fG no e a++fG (no+fy a) (gE e a) b:=by
  intro a;induction a with
  |nil=>simp[fG,fy,gE]
  |cons p a ih=>intro b no e;simp[fG,fy,gE,ih b,lO]
 rw[<-mD i l,this];simp
variable{m w:Nat}
theorem ahR(hm:m<2^28)(hw:2*m+100<=w)(rec:Value->Value->Value->Int->Int->List Value->Option (Int×Int×List Value))(d:aO)(no e:Nat)(c:List Value)(he:bq e d<2^49)(hno:no+dt d<2^50)
 (hc:c.length+(fF no e d).length*5<=1000000000) (hd:gV m d)
 (hrec:∀p∈aL (match d with| .mk _ subs _=>subs),∀(no' e':Nat)(c':List Value),bq e' p.2 <2^49->no'+dt p.2 <2^50->c'.length+(fF no' e' p.2).length*5<=1000000000->rec (dT p.2) (dS p.2) (dB p.2) e' no' c'=some ((bq e' p.2 :Int),((no'+dt p.2 :Nat):Int),c'++(fF no' e' p.2).flatMap cd)):
 Iq w rec (dT d) (dS d) (dB d) e no c=some ((bq e d:Int),((no+dt d:Nat):Int),c++(fF no e d).flatMap cd):=by
 obtain⟨tags,subs,blob⟩:=d;have hd:tags.length<=m/\cm subs<=m/\blob.length<=m/\(∀t∈tags,t.data.length<=m)/\gW m subs:=hd;have hE:bF (.mk tags subs blob)<=2*m+2:=by show tags.length+cm subs+(if blob.length=0 then 0 else 2)<=2*m+2;split<;>omega
 unfold dt at hno⊢;rw[Js] at hno⊢;unfold bq at he⊢;unfold fF at hc⊢;simp only[Im] at hc⊢;simp only[JB] at he hc⊢;unfold Iq;simp only[dT,dS,dB];rw[G7 w tags subs blob (by omega)];simp only[aA,pS,cR];generalize bF (.mk tags subs blob)=E at he hc hE⊢;rw[aN (n:=12*(E:Int)) (by omega) (by omega),aN (n:=2+12*(E:Int)) (by omega) (by omega),aN (n:=2+12*(E:Int)+4) (by omega) (by omega),aN (n:=(no:Int)+1) (by omega) (by omega)];rw[show(2:Int)+12*(E:Int)+4=((6+12*E:Nat):Int) by omega,show(no:Int)+1=((no+1:Nat):Int) by omega];have v1:=vR e;have v0:e<=aD e:=by unfold aD;omega
 have g1:=qJ tags (aD e+(6+12*E));have g2:=Ej (aL subs) (ck (aD e+(6+12*E)) tags);have g3:gE (ck (aD e+(6+12*E)) tags) (aL subs)<2^49:=by
  by_cases q:blob.length=0
  ·rw[ar q] at he;exact he
  ·rw[ai q] at he;have:∀n:Nat,n<=aD n:=λn=>by unfold aD;omega
   have:=this (gE (ck (aD e+(6+12*E)) tags) (aL subs));omega
 rw[NO w 2 no 0 _ (by omega) (by omega) c (by omega)];simp only[aA];simp only[cQ,aR] at hc;rw[agT tags _ _ no _ _ (by omega) (by rw[aR,C7];omega) (by omega)];simp only[aA];rw[Da,dw];have sg:∀(p:Int×aO)(r:List Value),fH p++r=.int .i64 p.1 ::dT p.2 ::dS p.2 ::dB p.2 ::r:=by intro p r;unfold fH;rw[pM];rfl
 have hsl:=uQ subs;generalize hE2:ck (aD e+(6+12*E)) tags=E2 at*;generalize hC:c++cd ⟨2,no,0,aD e,6+12*E⟩++(cX no (aD e+(6+12*E)) tags).flatMap cd=C;have hCl:C.length=c.length+5+(cX no (aD e+(6+12*E)) tags).length*5:=by rw[<-hC,aR,aR,w9];rfl
 have s0:C=C++(fG (no+1) E2 ((aL subs).take 0)).flatMap cd:=by simp[fG]
 conv=>lhs;rw[s0]
 refine lD (ev:=λi (g:Int->Value->Int->Int->Int->Int->Value->Value->Value->List Value->Option (Int×Int×List Value))=>g no (aC fH (aL subs)) (aL subs).length i (gE E2 ((aL subs).take i):Nat) ((no+1+fy ((aL subs).take i):Nat):Int) (az tags) (aC fH (aL subs)) (aj blob) (C++(fG (no+1) E2 ((aL subs).take i)).flatMap cd)) (aL subs).length ?_ ?_ (by omega)
 ·intro i g h;have e1:((i:Int)<((aL subs).length:Int)):=by omega
  simp only[bc,e1,bn,ay,ct];rw[bW uP h];simp only[sg,bN,cH];have k1:=Zb (aL subs) E2 (i+1);have k2:=YH (aL subs) (i+1);have k3:=ahK (aL subs) (no+1) E2 (i+1);rw[nB h] at k1 k2 k3⊢;rw[QQ] at k1⊢;rw[Qv] at k2⊢;rw[WA] at k3⊢;rw[aR] at k3;rw[hrec _ (dL h) (no+1+fy ((aL subs).take i)) (gE E2 ((aL subs).take i)) _ (by omega) (by omega) (by rw[aR,w9];omega)];simp only[aA];rw[aN (n:=(i:Int)+1) (by omega) (by omega),gq,<-dY,lO (no+1)];rfl
 ·intro g;have e1:¬(((aL subs).length:Int)<((aL subs).length:Int)):=by omega
  simp only[bc,e1,cy,aE,rG,dU,cu];have hcs:c++(⟨2,no,0,aD e,6+12*E⟩::(cX no (aD e+(6+12*E)) tags++(fG (no+1) E2 (aL subs)++(if blob.length=0 then[] else[⟨4,no,0,aD (gE E2 (aL subs)),blob.length⟩]:List bm)))).flatMap cd=C++(fG (no+1) E2 (aL subs)).flatMap cd++(if blob.length=0 then[] else[⟨4,no,0,aD (gE E2 (aL subs)),blob.length⟩]:List bm).flatMap cd:=by rw[<-hC];simp
  rw[hcs];by_cases hb:blob.length=0
  ·simp only[hb,show decide ((0:Int)<((0:Nat):Int))=false from rfl,aE,gj,nz,eH,lO];rw[Nat.add_comm 1]
  ·have e2:((0:Int)<(blob.length:Int)):=by omega
   simp only[e2,bn,ay,hb,gN];simp only[hb,gN,cQ,List.length_nil] at hc;rw[NO w 4 no 0 _ (by omega) (by omega) _ (by rw[aR,w9];omega)];simp only[aA,ff,nz,eH,lO];rw[Nat.add_comm 1]
theorem QL(hm:m<2^28)(hw:2*m+100<=w)(z:Value->Value->Value->Int->Int->List Value->Option (Int×Int×List Value)):
 ∀(n:Nat)(d:aO)(no e:Nat)(c:List Value),fA d<=n->bq e d<2^49->no+dt d<2^50->c.length+(fF no e d).length*5<=1000000000->gV m d->
  pU z (Iq w) n (dT d) (dS d) (dB d) e no c=some ((bq e d:Int),((no+dt d:Nat):Int),c++(fF no e d).flatMap cd)
 |0,d,no,e,c,h,_,_,_,_=>by obtain⟨tags,subs,blob⟩:=d;unfold fA at h;omega
 |n+1,d,no,e,c,h,he,hno,hc,hd=>by refine ahR hm hw _ d no e c he hno hc hd ?_;obtain⟨tags,subs,blob⟩:=d;intro p hp no' e' c' h1 h2 h3;have hp:p∈aL subs:=hp;have:=Ed p hp;unfold fA at h;exact QL hm hw z n p.2 no' e' c' (by omega) h1 h2 h3 (xG hd.2.2.2.2 p hp)
theorem agA(hm:m<2^28)(hw:2*m+100<=w)(d:aO)(no e:Nat)(c:List Value)(jA:fA d<=w)(he:bq e d<2^49)(hno:no+dt d<2^50)(hc:c.length+(fF no e d).length*5<=1000000000)(hd:gV m d):
 NP w (dT d) (dS d) (dB d) e no c=some ((bq e d:Int),((no+dt d:Nat):Int),c++(fF no e d).flatMap cd):=QL hm hw _ w d no e c jA he hno hc hd
end
theorem aeM(n:Int)(o:Int):oZ n 2 o=if 0<=n/\n<65536 then some (aU n.toNat 2 o) else none:=rfl
theorem agM{w:Nat}(hw:8<=w)(a b c d o:Int)(ho:o=1\/o=2):Hm w a b c d o=some (if(0<=a/\a<65536)/\(0<=b/\b<65536)/\(0<=c/\c<4294967296)/\(0<=d/\d<4294967296) then(aj (aU a.toNat 2 o++(aU b.toNat 2 o++(aU c.toNat 4 o++aU d.toNat 4 o))),true) else(ae 0 [],false)):=by
 have m4:fC 4 o=true:=by rcases ho with rfl|rfl<;>rfl
 have p2:∀n:Int,gR w n 2 o=some (if 0<=n/\n<65536 then(aj (aU n.toNat 2 o),true) else(ae 0 [],false)):=by intro n;rw[sJ hw,ar (by rcases ho with rfl|rfl<;>rfl),show(2:Int).toNat=2 from rfl,aeM];by_cases h:0<=n/\n<65536<;>grind
 have p4:∀n:Int,gR w n 4 o=some (if 0<=n/\n<4294967296 then(aj (aU n.toNat 4 o),true) else(ae 0 [],false)):=by intro n;rw[sJ hw,ar m4,show(4:Int).toNat=4 from rfl,LN];by_cases h:0<=n/\n<4294967296<;>grind
 have fl:∀(l:List UInt8),(l.flatMap pH).length=l.length:=λl=>by rw[iH,eD]
 have l2:∀n:Int,(aU n.toNat 2 o).length=2:=λn=>eh _ _ _;have l4:∀n:Int,(aU n.toNat 4 o).length=4:=λn=>eh _ _ _;unfold Hm;rw[p2 a];by_cases ha:0<=a/\a<65536
 case neg=>rw[ai ha,ai (λq=>ha q.1)];rfl
 rw[ar ha];simp only[aA,cL,aE,ij,fl,l2,show aK 2=true from rfl];rw[p2 b];by_cases hb:0<=b/\b<65536
 case neg=>rw[ai hb,ai (λq=>hb q.2.1)];rfl
 rw[ar hb];simp only[aA,cL,aE,ij,fl,l2,show aK 2=true from rfl];rw[p4 c];by_cases hc:0<=c/\c<4294967296
 case neg=>rw[ai hc,ai (λq=>hc q.2.2.1)];rfl
 rw[ar hc];simp only[aA,cL,aE,ij,fl,l2,l4,aR,show aK (2+2)=true from rfl];rw[p4 d];by_cases hd:0<=d/\d<4294967296
 case neg=>rw[ai hd,ai (λq=>hd q.2.2.2)];rfl
 rw[ar hd];simp only[aA,cL,aE,ij,fl,l4,show aK (2+2)=true from rfl,show aK (2+2+4)=true from rfl];unfold aj aC;simp_all
section
variable{w:Nat}
theorem Xd(l:List UInt8)(hl:l.length<2^29)(hw:l.length+10<=w)(s:Nat)(o:Int)(hs:(s:Int)=1\/(s:Int)=2\/(s:Int)=4\/(s:Int)=8)(ho:o=1\/o=2):
 lp (λ(_ _:Int)(_ _:Nat)(_:Int)(_:List Value)=>(none:Option (Nat×Nat×List Value)))
     (λx14 (x15 x16:Int) (x17 x18:Nat) (x19:Int) (x20:List Value)=>
      bif ak x16 1 then
       bif !aq (Int.ofNat x17) (ah IntKind.i64 (x19.add x15)) then
        aG (ah IntKind.i64 (x19.add x15)) λx21=>
         aG x19 λx22=>
          bif x21.ble x18&&x22.ble x21 then
           ob (uI w (bif x18.beq x22 then 0 else 0+x22*1) (x21 -x22) (x18 -x22) x20) λx23=>
            x14 x15 x16 x17 x18 (ah IntKind.i64 (x19.add x15)) x23
          else none
       else some (x17,x18,x20)
      else some (x17,x18,x20))
     w (s:Int) o l.length l.length 0 (l.map aX)=some (l.length,l.length,(if o=1 then gS l s (l.length/s*s) else l).map aX):=by
 have hs0:0<s:=by omega
 have hs8:s<=8:=by omega
 have hd2:l.length/s<=l.length:=Nat.div_le_self _ _;by_cases h1:o=1
 ·subst h1;have hd:s*(l.length/s)<=l.length:=Nat.mul_div_le _ _;have hd3:l.length<s*(l.length/s)+s:=Nat.lt_mul_div_succ _ hs0;rw[show l.map aX=(gS l s (s*0)).map aX by rw[Nat.mul_zero,Xe],ar rfl];refine lD (ev:=λi (g:Int->Int->Nat->Nat->Int->List Value->Option (Nat×Nat×List Value))=>g (s:Int) 1 l.length l.length ((s*i:Nat):Int) ((gS l s (s*i)).map aX)) (l.length/s) ?_ ?_ (by omega)
  ·intro i g hi;have hle:s*(i+1)<=s*(l.length/s):=Aq _ hi;have e1:s*(i+1)=s*i+s:=by rw[Nat.mul_add,gM]
   have e2:(((s*i:Nat):Int).add (s:Int))=((s*(i+1):Nat):Int):=by rw[cR,e1];omega
   simp only[e2,show ak 1 1=true from rfl,ay,bc,cu];rw[aN (by omega) (by omega)];have e3:¬((l.length:Int)<((s*(i+1):Nat):Int)):=by omega
   simp only[e3,cy,fu,ay,ct,gu,AZ];have e4:s*(i+1)<=l.length:=by omega
   have e5:s*i<=s*(i+1):=by omega
   have e6:¬(l.length=s*i):=by omega
   simp only[e4,e5,e6,bn,cy,gY,ay,aE];have hlen:=qk l s (s*i);have:=Nx (w:=w) ((gS l s (s*i)).take (s*i)) (((gS l s (s*i)).drop (s*i)).take s) ((gS l s (s*i)).drop (s*i+s)) (by simp;omega) (by simp;omega) (l.length -s*i);rw[<-oF i s,<-Xf l hs0 (by rw[oF];omega),oF i s,oF (i+1) s,<-List.drop_drop,mD,mD,dH,dH,dZ,hlen,kE (by omega),kE (by omega)] at this;rw[show 0+s*i*1=s*i by omega,show s*(i+1) -s*i=s by omega,this];rfl
  ·intro g;simp only[show ak 1 1=true from rfl,ay,bc,cu,cR];rw[aN (by omega) (by omega)];have e3:((l.length:Int)<((s*(l.length/s):Nat):Int)+(s:Int)):=by omega
   simp only[e3,bn,cL,aE];rw[oF]
 ·rw[ai h1,ef _ _ (by omega)];simp only[cD,h1,cy,aE]
theorem Wc(l:List UInt8)(hl:l.length<2^29)(hw:l.length+10<=w)(s o:Int)(hc:fC s o=true\/(s=8/\fC 1 o=true)):
 CO w (aj l) s o=some (l.length,l.length,(if o=1 then gS l s.toNat (l.length/s.toNat*s.toNat) else l).map aX):=by
 unfold CO ML;rw[wR (by omega)];have hr:Nat.ble l.length 1000000000=true:=by rw[kW];omega
 have hr2:Nat.ble l.length l.length=true:=by rw[kW];omega
 have hi:aW 0 (List.take (l.length*1) (l.map aX)) (List.map aX (List.replicate l.length 0))=l.map aX:=by have:=FO (l.map aX) (List.map aX (List.replicate l.length 0)) [] [] (by simp);simp only[List.length_nil,iF,eH] at this;rw[gh (by simp),this]
 have hq:((l.map aX).length.beq (l.length*1)&&(0+l.length*1).ble (List.map aX (List.replicate l.length 0)).length)=true:=by simp
 have hs:s=1\/s=2\/s=4\/s=8:=by
  rcases hc with h|h
  ·have:=(ug h).1;omega
  ·omega
 have ho:o=1\/o=2:=by
  rcases hc with h|h
  ·exact(ug h).2
  ·exact(ug h.2).2
 obtain⟨s,rfl⟩:=Int.eq_ofNat_of_zero_le (a:=s) (by omega);cases hm:fC s o;all_goals simp only[aA,cL,aE]
 ·have h8:(s:Int)=8:=by rcases hc with h|h;(rw[hm] at h;cases h);exact h.1
  rw[wR (by omega),(show fC 1 o=true from by rcases hc with h|h;(rw[hm] at h;cases h);exact h.2),show ak (s:Int) 8=true by rw[h8];rfl];simp only[cL,aE,aA,dU,ij,hr,hr2,gY,uz,iH,Nat.min_self];rw[hq,hi];exact Xd l hl hw s o hs ho
 ·simp only[dU,ij,hr,hr2,gY,uz,iH,Nat.min_self];rw[hq,hi];exact Xd l hl hw s o hs ho
end
section
variable{au o ty:Int} {l:List UInt8}
theorem Uh(h:dW ty au l=true)(ho:o=1\/o=2):
 (fC (kindOf ty).2.1 o=true\/((kindOf ty).2.1 =8/\fC 1 o=true))/\l.length/(kindOf ty).2.1.toNat*(kindOf ty).2.1.toNat=l.length:=by
 refine⟨?_,?_⟩
 ·rcases(Sm ty ((wu h).1)) with h|h|h|h<;>rcases ho with rfl|rfl<;>rw[h]<;>simp[fC,Db]
 ·obtain⟨s,q,e1,e2,e3⟩:=SS h
  grind
variable{w:Nat}
theorem agW(hm:dW ty au l=true)(hl:l.length<2^29)(hw:l.length+10<=w)(ho:o=1\/o=2):
 Hz w ty au (aj l) o=some (l.length,l.length,(iM l (kindOf ty).2.1.toNat o).map aX):=by
 obtain⟨h1,h2⟩:=Uh hm ho;unfold Hz;rw[zI w ty au l (by omega),hm,zG];simp;rw[Wc l hl hw _ _ h1,h2];rfl
theorem agV(hm:dW ty au l=true)(hl:l.length<2^29)(hw:l.length+10<=w)(ho:o=1\/o=2):
 HD w ty au (aj l) o=some (aj (iM l (kindOf ty).2.1.toNat o)):=by
 obtain⟨h1,h2⟩:=Uh hm ho;unfold HD;rw[zI w ty au l (by omega),hm,zG];simp;rw[Wc l hl hw _ _ h1,h2,nV,xc];rfl
theorem vK(l:List UInt8)(n:Nat)(h:n=l.length):ae n (l.map aX)=aj l:=by rw[nV,h]
theorem V6(hw:100<=w)(t:aI)(hm:dW t.ty t.au t.data=true)(hl:t.data.length<2^29)(hw2:t.data.length+10<=w)(ho:o=1\/o=2)(ht:my t.tag=true):
 Hy w t.tag t.ty t.au (aj t.data) o=some (if bY t.ty t.au=0 then(t.tag,t.ty,t.au,(oT o t:Int),true) else(0,0,0,0,false)):=by
 unfold Hy;rw[agW hm hl hw2 ho,sJ (by omega)];have m2:fC 2 o=true:=by rcases ho with rfl|rfl<;>rfl
 have htr:0<=t.tag/\t.tag<65536:=by unfold my at ht;simpa using ht
 have hp:oZ t.tag (2:Int).toNat o=some (aU t.tag.toNat 2 o):=by unfold oZ;rw[ar ⟨htr.1,by show t.tag<((256^2:Nat):Int);omega⟩];rfl
 rw[ar m2,hp];have hout:=yX hm;obtain⟨k1,k2,k3,k4⟩:=wu hm;have hk:=Bw t.ty;have hpos:t.data.length≠0:=by intro q;have:1*1<=t.au*(kindOf t.ty).1 :=Int.mul_le_mul k2 (by omega) (by decide) (by omega);omega
 simp only[aA,cL,aE,cD,bc,cu];have e1:¬((t.data.length:Int)=0):=by omega
 simp only[e1,cy,aE];by_cases h4:t.data.length<=4
 ·have e2:¬((4:Int)<(t.data.length:Int)):=by omega
  simp only[e2,cy,aE];rw[ar h4] at hout;rw[ar hout,iV,aN (by omega) (by omega),lk (by omega)];have e3:((4:Int) -(t.data.length:Int)).toNat=4 -t.data.length:=by omega
  have hv:(iM t.data (kindOf t.ty).2.1.toNat o).length=t.data.length:=xc _ _ _;have hget:∀b:List UInt8,b=iM t.data (kindOf t.ty).2.1.toNat o++List.replicate (4 -t.data.length) 0->sL w (aj b) 0 4 o=some ((oT o t:Int),true):=by
   intro b hb;have hbl:b.length=4:=by rw[hb,aR,hv,uX];omega
   rw[GG (by omega) b (by omega) 0 4 o (by omega)];have:=Bq (l:=b) (p:=0) (s:=4) (order:=o) (.inr (.inr rfl)) ho (by omega);rw[show((0:Nat):Int)=0 from rfl,show((4:Nat):Int)=4 from rfl] at this;rw[this];unfold oT kA;rw[hb]
  rw[e3];have r1:(4 -t.data.length).ble 1000000000=true:=by rw[kW];omega
  simp only[r1,uz,eD,uX,gM,fg,hv,ay,AZ,gu,eL,aB,bn,kU];by_cases h5:t.data.length=4
  ·have e4:t.data.length+(4 -t.data.length)<=t.data.length:=by omega
   simp only[e4,bn,ay];have:4 -t.data.length=0:=by omega
   rw[this];simp only[List.replicate_zero,List.map_nil,aW];rw[vK _ _ (by rw[hv];omega),hget _ (by rw[this];simp)];rfl
  ·have e4:¬(4<=t.data.length):=by omega
   have e5:t.data.length+(4 -t.data.length)=4:=by omega
   have hn:=nextslicecap_le (need:=4) (old:=t.data.length) (by omega);have r3:aK (4 -t.data.length)=true:=by simp;omega
   have r4:aK t.data.length=true:=by simp;omega
   have r5:Builtin.nextslicecap 4 t.data.length<=5000000000:=by omega
   simp only[e4,cy,aE,e5,r3,r4,r5,bn,kU,ay];have h6:List.take t.data.length ((iM t.data (kindOf t.ty).2.1.toNat o).map aX)++(List.replicate (4 -t.data.length) (0:UInt8)).map aX=(iM t.data (kindOf t.ty).2.1.toNat o++List.replicate (4 -t.data.length) 0).map aX:=by rw[gh (by rw[eD,hv];exact aB _),jZ]
   rw[h6];rw[vK _ _ (by rw[mE,eD]),hget _ rfl];rfl
 ·have e2:((4:Int)<(t.data.length:Int)):=by omega
  simp only[e2,bn,ay];rw[ai h4] at hout;rw[ai (by omega)]
end
section
variable{w:Nat}
theorem oh{α γ σ:Type}{z:α}{F:α->α}{r:γ}(ev:Nat->σ->α->γ)(Inv:Nat->σ->Prop)(m:Nat)(s0:σ)(h0:Inv 0 s0)(hs:∀i g s,i<m->Inv i s->∃s',Inv (i+1) s'/\ev i s (F g)=ev (i+1) s' g)(he:∀g s,Inv m s->ev m s (F g)=r)(h:m<w):ev 0 s0 (lp z F w)=r:=by
 have:∀(d i v:Nat)(s:σ),i+d=m->d<v->Inv i s->ev i s (lp z F v)=r:=by
  intro d;induction d with
  |zero=>intro i v s hi hv hI;rw[ef z F (by omega)];simp_all
  |succ d ih=>
   intro i v s hi hv hI;obtain⟨s',h1,h2⟩:=hs i (lp z F (v -1)) s (by omega) hI;rw[ef z F (by omega)]
   grind
 grind
def dM(l:List aO):Value:=aC dK l
theorem Eg(d:aO)(r:List Value):dK d++r=dT d::dS d::dB d::r:=by rw[pM];rfl
def kj:List aO->Nat
 |[]=>0
 |d::ds=>max (fA d) (kj ds)
theorem Ec:∀{ds:List aO}{d:aO},d∈ds->fA d<=kj ds
 |[],d,h=>by grind
 |a::ds,d,h=>by
  rcases cj.1 h with rfl|h
  ·exact Nat.le_max_left _ _
  ·exact eP (Ec h) (Nat.le_max_right _ _)
def nK(m:Nat)(ds:List aO):Prop:=∀d∈ds,gV m d
theorem WE(l:List bm)(c:List Value)(h:c=l.flatMap cd):ae (c.length/5) c=aC cd l:=by subst h;unfold aC;rw[w9,lP _ (by simp)]
variable{m:Nat}
theorem VX(hm:m<2^28)(hw:2*m+100<=w)(o:Int)(ds:List aO)(yD:wU w o (dM ds)=some true)(jA:kj ds<=w)(hl:ds.length<=m)(he:ee 8 ds<2^49)(hc:(gK ⟨o,ds⟩).length*5<=1000000000)(hn:iT ds<2^50)(hd:nK m ds):
 zF w o (dM ds)=some (if ee 8 ds<=4294967295 then(aC cd (gK ⟨o,ds⟩),true) else(ae 0 [],false)):=by
 unfold zF;rw[yD];simp;unfold dM;refine oh (σ:=Nat×Nat×List bm) (ev:=λi s (g:Value->Int->Int->Int->Int->List Value->Option (Value×Bool))=>g (aC dK ds) ds.length i (s.1 :Nat) (s.2.1 :Nat) (s.2.2.flatMap cd))
  (Inv:=λi s=>ee s.1 (ds.drop i)=ee 8 ds/\s.2.1 +iT (ds.drop i)=iT ds/\s.2.2 ++jH s.2.1 s.1 (ds.drop i)=gK ⟨o,ds⟩) ds.length (8,0,[⟨1,-1,0,0,8⟩]) ?_ ?_ ?_ (by omega)
 ·exact⟨rfl,by simp,rfl⟩
 ·rintro i g ⟨e,no,sp⟩ hi ⟨h1,h2,h3⟩
  simp only at h1 h2 h3;rw[dG hi] at h1 h2 h3;rw[ee] at h1;rw[iT] at h2;rw[jH] at h3;refine⟨(bq e ds[i],no+dt ds[i],sp++fF no e ds[i]),⟨h1,by simp only;omega,by simp only;rw[<-h3,dY]⟩,?_⟩;have e1:((i:Int)<(ds.length:Int)):=by omega
  simp only[e1,ct];rw[bW nX hi];simp only[Eg,bN];have hmem:=dL hi;have g1:=pO (ds.drop (i+1)) (bq e ds[i]);have g2:(sp++fF no e ds[i]).length<=(gK ⟨o,ds⟩).length:=by rw[<-h3];simp only[aR];omega
  rw[aR] at g2;have h4:=Ec hmem;rw[agA hm hw ds[i] no e _ (by omega) (by omega) (by omega) (by rw[w9];omega) (hd _ hmem)];simp only[aA];rw[aN (by omega) (by omega),gq];rfl
 ·rintro g ⟨e,no,sp⟩ ⟨h1,h2,h3⟩
  simp[ee,jH] at h1 h3;have e1:¬((ds.length:Int)<(ds.length:Int)):=by omega
  rw[WE _ _ rfl,h3];by_cases q:ee 8 ds<=4294967295
  ·have:¬((4294967295:Int)<((ee 8 ds:Nat):Int)):=by omega
   simp_all
  ·have:((4294967295:Int)<((ee 8 ds:Nat):Int)):=by omega
   simp_all
def pW(l:List bm)(e:Nat):Nat:=match l.getLast? with
 |some x=>x.at_+x.cA
 |none=>e
theorem By(a b:List bm)(e:Nat):pW (a++b) e=pW b (pW a e):=by
 unfold pW
 grind
theorem Kx(x:bm)(b:List bm)(e:Nat):pW (x::b) e=pW b (x.at_+x.cA):=By [x] b e
theorem Kw(no:Nat):∀(l:List aI)(e:Nat),pW (cX no e l) e=ck e l
 |[],_=>rfl
 |t::l,e=>by
  unfold cX ck;split
  ·exact Kw no l e
  ·rw[Kx];exact Kw no l _
mutual
theorem Sr:∀(d:aO)(no e:Nat),pW (fF no e d) e=bq e d
 | .mk tags subs blob,no,e=>by unfold fF bq;rw[Kx,By,By,Kw,Ss];split<;>rfl
theorem Ss:∀(r:cF)(no e:Nat),pW (jU no e r) e=eu e r
 | .nil,no,e=>rfl
 | .cons _ d r,no,e=>by unfold jU eu;rw[By,Sr,Ss]
end
theorem Sq:∀(ds:List aO)(no e:Nat),pW (jH no e ds) e=ee e ds
 |[],no,e=>rfl
 |d::ds,no,e=>by unfold jH ee;rw[By,Sr,Sq]
theorem aaH(o:Int)(ds:List aO):∃x l,gK ⟨o,ds⟩=l++[x]/\x.at_+x.cA=ee 8 ds:=by
 have e:pW (gK ⟨o,ds⟩) 0=ee 8 ds:=by unfold gK;rw[Kx];exact(Sq ds 0 8)
 have ca:gK ⟨o,ds⟩≠[]:=by unfold gK;simp
 exact⟨(gK ⟨o,ds⟩).getLast ca,(gK ⟨o,ds⟩).dropLast,(List.dropLast_concat_getLast ca).symm,(e)⟩
theorem af2(hm:m<2^28)(hw:2*m+100<=w)(o:Int)(ds:List aO)(yD:wU w o (dM ds)=some true)(jA:kj ds<=w)(hl:ds.length<=m)(he:ee 8 ds<=4294967295)(hc:(gK ⟨o,ds⟩).length*5<=1000000000)(hn:iT ds<2^50)(hd:nK m ds):
 sN w o (dM ds)=some (ee 8 ds:Int):=by
 unfold sN;rw[VX hm hw o ds yD jA hl (by omega) hc hn hd,ar he];obtain⟨x,l,h1,h2⟩:=aaH o ds;have hlen:(gK ⟨o,ds⟩).length=l.length+1:=by rw[h1];simp
 simp;rw[aN (by omega) (by omega),lk (by omega),show(((gK ⟨o,ds⟩).length:Int) -1).toNat=l.length by omega,bW C7 (show l.length<(gK ⟨o,ds⟩).length by omega)];have tg:∀(x:bm)(r:List Value),cd x++r=.int .i64 x.ny::.int .i64 x.dir::.int .i64 x.tag::.int .i64 x.at_::.int .i64 x.cA::r:=λ_ _=>rfl;simp_all;rw[aN (by omega) (by omega),<-h2];rfl
theorem ags(hw:20<=w):ri w (cw da)=some true:=by obtain⟨v,rfl⟩:=xv hw;rfl
theorem agr(hw:20<=w):ri w (cw ju)=some true:=by obtain⟨v,rfl⟩:=xv hw;rfl
theorem agq(hw:20<=w):ri w (cw nQ)=some true:=by obtain⟨v,rfl⟩:=xv hw;rfl
end
section
noncomputable def D4(w:Nat)(sv:Value)(_ o:Int)(dv:Value)(cs:List Value):Option Int:=
 wN w dv cs sv o
def mU(n:Int):List Value:=[.int .i64 n]
theorem RZ(n:Int):(mU n).length=1:=rfl
def oa(l:List Int):List Value:=l.map (Value.int .i64)
theorem aaq{l:List Int}{i:Nat}(h:i<l.length):(oa l).drop i=Value.int .i64 l[i]::oa (l.drop (i+1)):=by unfold oa;rw[<-List.map_drop,dG h,List.map_cons]
variable{m n w:Nat}
theorem Yy(hm:m<2^28)(hw:2*m+100<=w)(sh:List aV)(hsh:iu sh)(hl:∀s,s<sh.length->(aJ sh s).bG.length<=m)(a o:Int)(ds:List aO)(l:List Int)(hlen:l.length=ds.length)(ik:ds.length<=m)(hd:nK m ds)(jA:kj ds<=w)
 (hh:∀j (h:j<ds.length),0<=l[j]/\l[j]<sh.length/\cK sh l[j].toNat ds[j]=true) (hn:0<n) (h138:sN w o (dM ds)=some (n:Int)):D4 w (cw sh) a o (dM ds) (oa l)=some 0:=by
 unfold D4 wN dM;have hcl:(oa l).length=ds.length:=by unfold oa;rw[eD,hlen]
 simp only[dw,mE,hcl,bc,cu];have e0:¬((ds.length:Int)<(ds.length:Int)):=by omega
 simp only[e0,cy,aE];refine lD (ev:=λi (g:Value->Value->Int->Int->Int->Value->List Value->Option Int)=>g (cw sh) (aC dK ds) ds.length i o (aC dK ds) (oa l)) ds.length ?_ ?_ (by omega)
 ·intro i g hi;have e1:((i:Int)<(ds.length:Int)):=by omega
  simp only[e1,bn,ay,ct];rw[bW nX hi];simp only[Eg,bN,hcl,gM,fg,lU,hi,bn,show Nat.beq 1 1=true from rfl,kU,ay];rw[aaq (by omega)];obtain⟨h1,h2,h3⟩:=hh i hi;have hs:(l[i].toNat:Int)=l[i]:=lM h1;have hmem:=dL hi;have h4:=Ec hmem;simp only[bN,cH];have:=agB (w:=w) (m:=m) (by omega) hw sh hsh hl ds[i] l[i].toNat (by omega) (hd _ hmem) (by omega);rw[hs,h3] at this;rw[this];simp only[aA,cL,aE,cR];rw[aN (by omega) (by omega)];rfl
 ·intro g;simp only[e0,cy,aE];unfold dM at h138;rw[h138];have:¬((n:Int)=0):=by omega
  simp_all
theorem agn(hm:m<2^28)(hw:2*m+100<=w)(sh:List aV)(hsh:iu sh)(tZ:ri w (cw sh)=some true)(hs0:0<sh.length)(hl:∀s,s<sh.length->(aJ sh s).bG.length<=m){o:Int}(ho:o=1\/o=2)(ds:List aO)(ca:ds≠[])(ik:ds.length<=m)(hd:nK m ds)(jA:kj ds<=w)
 (hh:fK sh 0 ds=true) (hn:0<n) (h138:sN w o (dM ds)=some (n:Int)):uK w o (dM ds) (cw sh)=some 0:=by
 have hpos:0<ds.length:=List.length_pos_iff.2 ca;unfold uK MN wN;rw[tZ];simp only[aA,cL,aE,cD];have e0:¬((Int.ofNat ds.length:Int)=0):=by simp only[cu];omega
 rcases ho with rfl|rfl
 case' inl=>simp only[bn,cL,aE]
 case' inr=>simp only[show decide ((2:Int)=1)=false from rfl,fu,ay]
 all_goals
  unfold dM;rw[dw];simp only[e0,cy,aE];refine oh (σ:=Int×List Int) (ev:=λi s (g:Value->Int->Int->Value->List Value->Option Int)=>g (cw sh) s.1 _ (aC dK ds) (oa s.2))
   (Inv:=λi s=>s.2.length=i/\s.1 <sh.length/\fK sh s.1 (ds.drop i)=true/\∀j (h:j<i) (h2:j<s.2.length) (h3:j<ds.length),0<=s.2[j]/\s.2[j]<sh.length/\cK sh s.2[j].toNat ds[j]=true) ds.length (0,[]) ?_ ?_ ?_ (by omega)
  ·exact⟨rfl,by omega,hh,λj h=>by omega⟩
  ·rintro i g ⟨a,l⟩ hi ⟨h1,h2,h3,h4⟩
   simp only at h1 h2 h3 h4;rw[dG hi] at h3;simp only[fK,bg,bV] at h3;obtain⟨h5,h6,h7⟩:=h3;have hs:(a.toNat:Int)=a:=lM h5;have hat:a.toNat<sh.length:=by omega
   have hnx:=hsh.next a.toNat hat;refine⟨((aJ sh a.toNat).next,l++[a]),⟨by simp[h1],by simp only;omega,h7,?_⟩,?_⟩
   ·intro j hj hj2 hj3;simp only at hj2⊢;by_cases q:j<i
    ·rw[List.getElem_append_left (by omega)];exact h4 j q (by omega) hj3
    ·have:j=i:=by omega
     subst this;have e:(l++[a])[j]'hj2=a:=by rw[List.getElem_append_right (by omega)];simp
     rw[e];exact⟨h5,by omega,h6⟩
   ·have hcl:(oa l).length=i:=by unfold oa;rw[eD,h1]
    have e1:¬(a<0):=by omega
    have e2:((i:Int)<(ds.length:Int)):=by omega
    have r1:aK i=true:=by simp;omega
    simp only[bc,e1,cy,fu,ay,dw,mE,hcl,cu,e2,bn,r1,cQ,List.length_nil,fg,gM,show aK 1=true from rfl,kV,kU,lk h5];have hS:sh[a.toNat]=aJ sh a.toNat:=by unfold aJ;rw[dD hat];rfl
    have tg:∀(S:aV)(r:List Value),(iL S++r).drop 3=.int .i64 S.next::r:=λ_ _=>rfl;unfold cw;rw[bW zZ hat,hS];simp only[tg,bN,cH];unfold oa;rw[jZ];rfl
  ·rintro g ⟨a,l⟩ ⟨h1,h2,h3,h4⟩
   simp only at h1 h2 h3 h4;have hcl:(oa l).length=ds.length:=by unfold oa;rw[eD,h1]
   have hr:=λo=>Yy hm hw sh hsh hl a o ds l h1 ik hd jA (λj h=>h4 j h (by omega) h) hn;by_cases q:a<0
   ·simp only[bc,q,bn,cL,aE];have:=hr _ h138;unfold D4 wN dM at this;simpa only[bc,cD] using this
   ·have e2:¬((ds.length:Int)<(ds.length:Int)):=by omega
    simp only[bc,q,cy,fu,ay];have:=hr _ h138;unfold D4 wN dM at this;simp only[dw,mE,hcl,cu,bc,cD,e2,cy,aE] at this⊢;exact this
end
section
theorem LR(pre v old post:List UInt8)(h:old.length=v.length)(p:Nat)(hp:p=pre.length):aW p (v.map aX) ((pre++(old++post)).map aX)=(pre++(v++post)).map aX:=by
 have:=FO (v.map aX) (old.map aX) (pre.map aX) (post.map aX) (by grind)
 grind
variable{o:Int} {w:Nat}
theorem NJ(hw:8<=w)(pre old post:List UInt8)(n s:Nat)(hs:s=2\/s=4)(hn:n<256^s)(ho:o=1\/o=2)(X Y:Value)(no:Int)(hold:old.length=s)(L:Nat)(hL:L=(pre++(old++post)).length)(_:L<2^60)(p:Int)(hp:p=(pre.length:Int))(k:Int)(hk:k=(s:Int))(q:Int)(hq:q=(n:Int)):
 sO w p q k L L o X Y no ((pre++(old++post)).map aX)=some (L,L,o,X,Y,no,(pre++(aU n s o++post)).map aX):=by
 subst hp hk hq;unfold sO;rw[sJ hw];have hpf:oZ (n:Int) (s:Int).toNat o=some (aU n s o):=by unfold oZ;rw[ar ⟨by omega,by rw[mB];exact_mod_cast hn⟩];simp
 rw[ar (by rcases hs with rfl|rfl<;>rcases ho with rfl|rfl<;>rfl),hpf];have hlen:L=pre.length+(s+post.length):=by simp_all
 have ca:¬(L=pre.length):=by omega
 have e1:pre.length<=L:=by omega
 have ev:(aU n s o).length=s:=eh _ _ _;simp only[aA,ct,gu,e1,aB,ij,iH,eD,ev,gM,AZ,ca,cy,aE,fg];rw[show s.min (L -pre.length)=s from(show min s (L -pre.length)=s from by omega)];have e3:pre.length+s<=(pre++(old++post)).length:=by omega
 simp only[e3];rw[gh (by rw[eD,ev];exact aB _),LR _ _ _ _ (by rw[hold,ev]) _ rfl];rfl
def lK(ny dir tag:Int)(x:bm):Bool:=x.ny==ny&&(x.dir==dir&&x.tag==tag)
theorem agX(l:List bm)(a b c:Int)(hl:l.length<2^40)(hw:l.length<w):Od w (aC cd l) a b c=some (db (lK a b c) l):=by
 refine mg l (lK a b c) (ev:=λi (g:Value->List Value->List Value->List Value->Int->Int->Option Int)=>g (aC cd l) [.int .i64 a] [.int .i64 b] [.int .i64 c] l.length i) ?_ ?_ hw
 ·intro i g h;simp_all;rw[bW C7 h];have tg:∀(x:bm)(r:List Value),cd x++r=.int .i64 x.ny::.int .i64 x.dir::.int .i64 x.tag::.int .i64 x.at_::.int .i64 x.cA::r:=λ_ _=>rfl;unfold Oe lK;simp_all;rw[aN (by omega) (by omega)];by_cases q1:l[i].ny=a
  ·by_cases q2:l[i].dir=b
   ·by_cases q3:l[i].tag=c
    ·simp_all
    ·simp_all
   ·simp_all
  ·simp[q1]
 ·intro g;simp
variable{A:List bm} {x:bm}
theorem N3{B:List bm}(hl:(A++x::B).length<2^40)(hw:(A++x::B).length<w)(a b c:Int)(hA:∀y∈A,lK a b c y=false)(hx:lK a b c x=true)(L c2:Nat)(o:Int)(Y:Value)(no:Int)(cs:List Value):
 uM w a b c L c2 o (aC cd (A++x::B)) Y no cs=some ((x.at_:Int),L,c2,o,aC cd (A++x::B),Y,no,cs):=by
 have hi:db (lK a b c) (A++x::B)=(A.length:Int):=by
  unfold db
  grind
 unfold uM;rw[agX _ a b c hl hw,hi];simp;rw[bW C7 (show A.length<(A++x::B).length by simp)];have tg:∀(x:bm)(r:List Value),(cd x++r).drop 3=.int .i64 x.at_::.int .i64 x.cA::r:=λ_ _=>rfl;simp_all
theorem Jt(pre v old post:List UInt8)(hold:old.length=v.length){L:Nat}(hL:L=(pre++(old++post)).length){β:Type}(K:List Value->Option β):
 (bif Nat.ble L L&&pre.length.ble L then eX 1 (aj v) λn (c:List Value)=>bif c.length.beq (n*1)&&((bif Nat.beq L pre.length then 0 else 0+pre.length*1)+n.min (L -pre.length)*1).ble ((pre++(old++post)).map aX,5).fst.length then
  K (aW (bif Nat.beq L pre.length then 0 else 0+pre.length*1) (List.take (n.min (L -pre.length)*1) c) ((pre++(old++post)).map aX,5).fst) else none else none)=K ((pre++(v++post)).map aX):=by
 have hlen:L=pre.length+(v.length+post.length):=by simp_all
 have e1:pre.length<=L:=by omega
 simp only[gu,e1,aB,bn,ij,iH,eD,gM,kV,fP,fg];rw[(show v.length.min (L -pre.length)=v.length from by show min _ _=_;omega)];by_cases h0:L=pre.length
 ·have hv:v=[]:=jJ (by omega);subst hv;have ho:=jJ hold;subst ho;simp[h0,aW]
 ·have e3:pre.length+v.length<=(pre++(old++post)).length:=by rw[<-hL];omega
  simp only[AZ,h0,cy,aE,e3,bn,ay];rw[gh (by rw[eD];exact aB _),LR _ _ _ _ hold _ rfl]
theorem agE(hw:100<=w)(t:aI)(hm:dW t.ty t.au t.data=true)(hl:t.data.length<2^29)(hw2:t.data.length+10<=w)(ho:o=1\/o=2)(ht:my t.tag=true)(h0:bY t.ty t.au=0)(dir:Int)(L c2:Nat)(X Y:Value)(no:Int)(cs:List Value):
 zL w t.tag t.ty t.au (aj t.data) dir L c2 o X Y no cs=some (t.tag,t.ty,t.au,(oT o t:Int),L,c2,o,X,Y,no,cs):=by
 unfold zL;rw[V6 hw t hm hl hw2 ho ht,ar h0];rfl
theorem agF(hw:100<=w)(t:aI)(hm:dW t.ty t.au t.data=true)(hl:t.data.length<2^29)(hw2:t.data.length+10<=w)(ho:o=1\/o=2)(ht:my t.tag=true)(h0:bY t.ty t.au≠0)(dir:Int){B:List bm}(hsl:(A++x::B).length<2^40)(hsw:(A++x::B).length<w)
 (hA:∀y∈A,lK 3 dir t.tag y=false) (hx:lK 3 dir t.tag x=true) (pre old post:List UInt8) (hold:old.length=t.data.length) (hat:x.at_=pre.length) {L:Nat} (hL:L=(pre++(old++post)).length) (Y:Value) (no:Int):
 zL w t.tag t.ty t.au (aj t.data) dir L L o (aC cd (A++x::B)) Y no ((pre++(old++post)).map aX)=some (t.tag,t.ty,t.au,(pre.length:Int),L,L,o,aC cd (A++x::B),Y,no,(pre++(kA o t++post)).map aX):=by
 unfold zL;rw[V6 hw t hm hl hw2 ho ht,ai h0,N3 hsl hsw 3 dir t.tag hA hx];simp only[aA,hat];rw[agV hm hl hw2 ho];simp only[kV];exact Jt pre (kA o t) old post (by rw[Aj];exact hold) hL λcs=>some (t.tag,t.ty,t.au,(pre.length:Int),L,L,o,aC cd (A++x::B),Y,no,cs)
theorem NR(w:Nat)(e:bf)(c:List Value)(hc:c.length<=1000000000):CE w [.int .i64 e.tag,.int .i64 e.ty,.int .i64 e.au,.int .i64 e.slot] c=some (c++[.int .i64 e.tag,.int .i64 e.ty,.int .i64 e.au,.int .i64 e.slot]):=by
 unfold CE;have:aK c.length=true:=by simp;omega
 simp only[this,show aK 1=true from rfl,cQ,List.length_nil,eL,nA,rH];rfl
end
section
open Go.Sort
def e4(x:bf):E4:=(x.tag,x.ty,x.au,(x.slot:Int))
def rE(x:E4):bf:=⟨x.1,x.2.1,x.2.2.1,x.2.2.2.toNat⟩
theorem Xj(x:bf):rE (e4 x)=x:=by obtain⟨a,b,c,d⟩:=x;show bf.mk a b c ((d:Int)).toNat=_;simp
def bH(x:bf):List Value:=[.int .i64 x.tag,.int .i64 x.ty,.int .i64 x.au,.int .i64 x.slot]
theorem kk(x:bf):(bH x).length=4:=rfl
theorem QU(l:List bf):l.flatMap bH=(l.map e4).flatMap eQ:=by
 induction l with
 |nil=>rfl
 |cons x l ih=>rw[ff,ih];rfl
theorem Xm:∀l:List E4,xd (l.flatMap eQ)=some l
 |[]=>rfl
 |(a,b,c,d)::l=>by show xd (.int .i64 a::.int .i64 b::.int .i64 c::.int .i64 d::l.flatMap eQ)=_;unfold xd;rw[Xm l];rfl
theorem UR:∀{a b:List bf},eA a=true->eA b=true->(∀x,x∈a↔x∈b)->a=b
 |[],[],_,_,_=>rfl
 |[],y::b,_,_,h=>by have:=(h y).2 (by simp);cases this
 |x::a,[],_,_,h=>by have:=(h x).1 (by simp);cases this
 |x::a,y::b,ha,hb,h=>by
  have ha':eA a=true/\∀z∈a,x.tag<z.tag:=by have:=Mc ha;omega
  have hb':=Mc hb;have hxy:x=y:=by grind
  congr 1
  refine UR ha'.1 hb'.1 λz=>?_
  grind
where
 Mc:∀{x:bf}{a:List bf},eA (x::a)=true->eA a=true/\∀z∈a,x.tag<z.tag
  |x,[],_=>⟨rfl,λz h=>by cases h⟩
  |x,b::a,h=>by
   simp[eA] at h;obtain⟨_,h2⟩:=Mc h.2
   grind
theorem UT:∀{l:List bf},l.Pairwise (λa b=>a.tag<b.tag)->eA l=true
 |[],_=>rfl
 |[x],_=>rfl
 |x::y::l,h=>by rw[List.pairwise_cons] at h;simp[eA];exact⟨h.1 y (by simp),UT h.2⟩
theorem Ji:∀{l:List bf},nD l->(l.map bf.tag).Nodup
 |[],_=>by simp
 |x::l,h=>by rw[List.map_cons,List.nodup_cons];refine⟨λq=>?_,Ji h.2⟩;obtain⟨y,hy,e⟩:=List.mem_map.1 q;exact h.1 y hy e
variable{l:List bf}
theorem ahC(h:nD l):jc (l.map e4)=(gk l).map e4:=by
 obtain⟨h1,h2,h3⟩:=Wy (l.map e4);generalize jc (l.map e4)=p at h1 h2 h3;have hk:(p.map rE).Perm l:=by have:=h2.map rE;rw[List.map_map] at this;rw[(show(rE∘e4)=id from by funext x;exact Xj x),List.map_id] at this;exact this
 have hp:(p.map rE).map e4=p:=by
  rw[List.map_map]
  conv=>rhs;rw[<-List.map_id p]
  apply List.map_congr_left;intro x hx;obtain⟨y,-,hy⟩:=List.mem_map.1 (h2.mem_iff.1 hx);simp;rw[<-hy,Xj]
 have hr:eA (p.map rE)=true:=by
  apply UT;rw[List.pairwise_iff_getElem];intro i j hi hj hij;have ca:(p.map rE)[i].tag≠(p.map rE)[j].tag:=by intro q;have:=(List.nodup_iff_pairwise_ne.1 ((hk.map bf.tag).nodup_iff.2 (Ji h)));rw[List.pairwise_iff_getElem] at this;have:=this i j (by simpa using hi) (by simpa using hj) hij;apply this;simp at q⊢;exact q
  simp at hi hj;have hs:=h3 i j (gZ _) hij (by rw[<-h1];exact hj);rw[EU] at hs;simp_all;have a1:(rE p[i]).tag=p[i].1 :=rfl;have a2:(rE p[j]).tag=p[j].1 :=rfl;omega
 rw[<-(UR hr (Kr h) λx=>by rw[hk.mem_iff,yI]),hp]
theorem agL(w:Nat)(h:nD l)(ca:l≠[])(hl:l.length<=1000000000):uN w (l.flatMap bH)=some ((gk l).flatMap bH):=by unfold uN;rw[QU,Xm];simp only[aA,(show(l.map e4).isEmpty=false from by simp_all),(show aK (l.map e4).length=true from by simp;omega),cL,Bool.or_self,aE];rw[ahC h,<-QU]
noncomputable def Eb(w:Nat)(mine:Int)(L c:Nat)(o:Int)(X Y:Value)(no:Int)(bs es:List Value):Option (Int×Nat×Nat×Int×Value×Value×Int×List Value):=
 ob (uN w es) λa=>ob (uM w 2 mine 0 L c o X Y no bs) λb=>Ck w b a
def aZ(n:Nat):List UInt8:=List.replicate n 0
theorem iE(n:Nat):(aZ n).length=n:=uX
theorem pg(a b:Nat):aZ (a+b)=aZ a++aZ b:=by unfold aZ;simp
theorem Zj{i:Nat}(h:i<l.length)(o:Int):(l.take (i+1)).flatMap (iz o)=(l.take i).flatMap (iz o)++iz o l[i]:=by rw[nB h,gq];simp
theorem YV{w:Nat}(hw:100<=w){E:List bf}(hE:nD E)(ca:E≠[])(hEo:∀x∈E,Go.Proofs.YtfdojmichbgpiaaGreatDoor.nE x)(hEn:E.length<=65535)(hEw:E.length<w){A B:List bm}{x:bm}(hsl:(A++x::B).length<2^40)(hsw:(A++x::B).length<w)(mine:Int)
 (hA:∀y∈A,lK 2 mine 0 y=false) (hx:lK 2 mine 0 x=true) (pre post:List UInt8) (hat:x.at_=pre.length) {L:Nat} (hL:L=(pre++(aZ (6+12*E.length)++post)).length) (hlt:L<2^40) {o:Int} (ho:o=1\/o=2) (Y:Value) (no:Int):
 Eb w mine L L o (aC cd (A++x::B)) Y no ((pre++(aZ (6+12*E.length)++post)).map aX) (E.flatMap bH)=some ((pre.length:Int),L,L,o,aC cd (A++x::B),Y,no,(pre++(kJ o (gk E) 0++post)).map aX):=by
 unfold Eb Ck;rw[agL w hE ca (by omega)];simp only[aA];rw[N3 hsl hsw 2 mine 0 hA hx];simp only[aA,hat];have hn:(gk E).length=E.length:=Bv E;have hsE:∀y∈gk E,Go.Proofs.YtfdojmichbgpiaaGreatDoor.nE y:=λy hy=>hEo y (yI.1 hy);generalize gk E=F at hn hsE⊢;have hfl:(F.flatMap bH).length/4=F.length:=by rw[eJ kk];omega
 rw[hfl];rw[<-hn] at hL hEn hEw⊢;have hz:aZ (6+12*F.length)=aZ 2++aZ (12*F.length+4):=by rw[<-pg];congr 1;omega
 rw[hz,dY];have hlenL:L=pre.length+(6+12*F.length+post.length):=by rw[hL];simp[iE]
 rw[NJ (by omega) pre (aZ 2) (aZ (12*F.length+4)++post) F.length 2 (.inl rfl) (by omega) ho _ Y no (iE 2) L (by rw[hL,hz,dY]) (by omega) (pre.length:Int) rfl (2:Int) rfl (Int.ofNat F.length) rfl];simp only[aA];have hlast:aU 0 4 o=aZ 4:=by rcases ho with rfl|rfl<;>rfl
 refine oh (σ:=List UInt8) (ev:=λi s (g:Int->Int->Int->Nat->Nat->Int->Value->Value->Int->List Value->List Value->Option (Int×Nat×Nat×Int×Value×Value×Int×List Value))=>g pre.length (F.length:Int) i L L o (aC cd (A++x::B)) Y no (F.flatMap bH) (s.map aX))
  (Inv:=λi s=>s=pre++(aU F.length 2 o++((F.take i).flatMap (iz o)++(aZ (12*(F.length -i)+4)++post)))) F.length _ ?_ ?_ ?_ (by omega)
 ·simp
 ·rintro i g s hi rfl
  refine⟨pre++(aU F.length 2 o++((F.take (i+1)).flatMap (iz o)++(aZ (12*(F.length -(i+1))+4)++post))),rfl,?_⟩;have e1:((i:Int)<(F.length:Int)):=by omega
  have e2:i*4<(F.flatMap bH).length:=by omega
  simp only[bc,e1,bn,ay,ct,show Nat.beq 4 4=true from rfl,fP,lU,e2];rw[show 0+i*4=i*4 from fg _,pR kk,dG hi,ff];have tg:∀(x:bf)(r:List Value),bH x++r=.int .i64 x.tag::.int .i64 x.ty::.int .i64 x.au::.int .i64 x.slot::r:=λ_ _=>rfl;simp only[tg,bN,cH];have hok:=hsE _ (dL hi);have b1:=hok.tag;have b2:=hok.ty;have b3:=hok.au;have b4:=hok.slot;rw[agM (by omega) _ _ _ _ o ho,ar ⟨⟨b1.1,b1.2⟩,⟨b2.1,b2.2⟩,⟨b3.1,b3.2⟩,by omega,by omega⟩];simp only[aA,cR,pS];rw[aN (n:=12*(i:Int)) (by omega) (by omega),aN (n:=(pre.length:Int)+2) (by omega) (by omega),aN (n:=(pre.length:Int)+2+12*(i:Int)) (by omega) (by omega),aN (n:=(i:Int)+1) (by omega) (by omega),lk (by omega)];have ek:((pre.length:Int)+2+12*(i:Int)).toNat=(pre++(aU F.length 2 o++(F.take i).flatMap (iz o))).length:=by rw[aR,aR,eh,yl,dH];omega
  rw[ek];have eb:aU F[i].tag.toNat 2 o++(aU F[i].ty.toNat 2 o++(aU F[i].au.toNat 4 o++aU ((F[i].slot:Int)).toNat 4 o))=iz o F[i]:=by unfold iz;simp
  rw[eb];have ez:aZ (12*(F.length -i)+4)=aZ 12++aZ (12*(F.length -(i+1))+4):=by rw[<-pg];congr 1;omega
  have ebs:pre++(aU F.length 2 o++((F.take i).flatMap (iz o)++(aZ (12*(F.length -i)+4)++post)))=(pre++(aU F.length 2 o++(F.take i).flatMap (iz o)))++(aZ 12++(aZ (12*(F.length -(i+1))+4)++post)):=by rw[ez];simp
  rw[ebs];have:=Jt (pre++(aU F.length 2 o++(F.take i).flatMap (iz o))) (iz o F[i]) (aZ 12) (aZ (12*(F.length -(i+1))+4)++post) (by rw[iE,JE]) (L:=L) (by
   rw[hlenL];simp only[aR,iE,eh,yl,dH];omega)
   (λcs=>g (pre.length:Int) (F.length:Int) ((i:Int)+1) L L o (aC cd (A++x::B)) Y no (F.flatMap bH) cs)
  refine this.trans ?_;rw[Zj hi];simp only[dY];rfl
 ·rintro g s rfl
  have e1:¬((F.length:Int)<(F.length:Int)):=by omega
  simp only[bc,e1,cy,aE];rw[rG,Nat.sub_self,Nat.mul_zero,fg];unfold kJ;rw[hlast];simp only[dY]
end
section
theorem LA(e:Nat):dQ e=aZ (aD e -e):=by
 unfold dQ aD;by_cases h:e%2=0
 ·rw[ar h,show e+e%2 -e=0 by omega];rfl
 ·rw[ai h,show e+e%2 -e=1 by omega];rfl
theorem C6{no:Nat}{y:bm}:∀{l:List aI}{e:Nat},y∈cX no e l->y.ny=3/\y.dir=(no:Int)/\∃t∈l,y.tag=t.tag
 |[],_,h=>by cases h
 |t::l,e,h=>by
  unfold cX at h;split at h
  ·obtain⟨a,b,t',c,d⟩:=C6 h
   grind
  ·rcases cj.1 h with rfl|h
   ·simp
   ·obtain⟨a,b,t',c,d⟩:=C6 h
    grind
theorem YG(d:aO):1<=dt d:=by cases d;unfold dt;omega
mutual
theorem ON{y:bm}:∀{d:aO}{no e:Nat},y∈fF no e d->(no:Int)<=y.dir/\y.dir<(no:Int)+dt d
 | .mk tags subs blob,no,e,h=>by
  unfold dt;rcases cj.1 h with rfl|h
  ·exact⟨Int.le_refl _,by simp only;omega⟩
  ·rcases eM.1 h with h|h
   ·have:=(C6 h).2.1;omega
   ·rcases eM.1 h with h|h
    ·have:=OO h;omega
    grind
theorem OO{y:bm}:∀{r:cF}{no e:Nat},y∈jU no e r->(no:Int)<=y.dir/\y.dir<(no:Int)+ia r
 | .nil,no,e,h=>by unfold jU at h;cases h
 | .cons t d r,no,e,h=>by
  unfold ia;rcases eM.1 h with h|h
  ·have:=ON h;omega
  ·have:=OO h;omega
end
def lW(o:Int)(sh:List aV)(S:aV)(e:Nat):List (Int×aO)->List UInt8
 |[]=>[]
 |p::l=>iS o sh ((kM S p.1).getD 0) 0 e p.2 ++lW o sh S (bq e p.2) l
theorem Qb(o:Int)(sh:List aV)(S:aV):∀(s:cF)(e:Nat),jR o sh S e s=lW o sh S e (aL s)
 | .nil,e=>by simp[jR,aL,lW]
 | .cons t d r,e=>by simp[jR,aL,lW,Qb o sh S r]
def nY(e:Nat):List (Int×aO)->List bf
 |[]=>[]
 |p::l=>⟨p.1,4,1,aD e⟩::nY (bq e p.2) l
theorem QX:∀(s:cF)(e:Nat),ig e s=nY e (aL s)
 | .nil,e=>by simp[ig,aL,nY]
 | .cons t d r,e=>by simp[ig,aL,nY,QX r]
variable{sh:List aV}
theorem Kh{S:aV}:∀{s:cF},iB sh S s=true->∀p∈aL s,eS S p.1 =true/\cK sh ((kM S p.1).getD 0) p.2 =true
 | .nil,_,p,h=>by cases h
 | .cons t d r,h,p,hp=>by
  simp[iB] at h;rcases cj.1 hp with rfl|hp
  ·grind
  ·exact Kh h.2.2 p hp
variable{w:Nat}
theorem agH(l:List gU)(n:Int)(a b c:Value)(hl:l.length<2^40)(hw:l.length<w):NU w (fY l) n a b c=some (db (λx=>x.tag==n) l):=by
 refine mg l (λx=>x.tag==n) (ev:=λi (g:Value->List Value->Int->Int->Option Int)=>g (aC lC l) [.int .i64 n,a,b,c] l.length i) ?_ ?_ hw
 ·intro i g h;simp_all;rw[bW ue h];unfold lC NZ;rw[aN (by omega) (by omega)];simp
 simp
theorem agD(w:Nat)(x y:bf)(c:List Value)(hc:c.length<=1000000000):CF w [.int .i64 x.tag,.int .i64 x.ty,.int .i64 x.au,.int .i64 x.slot,.int .i64 y.tag,.int .i64 y.ty,.int .i64 y.au,.int .i64 y.slot] c=some (c++(bH x++bH y)):=by unfold CF;simp_all;rfl
theorem wH{l:List aI}(h:fD l=true){i j:Nat}(hij:i<j)(hj:j<l.length):l[i].tag<l[j].tag:=by
 induction l generalizing i j with
 |nil=>grind
 |cons a l ih=>
  obtain⟨h1,h2⟩:=F4 h;cases j with
  |zero=>omega
  |succ j=>
   cases i with
   |zero=>grind
   |succ i=>grind
structure Az(w m:Nat)(sh:List aV)(o:Int)(L:Nat)(Sp:List bm):Prop where
 hm:m<2^28
 hw:2*m+1000<=w
 ok:iu sh
 bG:∀s,s<sh.length->(aJ sh s).bG.length<=m
 ho:o=1\/o=2
 hL:L<4294967296
 Br:Sp.length<2^40
 wg:Sp.length<w
 Bs:70000<=w
def As(sh:List aV)(o:Int)(L:Nat)(Sp:List bm)(rec:Value->Value->Value->Int->Nat->Nat->Int->Value->Value->Int->List Value->Option (Int×Nat×Nat×Int×Value×Value×Int×List Value))(d:aO)(s:Nat):Prop:=
 ∀(no e:Nat)(A B:List bm)(pre post:List UInt8),(∀y∈A,y.dir<(no:Int))->pre.length=e->Sp=A++(fF no e d++B)->L=(pre++(aZ (bq e d -e)++post)).length->no+dt d<2^40->
  rec (dT d) (dS d) (dB d) (s:Int) L L o (aC cd Sp) (cw sh) (no:Int) ((pre++(aZ (bq e d -e)++post)).map aX)=
   some ((aD e:Int),L,L,o,aC cd Sp,cw sh,((no+dt d:Nat):Int),(pre++(iS o sh s 0 e d++post)).map aX)
theorem QS(e:Nat)(t:aI)(ts:List aI):ck e (t::ts)=if bY t.ty t.au=0 then ck e ts else ck (aD e+bY t.ty t.au) ts:=rfl
theorem aiq(o:Int)(e:Nat)(t:aI)(ts:List aI):gp o e (t::ts)=if bY t.ty t.au=0 then gp o e ts else dQ e++(kA o t++gp o (aD e+bY t.ty t.au) ts):=rfl
theorem Zi(o:Int)(e:Nat)(t:aI)(ts:List aI):ew o e (t::ts)=if bY t.ty t.au=0 then⟨t.tag,t.ty,t.au,oT o t⟩::ew o e ts else⟨t.tag,t.ty,t.au,aD e⟩::ew o (aD e+bY t.ty t.au) ts:=rfl
theorem ahL(no e:Nat)(t:aI)(ts:List aI):cX no e (t::ts)=if bY t.ty t.au=0 then cX no e ts else⟨3,no,t.tag,aD e,bY t.ty t.au⟩::cX no (aD e+bY t.ty t.au) ts:=rfl
theorem RW(x:bf):∀l:List bf,(jC x l).Perm (x::l)
 |[]=>List.Perm.refl _
 |y::l=>by
  unfold jC;split
  ·simp
  ·exact((RW x l).cons y).trans (List.Perm.swap x y l)
theorem Si:∀l:List bf,(gk l).Perm l
 |[]=>List.Perm.refl _
 |x::l=>by exact(RW x _).trans ((Si l).cons x)
theorem Ta:∀{l:List bf},(l.map bf.tag).Nodup->nD l
 |[],_=>trivial
 |x::l,h=>by rw[List.map_cons,List.nodup_cons] at h;refine⟨λy hy e=>h.1 ?_,Ta h.2⟩;simp_all
theorem XT{l:List bf}(h:eA (gk l)=true):nD l:=
 Ta (((Si l).map bf.tag).nodup_iff.1 (Ji (AN h)))
theorem ahP{m:Nat}{o:Int}{L:Nat}{Sp:List bm}(H:Az w m sh o L Sp)(rec:Value->Value->Value->Int->Nat->Nat->Int->Value->Value->Int->List Value->Option (Int×Nat×Nat×Int×Value×Value×Int×List Value))(d:aO)(s:Nat)(hs:s<sh.length)(hd:gV m d)(hh:cK sh s d=true)
 (hrec:∀p∈aL (match d with| .mk _ subs _=>subs),∀k:Nat,k<sh.length->cK sh k p.2 =true->As sh o L Sp rec p.2 k):As sh o L Sp (Io w rec) d s:=by
 obtain⟨hm,hw,hsh,hl,ho,hLt,Br,wg,Bs⟩:=H;obtain⟨tags,subs,blob⟩:=d;intro no e A B pre post hA hp hSp hL ua;have hd:tags.length<=m/\cm subs<=m/\blob.length<=m/\(∀t∈tags,t.data.length<=m)/\gW m subs:=hd;replace hrec:∀p∈aL subs,∀k:Nat,k<sh.length->cK sh k p.2 =true->As sh o L Sp rec p.2 k:=hrec;have hlenB:=tL o sh (.mk tags subs blob) s 0 e hh;have hh0:=hh;simp only[cK,bg,qn,bV] at hh;obtain⟨⟨n1,n2⟩,ht,hbl,hr,hss⟩:=hh;have htg:∀t∈tags,my t.tag=true/\dW t.ty t.au t.data=true:=λt h=>by simp only[jI,bg,jf] at ht;exact⟨(ht.2 t h).1,(ht.2 t h).2.2⟩
 have htr:fD tags=true:=by simp only[jI,bg] at ht;exact ht.1
 obtain⟨N,hN⟩:∃N,bF (.mk tags subs blob)=N:=⟨_,rfl⟩;rw[hN] at n1 n2;have hNt:tags.length+cm subs<=N:=by rw[<-hN];show _<=tags.length+cm subs+_;omega
 obtain⟨e1,he1⟩:∃e1,aD e+(6+12*N)=e1:=⟨_,rfl⟩;obtain⟨e2,he2⟩:∃e2,ck e1 tags=e2:=⟨_,rfl⟩;obtain⟨e3,he3⟩:∃e3,eu e2 subs=e3:=⟨_,rfl⟩;obtain⟨S,hS⟩:∃S,aJ sh s=S:=⟨_,rfl⟩;have hSo:=hsh.ok s;have hSlk:=hsh.bG s hs;have hln:=hl s hs;rw[hS] at hSo ht hbl hss hSlk hln;have hSg:sh[s]=S:=by rw[<-hS];unfold aJ;rw[dD hs];rfl
 have g1:=mQ e;have g2:=qJ tags e1;have g3:=tS subs e2;have g4:=mQ e3;rw[he2] at g2;rw[he3] at g3;obtain⟨D,hD⟩:∃D,bq e (.mk tags subs blob)=D:=⟨_,rfl⟩;have hend:D=if blob.length=0 then e3 else aD e3+blob.length:=by rw[<-hD,bq,hN,he1,he2,he3]
 rw[hD] at hL hlenB⊢;have hDe:e3<=D:=by rw[hend];split<;>omega
 have hlenL:L=D+post.length:=by rw[hL,aR,aR,iE];omega
 obtain⟨E,hE⟩:∃E,ew o e1 tags++(ig e2 subs++gO S e3 blob)=E:=⟨_,rfl⟩;have c1:=(Qs (order:=o) (e1:=e1) (e2:=e2) (e3:=e3) hSo ht hbl hr hss rfl).1;rw[hE] at c1;have hEap:nD E:=XT c1;have hEn:E.length=N:=by rw[<-hE,aR,aR,tT,Bj,Ek,<-hN];show _=tags.length+cm subs+(if blob.length=0 then 0 else 2);omega
 have hEne:E≠[]:=by intro q;rw[q] at hEn;simp at hEn;omega
 have hEo:∀x∈E,Go.Proofs.YtfdojmichbgpiaaGreatDoor.nE x:=by
  intro x hx;rw[<-hE] at hx;rcases eM.1 hx with hx|hx
  ·exact El (S:=S) htg (by rw[he2];omega) x hx
  ·rcases eM.1 hx with hx|hx
   ·exact JG hSo (EE hss) (by rw[he3];omega) x hx
   ·unfold gO at hx;split at hx
    ·cases hx
    ·rename_i hb0;rw[ai hb0] at hend;have hat:=hSo.pair (hbl.resolve_left hb0);simp only[cj,jh,jj] at hx;rcases hx with rfl|rfl
     ·exact⟨by simp only;omega,by simp only;omega,by simp only;omega,by simp only;omega⟩
     ·exact⟨by simp only;omega,by simp only;omega,by simp only;omega,by simp only;omega⟩
 obtain⟨bS,hbS⟩:∃bS:List bm,(if blob.length=0 then[] else[⟨4,no,0,aD e3,blob.length⟩])=bS:=⟨_,rfl⟩;have hSp1:Sp=A++(⟨2,no,0,aD e,6+12*N⟩::(cX no e1 tags++(fG (no+1) e2 (aL subs)++(bS++B)))):=by rw[hSp,fF,hN,he1,he2,he3,hbS,Im];simp only[jg,dY]
 have hcN:dt (.mk tags subs blob)=fy (aL subs)+1:=by rw[dt,Js]
 rw[hcN] at ua⊢;have hvl:=Iz o tags e1 λt h=>(htg t h).2;rw[he2] at hvl;unfold Io cw Ck;simp only[dT,dS,dB,ct];rw[bW zZ hs,hSg];have tg:∀(S:aV)(r:List Value),iL S++r=fY S.bG::.int .i64 S.at_::.int .i64 S.cA::.int .i64 S.next::r:=λ_ _=>rfl;simp only[tg,bN,cH,cR];unfold az;rw[dw,aN (n:=(no:Int)+1) (by omega) (by omega)];have hz1:aZ (D -e)=aZ (e1 -e)++([]++aZ (D -e1)):=by rw[iF,<-pg];congr 1;omega
 rw[hz1];simp only[dY];refine oh (σ:=Nat×List UInt8×List bf×List bm) (ev:=λi s (g:Int->Value->Int->Int->Nat->Nat->Int->Value->Value->Int->Value->Value->Value->Value->Int->Int->Int->List Value->List Value->Option (Int×Nat×Nat×Int×Value×Value×Int×List Value))=>g no (aC cx tags) tags.length i L L o (aC cd Sp) (aC iL sh) ((no:Int)+1) (aC cx tags) (ae (cm subs) (gd subs)) (aj blob) (fY S.bG) S.at_ S.cA S.next ((pre++(aZ (e1 -e)++(s.2.1 ++(aZ (D -s.1)++post)))).map aX) (s.2.2.1.flatMap bH))
  (Inv:=λi s=>ck s.1 (tags.drop i)=e2/\e1+s.2.1.length=s.1 /\s.2.1 ++gp o s.1 (tags.drop i)=gp o e1 tags/\s.2.2.1 ++ew o s.1 (tags.drop i)=ew o e1 tags/\s.2.2.2 ++cX no s.1 (tags.drop i)=cX no e1 tags/\∀y∈s.2.2.2,y.ny=3/\y.dir=(no:Int)/\∃t∈tags.take i,y.tag=t.tag) tags.length (e1,[],[],[]) ?_ ?_ ?_ (by omega)
 ·exact⟨by simpa using he2,by simp,by simp,by simp,by simp,λy hy=>by cases hy⟩
 ·rintro i g ⟨ei,X,es,Q⟩ hi ⟨h1,h2,h3,h4,h5,h6⟩
  simp only at h1 h2 h3 h4 h5 h6;have hmem:=dL hi;obtain⟨ht1,ht2⟩:=htg _ hmem;have ik:=hd.2.2.2.1 _ hmem;have hel:(es.flatMap bH).length<=1000000000:=by
   rw[eJ kk];have:es.length<=tags.length:=by have:=bK List.length h4;rw[aR,tT,tT] at this;omega
   omega
  rw[dG hi] at h1 h3 h4 h5;rw[QS] at h1;rw[aiq] at h3;rw[Zi] at h4;rw[ahL] at h5;have e0:((i:Int)<(tags.length:Int)):=by omega
  have tt:∀(t:aI)(r:List Value),cx t++r=.int .i64 t.tag::.int .i64 t.ty::.int .i64 t.au::aj t.data::r:=λ_ _=>rfl;by_cases h0:bY tags[i].ty tags[i].au=0
  ·rw[ar h0] at h1 h3 h4 h5;refine⟨(ei,X,es++[⟨tags[i].tag,tags[i].ty,tags[i].au,oT o tags[i]⟩],Q),⟨h1,h2,h3,by rw[<-h4];simp,h5,λy hy=>?_⟩,?_⟩
   ·obtain⟨a,b,t,c,q⟩:=h6 y hy;exact⟨a,b,t,by rw[nB hi];exact eM.2 (.inl c),q⟩
   ·simp only[bc,e0,bn,ay,ct];rw[bW gI hi];simp only[tt,bN,cH];rw[agE (by omega) tags[i] ht2 (by omega) (by omega) ho ht1 h0];simp only[aA];rw[NR w ⟨tags[i].tag,tags[i].ty,tags[i].au,oT o tags[i]⟩ _ hel];simp only[aA];rw[aN (by omega) (by omega),gq];simp only[ff,nz,eH];rfl
  ·rw[ai h0] at h1 h3 h4 h5;have hout:=yX ht2;have hoL:bY tags[i].ty tags[i].au=tags[i].data.length:=by rw[hout] at h0⊢;split<;>simp_all
   have hge:=qJ (tags.drop (i+1)) (aD ei+bY tags[i].ty tags[i].au);rw[h1] at hge;have hev:=mQ ei;have hpd:=p9 ei;have hvB:(kA o tags[i]).length=bY tags[i].ty tags[i].au:=by rw[Aj,hoL]
   refine⟨(aD ei+bY tags[i].ty tags[i].au,X++(dQ ei++kA o tags[i]),es++[⟨tags[i].tag,tags[i].ty,tags[i].au,aD ei⟩],Q++[⟨3,no,tags[i].tag,aD ei,bY tags[i].ty tags[i].au⟩]),⟨h1,?_,by rw[<-h3];simp,by rw[<-h4];simp,by rw[<-h5];simp,λy hy=>?_⟩,?_⟩
   ·simp only[aR,hvB];omega
   ·rcases eM.1 hy with hy|hy
    ·obtain⟨a,b,t,c,q⟩:=h6 y hy;exact⟨a,b,t,by rw[nB hi];exact eM.2 (.inl c),q⟩
    ·rw[kC.1 hy];exact⟨rfl,rfl,tags[i],by rw[nB hi];exact eM.2 (.inr (by simp)),rfl⟩
   ·simp only[bc,e0,bn,ay,ct];rw[bW gI hi];simp only[tt,bN,cH];have hSpi:Sp=(A++(⟨2,no,0,aD e,6+12*N⟩::Q))++⟨3,no,tags[i].tag,aD ei,bY tags[i].ty tags[i].au⟩::(cX no (aD ei+bY tags[i].ty tags[i].au) (tags.drop (i+1))++(fG (no+1) e2 (aL subs)++(bS++B))):=by
     rw[hSp1,<-h5];simp
    have hbuf:pre++(aZ (e1 -e)++(X++(aZ (D -ei)++post)))=(pre++(aZ (e1 -e)++(X++dQ ei)))++(aZ (bY tags[i].ty tags[i].au)++(aZ (D -(aD ei+bY tags[i].ty tags[i].au))++post)):=by
     have:aZ (D -ei)=dQ ei++(aZ (bY tags[i].ty tags[i].au)++aZ (D -(aD ei+bY tags[i].ty tags[i].au))):=by rw[LA,<-pg,<-pg];congr 1;omega
     rw[this];simp
    have hpl:(pre++(aZ (e1 -e)++(X++dQ ei))).length=aD ei:=by simp only[aR,iE];omega
    have hq:=agF (w:=w) (by omega) tags[i] ht2 (by omega) (by omega) ho ht1 h0 (no:Int) (A:=A++(⟨2,no,0,aD e,6+12*N⟩::Q)) (B:=cX no (aD ei+bY tags[i].ty tags[i].au) (tags.drop (i+1))++(fG (no+1) e2 (aL subs)++(bS++B))) (x:=⟨3,no,tags[i].tag,aD ei,bY tags[i].ty tags[i].au⟩) (by rw[<-hSpi];exact Br) (by rw[<-hSpi];exact wg) (λy hy=>by
     unfold lK;rcases eM.1 hy with hy|hy
     ·have:=hA y hy;have:(y.dir==(no:Int))=false:=by simp;omega
      rw[this];simp
     ·rcases cj.1 hy with rfl|hy
      ·rfl
      ·obtain⟨-,-,t,c,q⟩:=h6 y hy;obtain⟨j,hj,rfl⟩:=List.getElem_of_mem c;rw[dH] at hj;rw[List.getElem_take] at q;have:=wH htr (show j<i by omega) hi;have:(y.tag==tags[i].tag)=false:=by simp;omega
       rw[this];simp) (by simp[lK]) (pre++(aZ (e1 -e)++(X++dQ ei))) (aZ (bY tags[i].ty tags[i].au)) (aZ (D -(aD ei+bY tags[i].ty tags[i].au))++post) (by rw[iE,hoL]) hpl.symm (L:=L) (by rw[hlenL];simp only[aR,iE];omega) (aC iL sh) ((no:Int)+1)
    rw[<-hSpi,<-hbuf] at hq;rw[hq];simp only[aA];rw[hpl];rw[NR w ⟨tags[i].tag,tags[i].ty,tags[i].au,aD ei⟩ _ hel];simp only[aA];rw[aN (by omega) (by omega),gq];simp only[ff,nz,eH,dY];rfl
 ·rintro g ⟨ei,X,es,Q⟩ ⟨h1,h2,h3,h4,h5,h6⟩
  simp only[s8,ck,gp,ew,cX,eH] at h1 h2 h3 h4 h5 h6;subst h1 h3 h4;have e0:aq (tags.length:Int) (tags.length:Int)=false:=by simp
  simp only[e0,aE];rw[Da,dw];have hsl:=uQ subs;have sg:∀(p:Int×aO)(r:List Value),fH p++r=.int .i64 p.1 ::dT p.2 ::dS p.2 ::dB p.2 ::r:=by intro p r;unfold fH;rw[pM];rfl
  have hvlen:(gp o e1 tags).length=ei -e1:=by omega
  generalize hV:gp o e1 tags=V at*;rw[show(no:Int)+1=((no+1:Nat):Int) by omega];refine oh (σ:=Nat×Nat×List UInt8×List bf×List bm) (ev:=λi s (g:Int->Value->Int->Int->Nat->Nat->Int->Value->Value->Int->Value->Value->Value->Value->Int->Int->Int->List Value->List Value->Option (Int×Nat×Nat×Int×Value×Value×Int×List Value))=>g no (aC fH (aL subs)) (aL subs).length i L L o (aC cd Sp) (aC iL sh) (s.2.1 :Nat) (aC cx tags) (aC fH (aL subs)) (aj blob) (fY S.bG) S.at_ S.cA S.next ((pre++(aZ (e1 -e)++(s.2.2.1 ++(aZ (D -s.1)++post)))).map aX) (s.2.2.2.1.flatMap bH))
   (Inv:=λi s=>gE s.1 ((aL subs).drop i)=e3/\s.2.1 +fy ((aL subs).drop i)=no+1+fy (aL subs)/\e1+s.2.2.1.length=s.1 /\s.2.2.1 ++lW o sh S s.1 ((aL subs).drop i)=V++lW o sh S ei (aL subs)/\s.2.2.2.1 ++nY s.1 ((aL subs).drop i)=ew o e1 tags++nY ei (aL subs)/\s.2.2.2.2 ++fG s.2.1 s.1 ((aL subs).drop i)=fG (no+1) ei (aL subs)/\no+1<=s.2.1 /\s.2.2.2.1.length=tags.length+i/\∀y∈s.2.2.2.2,y.dir<(s.2.1 :Int)) (aL subs).length (ei,no+1,V,ew o e1 tags,[]) ?_ ?_ ?_ ?_
  ·exact⟨by rw[eL,<-JB];exact he3,by simp,by simp only;omega,by simp,by simp,by simp,aB _,by simp[tT],λy hy=>by cases hy⟩
  ·rintro i g ⟨fi,ni,X,es,R⟩ hi ⟨k1,k2,k3,k4,k5,k6,k7,k8,k9⟩
   simp only at k1 k2 k3 k4 k5 k6 k7 k8 k9;have hmem:=dL hi;rw[dG hi] at k1 k2 k4 k5 k6;rw[gE] at k1;rw[fy] at k2;rw[lW] at k4;rw[nY] at k5;rw[fG] at k6;obtain⟨p1,p2⟩:=Kh hss _ hmem;have hge:=Ej ((aL subs).drop (i+1)) (bq fi (aL subs)[i].2);have hge2:=Bf (aL subs)[i].2 fi;have hbl2:=tL o sh (aL subs)[i].2 ((kM S (aL subs)[i].1).getD 0) 0 fi p2;rw[k1] at hge;have e5:((i:Int)<((aL subs).length:Int)):=by omega
   rcases KB S (aL subs)[i].1 with⟨-,hb0⟩|⟨k,hk,ek,-,e2⟩
   ·rw[p1] at hb0;cases hb0
   have hlk:=hSlk _ (dL hk);have hsh2:((S.bG[k].shape.toNat:Nat):Int)=S.bG[k].shape:=lM (by omega);rw[e2] at p2 k4 hbl2;refine⟨(bq fi (aL subs)[i].2,ni+dt (aL subs)[i].2,X++iS o sh S.bG[k].shape.toNat 0 fi (aL subs)[i].2,es++[⟨(aL subs)[i].1,4,1,aD fi⟩],R++fF ni fi (aL subs)[i].2),⟨k1,by simp only;omega,by simp only[aR];omega,by rw[<-k4];simp,by rw[<-k5];simp,by rw[<-k6];simp,by simp only;omega,by simp only[aR,xq];omega,λy hy=>?_⟩,?_⟩
   ·rcases eM.1 hy with hy|hy
    ·have:=k9 y hy;simp only;omega
    ·have:=ON hy;simp only;omega
   ·simp only[bc,e5,bn,ay,ct];rw[bW uP hi];simp only[sg,bN,cH];rw[agH _ _ _ _ _ (by omega) (by omega),ek];simp only[aA,ct];unfold fY;rw[bW ue hk];have lg:∀(x:gU)(r:List Value),(lC x++r).drop 1=.int .i64 x.shape::r:=λ_ _=>rfl;simp only[lg,bN,cH];have hSpi:Sp=(A++(⟨2,no,0,aD e,6+12*N⟩::(cX no e1 tags++R)))++(fF ni fi (aL subs)[i].2 ++(fG (ni+dt (aL subs)[i].2) (bq fi (aL subs)[i].2) ((aL subs).drop (i+1))++(bS++B))):=by
     rw[hSp1,<-k6];simp
    have hzz:aZ (D -fi)=aZ (bq fi (aL subs)[i].2 -fi)++aZ (D -bq fi (aL subs)[i].2):=by rw[<-pg];congr 1;omega
    have hbuf:pre++(aZ (e1 -e)++(X++(aZ (D -fi)++post)))=(pre++(aZ (e1 -e)++X))++(aZ (bq fi (aL subs)[i].2 -fi)++(aZ (D -bq fi (aL subs)[i].2)++post)):=by rw[hzz];simp
    have hpl:(pre++(aZ (e1 -e)++X)).length=fi:=by simp only[aR,iE];omega
    have hr:=hrec _ hmem S.bG[k].shape.toNat (by omega) p2 ni fi (A++(⟨2,no,0,aD e,6+12*N⟩::(cX no e1 tags++R))) (fG (ni+dt (aL subs)[i].2) (bq fi (aL subs)[i].2) ((aL subs).drop (i+1))++(bS++B)) (pre++(aZ (e1 -e)++X)) (aZ (D -bq fi (aL subs)[i].2)++post) (λy hy=>by
     rcases eM.1 hy with hy|hy
     ·have:=hA y hy;omega
     ·rcases cj.1 hy with rfl|hy
      ·simp only;omega
      ·rcases eM.1 hy with hy|hy
       ·have:=(C6 hy).2.1;omega
       ·exact k9 y hy) hpl hSpi (by rw[hlenL];simp only[aR,iE];omega) (by omega)
    rw[hsh2] at hr;unfold cw at hr;rw[<-hbuf] at hr;rw[hr];simp only[aA,cD,bn,ay];unfold uL;simp only[aA];rw[NR w ⟨(aL subs)[i].1,4,1,aD fi⟩ _ (by rw[eJ kk];omega)];simp only[aA];rw[aN (by omega) (by omega)];simp only[gq,ff,nz,eH,dY];rfl
  ·rintro g ⟨fi,ni,X,es,R⟩ ⟨k1,k2,k3,k4,k5,k6,k7,k8,k9⟩
   simp only[s8,gE,fy,lW,nY,fG,eH,Nat.add_zero] at k1 k2 k3 k4 k5 k6 k7 k8 k9;subst k1 k2 k4 k5;have e6:aq ((aL subs).length:Int) ((aL subs).length:Int)=false:=by simp
   simp only[e6,aE];rw[dU];have hE2:ew o e1 tags++nY ei (aL subs)++gO S fi blob=E:=by rw[<-hE,QX];simp
   have hbD:iS o sh s 0 e (.mk tags subs blob)=dQ e++(kJ o (gk E) 0++(V++(lW o sh S ei (aL subs)++(if blob.length=0 then[] else dQ fi++blob)))):=by rw[iS,hN,he1,he2,he3,hS,hE,Qb,hV]
   have hpl:(pre++dQ e).length=aD e:=by have:=p9 e;rw[aR];omega
   have hz2:aZ (e1 -e)=dQ e++aZ (6+12*E.length):=by rw[LA,<-pg];congr 1;omega
   have hfin:∀post':List UInt8,L=(pre++(aZ (e1 -e)++post')).length->Eb w no L L o (aC cd Sp) (aC iL sh) ((no+1+fy (aL subs):Nat):Int) ((pre++(aZ (e1 -e)++post')).map aX) (E.flatMap bH)=
    some ((aD e:Int),L,L,o,aC cd Sp,aC iL sh,((no+1+fy (aL subs):Nat):Int),(pre++(dQ e++(kJ o (gk E) 0++post'))).map aX):=by
    intro post' hLp;have hb:pre++(aZ (e1 -e)++post')=(pre++dQ e)++(aZ (6+12*E.length)++post'):=by rw[hz2];simp
    have:=YV (w:=w) (by omega) hEap hEne hEo (by omega) (by omega) (A:=A) (B:=cX no e1 tags++(fG (no+1) ei (aL subs)++(bS++B))) (x:=⟨2,no,0,aD e,6+12*N⟩) (by rw[<-hSp1];exact Br) (by rw[<-hSp1];exact wg) (no:Int) (λy hy=>by
     have:=hA y hy;unfold lK;have:(y.dir==(no:Int))=false:=by simp;omega
     rw[this];simp) (by simp[lK]) (pre++dQ e) post' hpl.symm (L:=L) (by rw[<-hb];exact hLp) (by omega) ho (aC iL sh) ((no+1+fy (aL subs):Nat):Int)
    rw[<-hSp1,<-hb,hpl] at this;rw[this];simp
   by_cases hb0:blob.length=0
   ·rw[ar hb0] at hend hbS;have hB0:gO S fi blob=[]:=by unfold gO;rw[ar hb0]
    rw[hB0,eH] at hE2;have e7:aq 0 (Int.ofNat blob.length)=false:=by rw[hb0];rfl
    simp only[e7,aE];rw[hE2,hbD,ar hb0];refine(hfin _ (by rw[hlenL];simp only[aR,iE] at*;omega)).trans ?_;rw[show D -fi=0 by omega];simp only[aZ,List.replicate_zero,iF,eH,dY]
    congr 9
    omega
   ·rw[ai hb0] at hend hbS;have hB0:gO S fi blob=[⟨S.at_,4,1,aD fi⟩,⟨S.cA,4,1,blob.length⟩]:=by unfold gO;rw[ai hb0]
    have e7:aq 0 (Int.ofNat blob.length)=true:=by simp;omega
    have hpf:=p9 fi;simp only[e7,ay];have hSpi:Sp=(A++(⟨2,no,0,aD e,6+12*N⟩::(cX no e1 tags++fG (no+1) ei (aL subs))))++⟨4,no,0,aD fi,blob.length⟩::B:=by rw[hSp1,<-hbS];simp
    have hq:=N3 (w:=w) (A:=A++(⟨2,no,0,aD e,6+12*N⟩::(cX no e1 tags++fG (no+1) ei (aL subs)))) (B:=B) (x:=⟨4,no,0,aD fi,blob.length⟩) (by rw[<-hSpi];exact Br) (by rw[<-hSpi];exact wg) 4 (no:Int) 0 (λy hy=>by
     unfold lK;rcases eM.1 hy with hy|hy
     ·have:=hA y hy;have:(y.dir==(no:Int))=false:=by simp;omega
      rw[this];simp
     ·rcases cj.1 hy with rfl|hy
      ·rfl
      ·rcases eM.1 hy with hy|hy
       ·rw[(C6 hy).1];rfl
       ·rw[<-Im] at hy;have:=(OO hy).1;have:(y.dir==(no:Int))=false:=by simp;omega
        rw[this];simp) (by simp[lK])
    rw[<-hSpi] at hq;rw[hq];simp only[aA,ct];have hbuf:pre++(aZ (e1 -e)++(V++lW o sh S ei (aL subs)++(aZ (D -fi)++post)))=(pre++(aZ (e1 -e)++(V++lW o sh S ei (aL subs)++dQ fi)))++(aZ blob.length++post):=by
     have:aZ (D -fi)=dQ fi++aZ blob.length:=by rw[LA,<-pg];congr 1;omega
     rw[this];simp
    have hpl2:(pre++(aZ (e1 -e)++(V++lW o sh S ei (aL subs)++dQ fi))).length=aD fi:=by simp only[aR,iE] at*;omega
    rw[hbuf];have hcp:=Jt (pre++(aZ (e1 -e)++(V++lW o sh S ei (aL subs)++dQ fi))) blob (aZ blob.length) post (iE _) (L:=L) (by rw[hlenL];simp only[aR,iE] at*;omega) (λcs=>ob (uL w S.at_ (aD fi:Int)) λ(x144:Int×Int×Int×Int)=>ax (aj blob) λ(x145:Nat)=>ob (uL w S.cA (Int.ofNat x145)) λ(x146:Int×Int×Int×Int)=>
     ob (CF w [Value.int IntKind.i64 x144.fst,Value.int IntKind.i64 x144.snd.fst,Value.int IntKind.i64 x144.snd.snd.fst,Value.int IntKind.i64 x144.snd.snd.snd,Value.int IntKind.i64 x146.fst,Value.int IntKind.i64 x146.snd.fst,Value.int IntKind.i64 x146.snd.snd.fst,Value.int IntKind.i64 x146.snd.snd.snd] ((ew o e1 tags++nY ei (aL subs)).flatMap bH)) λ(x147:List Value)=>Eb w no L L o (aC cd Sp) (aC iL sh) ((no+1+fy (aL subs):Nat):Int) cs x147)
    rw[hpl2] at hcp;refine iq hcp ?_;unfold uL;simp only[aA,dU];have hlen2:(ew o e1 tags++nY ei (aL subs)).length<=70000:=by have:=bK List.length hE2;rw[aR] at this;omega
    have h260:=agD w ⟨S.at_,4,1,aD fi⟩ ⟨S.cA,4,1,blob.length⟩ ((ew o e1 tags++nY ei (aL subs)).flatMap bH) (by rw[eJ kk];omega);simp only[cu] at h260⊢;rw[h260];simp only[aA];have hEc:(ew o e1 tags++nY ei (aL subs)).flatMap bH++(bH ⟨S.at_,4,1,aD fi⟩++bH ⟨S.cA,4,1,blob.length⟩)=E.flatMap bH:=by rw[<-hE2,hB0];simp
    rw[hEc];have hbuf2:(pre++(aZ (e1 -e)++(V++lW o sh S ei (aL subs)++dQ fi)))++(blob++post)=pre++(aZ (e1 -e)++(V++(lW o sh S ei (aL subs)++(dQ fi++(blob++post))))):=by simp
    rw[hbuf2,hbD,ai hb0];refine(hfin _ (by rw[hlenL];simp only[aR,iE] at*;omega)).trans ?_;simp only[dY]
    congr 9
    omega
  ·omega
end
section
variable{Sp:List bm} {m w:Nat} {o:Int} {sh:List aV}
theorem QK{L:Nat}(H:Az w m sh o L Sp)(z:Value->Value->Value->Int->Nat->Nat->Int->Value->Value->Int->List Value->Option (Int×Nat×Nat×Int×Value×Value×Int×List Value)):
 ∀(n:Nat)(d:aO)(s:Nat),fA d<=n->s<sh.length->gV m d->cK sh s d=true->As sh o L Sp (pU z (Io w) n) d s
 |0,d,s,h,_,_,_=>by obtain⟨tags,subs,blob⟩:=d;unfold fA at h;omega
 |n+1,d,s,h,hs,hd,hh=>by refine ahP H _ d s hs hd hh ?_;obtain⟨tags,subs,blob⟩:=d;intro p hp k hk hpk;have hp:p∈aL subs:=hp;have:=Ed p hp;unfold fA at h;exact QK H z n p.2 k (by omega) hk (xG hd.2.2.2.2 p hp) hpk
theorem ago{L:Nat}(H:Az w m sh o L Sp)(d:aO)(s:Nat)(hs:s<sh.length)(hd:gV m d)(hh:cK sh s d=true)(jA:fA d<=w):As sh o L Sp (G6 w) d s:=QK H _ w d s jA hs hd hh
theorem Yh(o:Int)(sh:List aV)(s next e:Nat)(d:aO)(hh:cK sh s d=true):∃a b,iS o sh s next e d=a++(aU next 4 o++b)/\e+a.length=aD e+(2+12*bF d)/\∀n,iS o sh s n e d=a++(aU n 4 o++b):=by
 obtain⟨tags,subs,blob⟩:=d;have hl:∀E,E=gk (ew o (aD e+(6+12*bF (.mk tags subs blob))) tags++(ig (ck (aD e+(6+12*bF (.mk tags subs blob))) tags) subs++gO (aJ sh s) (eu (ck (aD e+(6+12*bF (.mk tags subs blob))) tags) subs) blob))->E.length=bF (.mk tags subs blob):=by
  rintro E rfl
  rw[Bv,aR,aR,tT,Bj,Ek];show _=tags.length+cm subs+(if blob.length=0 then 0 else 2);omega
 obtain⟨E,hE⟩:∃E,gk (ew o (aD e+(6+12*bF (.mk tags subs blob))) tags++(ig (ck (aD e+(6+12*bF (.mk tags subs blob))) tags) subs++gO (aJ sh s) (eu (ck (aD e+(6+12*bF (.mk tags subs blob))) tags) subs) blob))=E:=⟨_,rfl⟩;refine⟨dQ e++(aU E.length 2 o++E.flatMap (iz o)),gp o (aD e+(6+12*bF (.mk tags subs blob))) tags++(jR o sh (aJ sh s) (ck (aD e+(6+12*bF (.mk tags subs blob))) tags) subs++(if blob.length=0 then[] else dQ (eu (ck (aD e+(6+12*bF (.mk tags subs blob))) tags) subs)++blob)),by rw[iS,hE];unfold kJ;simp,?_,?_⟩
 ·have:=p9 e;simp only[aR,eh,yl,(hl E hE.symm)];omega
 ·intro n;rw[iS,hE];unfold kJ;simp
theorem XA(ho:o=1\/o=2):aU 0 4 o=aZ 4:=by rcases ho with rfl|rfl<;>rfl
theorem Za:∀{ds:List aO}{e:Nat},ds≠[]->aD e+6<=ee e ds
 |[],_,h=>by grind
 |d::ds,e,_=>by rw[ee];have:=LD (d:=d) (e:=e);have:=pO ds (bq e d);omega
noncomputable def Pj(w:Nat):Value->Int->Int->Value->Int->Int->Nat->Nat->Int->Value->Value->Int->List Value->Option (Value×Int):=
 lp (λ(_:Value)(_ _:Int)(_:Value)(_ _:Int)(_ _:Nat)(_:Int)(_ _:Value)(_:Int)(_:List Value)=>none) (λ(x68:Value->Int->Int->Value->Int->Int->Nat->Nat->Int->Value->Value->Int->List Value->Option (Value×Int))(x69:Value)(x70 x71:Int)(x72:Value)(x73 x74:Int)(x75 x76:Nat)(x77:Int)(x78 x79:Value)(x80:Int)(x81:List Value)=>bif aq x74 x73 then aG x74 λ(x82:Nat)=>aQ 3 x82 x72 λ(x83:List Value)=>ag x83 λ(x84:Value)(x85:List Value)=>ag x85 λ(x86:Value)(x87:List Value)=>ag x87 λ(x88:Value)(_:List Value)=>ob (G6 w x84 x86 x88 x70 x75 x76 x77 x78 x79 x80 x81) λ(x90:Int×Nat×Nat×Int×Value×Value×Int×List Value)=>ob (sO w x71 x90.fst 4 x90.snd.fst x90.snd.snd.fst x90.snd.snd.snd.fst x90.snd.snd.snd.snd.fst x90.snd.snd.snd.snd.snd.fst x90.snd.snd.snd.snd.snd.snd.fst x90.snd.snd.snd.snd.snd.snd.snd) λ(x91:Nat×Nat×Int×Value×Value×Int×List Value)=>ob (jT w x84 x86 x88) λ(x92:Int)=>aG x70 λ(x93:Nat)=>aQ 4 x93 x69 λ(x94:List Value)=>ag (List.drop 3 x94) λ(x95:Value)(_:List Value)=>aw IntKind.i64 x95 λ(x97:Int)=>x68 x69 x97 (ah IntKind.i64 ((ah IntKind.i64 (Int.add x90.fst 2)).add (ah IntKind.i64 (Int.mul 12 x92)))) x72 x73 (ah IntKind.i64 (x74.add 1)) x91.fst x91.snd.fst x91.snd.snd.fst x91.snd.snd.snd.fst x91.snd.snd.snd.snd.fst x91.snd.snd.snd.snd.snd.fst x91.snd.snd.snd.snd.snd.snd else some (ae x75 (List.drop 0 x81),0)) w
theorem aix{L:Nat}(H:Az w m sh o L Sp)(ds:List aO)(ik:ds.length<=m)(hd:nK m ds)(jA:kj ds<=w)(hh:fK sh 0 ds=true)(hs0:0<sh.length)(hds:ds≠[])(hSp:Sp=gK ⟨o,ds⟩)(ua:iT ds<2^39)(hLe:L=ee 8 ds)(pre0:List UInt8)(hp0:pre0.length=4):
 Pj w (cw sh) 0 (pre0.length:Int) (dM ds) ds.length 0 L L o (aC cd Sp) (cw sh) 0 ((pre0++(aZ 4++([]++aZ (L -8)))).map aX)=some (aj (pre0++(aU 8 4 o++lX o sh 0 8 ds)),0):=by
 have H0:=H;obtain⟨hm,hw,hsh,hl,ho,hLt,Br,wg,Bs⟩:=H;have h8:=pO ds 8;unfold Pj dM;have key:∀(e:Nat)(rest:List aO),(if rest.isEmpty then 0 else aD e)<4294967296\/True:=λ_ _=>.inr trivial;refine oh (σ:=Nat×Nat×Int×List UInt8×List UInt8×List bm) (ev:=λi s (g:Value->Int->Int->Value->Int->Int->Nat->Nat->Int->Value->Value->Int->List Value->Option (Value×Int))=>g (cw sh) s.2.2.1 (s.2.2.2.1.length:Int) (aC dK ds) ds.length i L L o (aC cd Sp) (cw sh) (s.2.1 :Nat) ((s.2.2.2.1 ++(aZ 4++(s.2.2.2.2.1 ++aZ (L -s.1)))).map aX))
  (Inv:=λi s=>ee s.1 (ds.drop i)=L/\s.2.1 +iT (ds.drop i)=iT ds/\fK sh s.2.2.1 (ds.drop i)=true/\s.2.2.1 <sh.length/\s.2.2.2.1.length+4+s.2.2.2.2.1.length=s.1 /\s.2.2.2.2.2 ++jH s.2.1 s.1 (ds.drop i)=Sp/\(∀y∈s.2.2.2.2.2,y.dir<(s.2.1 :Int))/\
   s.2.2.2.1 ++(aU (if(ds.drop i).isEmpty then 0 else aD s.1) 4 o++(s.2.2.2.2.1 ++lX o sh s.2.2.1 s.1 (ds.drop i)))=pre0++(aU 8 4 o++lX o sh 0 8 ds)) ds.length (8,0,0,pre0,[],[⟨1,-1,0,0,8⟩]) ?_ ?_ ?_ (by omega)
 ·refine⟨hLe.symm,by simp,hh,by simp only;omega,by simp only[hp0,List.length_nil],by rw[hSp];rfl,λy hy=>by rw[kC.1 hy];show(-1:Int)<((0:Nat):Int);decide,?_⟩;rw[eL];have:ds.isEmpty=false:=by cases ds with
   |nil=>exact absurd rfl hds
   |cons _ _=>rfl
  simp only[this,mA,gN,iF];rfl
 ·rintro i g ⟨e,no,s,P,M,R⟩ hi ⟨h1,h2,h3,h4,h5,h6,h7,h9⟩
  simp only at h1 h2 h3 h4 h5 h6 h7 h9;have hmem:=dL hi;rw[dG hi] at h1 h2 h3 h6 h9;rw[ee] at h1;rw[iT] at h2;rw[jH] at h6;rw[lX] at h9;simp only[fK,bg,bV] at h3;obtain⟨k1,k2,k3⟩:=h3;have hs:(s.toNat:Int)=s:=lM k1;have hst:s.toNat<sh.length:=by omega
  have hnx:=hsh.next s.toNat hst;have hge:=pO (ds.drop (i+1)) (bq e ds[i]);have hge2:=Bf ds[i] e;have hpos:=LD (d:=ds[i]) (e:=e);have hev:=mQ e;have hbl:=tL o sh ds[i] s.toNat 0 e k2;obtain⟨a,b,q1,q2,q3⟩:=Yh o sh s.toNat 0 e ds[i] k2;have hcp:=YG ds[i];have h10:=Ec hmem;have e1:((i:Int)<(ds.length:Int)):=by omega
  refine⟨(bq e ds[i],no+dt ds[i],(aJ sh s.toNat).next,P++(aU (aD e) 4 o++(M++a)),b,R++fF no e ds[i]),⟨h1,by simp only;omega,k3,by simp only;omega,?_,by rw[<-h6];simp,λy hy=>?_,?_⟩,?_⟩
  ·simp only[aR,eh];have:=bK List.length q1;simp only[aR,eh] at this;omega
  ·rcases eM.1 hy with hy|hy
   ·have:=h7 y hy;simp only;omega
   ·have:=ON hy;simp only;omega
  ·rw[<-h9];have:se e ds[i] (ds.drop (i+1))=if(ds.drop (i+1)).isEmpty then 0 else aD (bq e ds[i]):=rfl;rw[q3,this];simp only[List.isEmpty_cons,mA,gN,dY]
  ·simp only[bc,e1,bn,ay,ct];rw[bW nX hi];simp only[Eg,bN];have hzz:aZ (L -e)=aZ (bq e ds[i] -e)++aZ (L -bq e ds[i]):=by rw[<-pg];congr 1;omega
   have hLl:L=((P++(aZ 4++M))++(aZ (bq e ds[i] -e)++aZ (L -bq e ds[i]))).length:=by simp only[aR,iE];omega
   have hW:=ago H0 ds[i] s.toNat hst (hd _ hmem) k2 (by omega) no e R (jH (no+dt ds[i]) (bq e ds[i]) (ds.drop (i+1))) (P++(aZ 4++M)) (aZ (L -bq e ds[i])) h7 (by simp only[aR,iE];omega) h6.symm hLl (by omega);have hb1:P++(aZ 4++(M++aZ (L -e)))=(P++(aZ 4++M))++(aZ (bq e ds[i] -e)++aZ (L -bq e ds[i])):=by rw[hzz];simp
   rw[hs] at hW;rw[hb1,hW];simp only[aA];have hb2:(P++(aZ 4++M))++(iS o sh s.toNat 0 e ds[i]++aZ (L -bq e ds[i]))=P++(aZ 4++(M++(iS o sh s.toNat 0 e ds[i]++aZ (L -bq e ds[i])))):=by simp
   rw[hb2,NJ (by omega) P (aZ 4) (M++(iS o sh s.toNat 0 e ds[i]++aZ (L -bq e ds[i]))) (aD e) 4 (.inr rfl) (by omega) ho _ _ _ (iE 4) L (by simp only[aR,iE];omega) (by omega) (P.length:Int) rfl (4:Int) rfl ((aD e:Nat):Int) rfl];simp only[aA];have h203:jT w (dT ds[i]) (dS ds[i]) (dB ds[i])=some (bF ds[i]:Int):=by have hsm:=hd _ hmem;generalize ds[i]=d at hsm⊢;obtain⟨tags,subs,blob⟩:=d;have hsm:tags.length<=m/\cm subs<=m/\blob.length<=m/\(∀t∈tags,t.data.length<=m)/\gW m subs:=hsm;exact G7 w tags subs blob (by omega)
   rw[h203];simp only[aA,cR,pS];rw[lk k1];have hS:sh[s.toNat]=aJ sh s.toNat:=by unfold aJ;rw[dD hst];rfl
   have tg:∀(S:aV)(r:List Value),(iL S++r).drop 3=.int .i64 S.next::r:=λ_ _=>rfl;have hsv:cw sh=aC iL sh:=rfl;rw[hsv,bW zZ hst,hS];simp only[tg,bN,cH];have hen:bF ds[i]<=65535:=by generalize ds[i]=d at k2;obtain⟨tags,subs,blob⟩:=d;simp only[cK,bg,bV] at k2;exact k2.1.2
   rw[aN (n:=12*(bF ds[i]:Int)) (by omega) (by omega),aN (n:=((aD e:Nat):Int)+2) (by omega) (by omega),aN (n:=((aD e:Nat):Int)+2+12*(bF ds[i]:Int)) (by omega) (by omega),aN (n:=(i:Int)+1) (by omega) (by omega)];have ek:((aD e:Nat):Int)+2+12*(bF ds[i]:Int)=(((P++(aU (aD e) 4 o++(M++a))).length:Nat):Int):=by simp only[aR,eh];omega
   rw[ek,q1,XA ho];simp only[dY];rfl
 ·rintro g ⟨e,no,s,P,M,R⟩ ⟨h1,h2,h3,h4,h5,h6,h7,h9⟩
  simp only[s8,ee,lX,eH,List.isEmpty_nil,gj] at h1 h5 h9;have e1:¬((ds.length:Int)<(ds.length:Int)):=by omega
  simp only[bc,e1,cy,aE,eL];rw[<-h9,XA ho,show L -e=0 by omega];simp only[aZ,List.replicate_zero,eH];rw[vK _ _ (by simp only[aR,uX];omega)]
end
section
structure oK(w m:Nat)(sh:List aV)(o:Int)(ds:List aO):Prop where
 hm:m<2^28
 hw:2*m+1000<=w
 Bs:70000<=w
 ok:iu sh
 tZ:ri w (cw sh)=some true
 s0:0<sh.length
 bG:∀s,s<sh.length->(aJ sh s).bG.length<=m
 ho:o=1\/o=2
 ca:ds≠[]
 ik:ds.length<=m
 hd:nK m ds
 jA:kj ds<=w
 hh:fK sh 0 ds=true
 he:ee 8 ds<=1000000000
 wg:(gK ⟨o,ds⟩).length<w
 Kf:(gK ⟨o,ds⟩).length*5<=1000000000
 ua:iT ds<2^39
 yD:wU w o (dM ds)=some true
variable{ds:List aO} {m w:Nat} {o:Int} {sh:List aV}
theorem oK.cA(T:oK w m sh o ds):sN w o (dM ds)=some (ee 8 ds:Int):=by have:=T.he;have:=T.ua;have:=T.hw;exact af2 T.hm (by omega) o ds T.yD T.jA T.ik (by omega) T.Kf (by omega) T.hd
theorem oK.laid(T:oK w m sh o ds):zF w o (dM ds)=some (aC cd (gK ⟨o,ds⟩),true):=by have:=T.he;have:=T.ua;have:=T.hw;rw[VX T.hm (by omega) o ds T.yD T.jA T.ik (by omega) T.Kf (by omega) T.hd,ar (by omega)]
theorem oK.check(T:oK w m sh o ds):uK w o (dM ds) (cw sh)=some 0:=by have:=T.hw;have:=pO ds 8;exact agn T.hm (by omega) sh T.ok T.tZ T.s0 T.bG T.ho ds T.ca T.ik T.hd T.jA T.hh (by omega) T.cA
theorem UA(v:List UInt8)(n:Nat)(pre:List UInt8)(hv:v.length=2)(hp:pre.length=2){L:Nat}(hL:L=2+n):aW 0 (List.take (Nat.min 2 L*1) (v.map aX)) ((pre++aZ n).map aX)=(v++aZ n).map aX:=by
 rw[gh (by grind)];have:=LR [] v pre (aZ n) (by omega) 0 rfl
 grind
theorem VL(T:oK w m sh o ds):Cu w o (dM ds) (cw sh)=some (aj (fe ⟨o,ds⟩ sh),0):=by
 have t1:=T.he;have t2:=T.wg;have t3:=T.Kf;have t4:=T.Bs;have hpos:=Za (e:=8) T.ca;have hev:aD 8=8:=rfl;unfold Cu Gq MG;rw[T.check,T.cA,T.laid];simp only[aA,show ak 0 0=true from rfl,cL,aE,ct];obtain⟨L,hL⟩:∃L,ee 8 ds=L:=⟨_,rfl⟩;rw[hL] at t1 hpos⊢;have r1:L.ble L=true:=by rw[kW];exact aB _
 have r2:L.ble 1000000000=true:=by rw[kW];exact t1
 have e2:Nat.min 2 L=2:=by show min _ _=_;omega
 have hrep:rep L (Value.int IntKind.u8 0).cells.toList=(aZ L).map aX:=uz L;have hz:aZ L=aZ 2++aZ (L -2):=by rw[<-pg];congr 1;omega
 have r3:∀v:List UInt8,v.length=L->(0+Nat.min 2 L*1).ble (v.map aX).length=true:=by intro v hv;rw[e2,eD,hv,kW];omega
 simp only[r1,r2,kU,hrep,kV,fP];rw[r3 _ (iE L),ay];have m1:List.map (λ(b:UInt8)=>Value.int IntKind.u8 (Int.ofNat b.toNat)) (ByteArray.mk #[77,77]).data.toList=[(77:UInt8),77].map aX:=rfl;have m2:List.map (λ(b:UInt8)=>Value.int IntKind.u8 (Int.ofNat b.toNat)) (ByteArray.mk #[73,73]).data.toList=[(73:UInt8),73].map aX:=rfl;rw[m1,m2,hz,UA [77,77] (L -2) (aZ 2) rfl rfl (by omega)];have hz2:aZ (L -2)=aZ 2++aZ (L -4):=by rw[<-pg];congr 1;omega
 have hz3:aZ (L -4)=aZ 4++([]++aZ (L -8)):=by rw[iF,<-pg];congr 1;omega
 have W:Az w m sh o L (gK ⟨o,ds⟩):=⟨T.hm,T.hw,T.ok,T.bG,T.ho,by omega,by omega,t2,t4⟩;have fin:∀sg:List UInt8,sg.length=2->(ob (sO w 2 42 2 L L o (aC cd (gK ⟨o,ds⟩)) (cw sh) 0 ((sg++aZ (L -2)).map aX)) λ(x53:Nat×Nat×Int×Value×Value×Int×List Value)=>ax (dM ds) λ(x54:Nat)=>Pj w (cw sh) 0 4 (dM ds) (Int.ofNat x54) 0 x53.fst x53.snd.fst x53.snd.snd.fst x53.snd.snd.snd.fst x53.snd.snd.snd.snd.fst x53.snd.snd.snd.snd.snd.fst x53.snd.snd.snd.snd.snd.snd)=some (aj (sg++(aU 42 2 o++(aU 8 4 o++lX o sh 0 8 ds))),0):=by
  intro sg hsg;rw[hz2,NJ (by omega) sg (aZ 2) (aZ (L -4)) 42 2 (.inl rfl) (by decide) T.ho _ _ 0 (iE 2) L (by simp only[aR,iE];omega) (by omega) (2:Int) (by omega) (2:Int) rfl (42:Int) rfl];simp only[aA];unfold dM;rw[dw];have:=aix W ds T.ik T.hd T.jA T.hh T.s0 T.ca rfl T.ua hL.symm (sg++aU 42 2 o) (by rw[aR,eh,hsg]);have e4:(((sg++aU 42 2 o).length:Nat):Int)=4:=by rw[aR,eh,hsg];rfl
  rw[e4] at this;unfold dM at this;rw[hz3];simp at this⊢;exact this
 rcases T.ho with ho|ho
 ·have hb:=UA [73,73] (L -2) [77,77] rfl rfl (L:=L) (by omega);simp only[ho,show ak 1 1=true from rfl,ay];have r4:(0+Nat.min 2 L*1).ble (([77,77]++aZ (L -2)).map aX).length=true:=r3 _ (by simp[iE];omega);have f:=fin [73,73] rfl;rw[ho] at f;simp only[r4,hb,ay];refine iq ?_ (f.trans ?_)
  ·rfl
  ·unfold fe;rfl
 ·simp only[ho,show ak 2 1=false from rfl,aE];have f:=fin [77,77] rfl;rw[ho] at f;refine iq ?_ (f.trans ?_)
  ·rfl
  ·unfold fe;rfl
end
section
abbrev rM:=Nat×Nat×List Nat×Nat
def Mj(e:rM):Value:=.agg #[.int .i64 e.1,.int .i64 e.2.1]
def Mk(e:rM):Value:=.agg #[ae e.2.2.1.length (e.2.2.1.map λt=>.int .i64 (Int.ofNat t)),.int .i64 e.2.2.2]
theorem Xp:∀l:List rM,sW (l.map Mi)=some (l.map λe=>(Mj e,Mk e))
 |[]=>rfl
 |e::l=>by show ob (sW (l.map Mi)) _=_;rw[Xp l];rfl
theorem aaE(a b:Int)(e:rM):iv qj.T 292 (.agg #[.int .i64 a,.int .i64 b]) (Mj e)=some (decide (a=(e.1 :Int)/\b=(e.2.1 :Int))):=by
 show lA [.int .i64 a,.int .i64 b] [.int .i64 e.1,.int .i64 e.2.1]=_;unfold lA;unfold lA;unfold lA;by_cases h1:a=(e.1 :Int)
 ·by_cases h2:b=(e.2.1 :Int)
  ·simp_all
  ·simp_all
 ·simp[h1]
def qc(a b:Int)(e:rM):Bool:=decide (a=(e.1 :Int)/\b=(e.2.1 :Int))
theorem Rj(a b:Int):∀(l:List rM)(i:Nat),∃j,qB qj.T 292 (.agg #[.int .i64 a,.int .i64 b]) (l.map λe=>(Mj e,Mk e)) i=some ((l.find? (qc a b)).map λe=>(j,Mk e))
 |[],i=>⟨0,rfl⟩
 |e::l,i=>by
  rw[List.map_cons,List.find?_cons];unfold qB;rw[aaE];show∃j,cond (qc a b e) _ _=_;cases h:qc a b e with
  |true=>simp
  |false=>obtain⟨j,hj⟩:=Rj a b l (i+1);exact⟨j,hj⟩
def oz:List rM:=[(0,256,[3,4],1),(0,257,[3,4],1),(0,259,[3],1),(0,274,[3],1),(0,296,[3],1),(0,531,[3],1),(0,270,[2],0),(0,271,[2],0),(0,272,[2],0),(0,305,[2],0),(0,315,[2],0),(0,33432,[2],0),(0,306,[2],20),(0,282,[5],1),(0,283,[5],1),(1,256,[3,4],1),(1,257,[3,4],1),(1,259,[3],1),(1,274,[3],1),(1,296,[3],1),(1,531,[3],1),(1,270,[2],0),(1,271,[2],0),(1,272,[2],0),(1,305,[2],0),(1,315,[2],0),(1,33432,[2],0),(1,306,[2],20),(1,282,[5],1),(1,283,[5],1),(2,33434,[5],1),(2,33437,[5],1),(2,37378,[5],1),(2,37386,[5],1),(2,34850,[3],1),(2,37383,[3],1),(2,37384,[3],1),(2,37385,[3],1),(2,40961,[3],1),(2,41986,[3],1),(2,36864,[7],4),(2,37121,[7],4),(2,40960,[7],4),(2,37377,[10],1),(2,37380,[10],1),(2,36867,[2],20),(2,36868,[2],20),(2,40962,[3,4],1),(2,40963,[3,4],1),(2,34855,[3],0),(2,37510,[7],0),(2,37520,[2],0),(2,41728,[7],1),(2,42016,[2],33),(2,42034,[5],4),(3,0,[1],4),(3,5,[1],1),(3,6,[5],1),(3,1,[2],2),(3,3,[2],2),(3,2,[5],3),(3,4,[5],3),(3,7,[5],3),(3,18,[2],0),(3,29,[2],11),(4,1,[2],4),(4,2,[7],4),(5,45056,[7],4),(5,45313,[4],1),(5,45569,[4],1),(5,45570,[4],1),(5,45572,[5],1),(5,45574,[5],1),(5,45573,[10],1),(5,45576,[10],1)]
theorem agc(w:Nat):Ny w=some (zi oz):=rfl
def U0(e:rM):(Int×Int)×List Int×Int:=(((e.1 :Int),(e.2.1 :Int)),e.2.2.1.map (λn:Nat=>(n:Int)),(e.2.2.2 :Int))
theorem afa:U2=oz.map U0:=by decide
theorem ae8(d t:Int):Ml d t=(oz.find? (qc d t)).map λe=>(e.2.2.1.map (λn:Nat=>(n:Int)),(e.2.2.2 :Int)):=by
 unfold Ml;rw[afa];generalize oz=l;induction l with
 |nil=>rfl
 |cons e l ih=>
  rw[List.map_cons,List.find?_cons];unfold U0;rw[List.lookup_cons];have:((d,t)==(((e.1 :Int),(e.2.1 :Int))))=qc d t e:=by
   unfold qc
   grind
  rw[this];cases qc d t e with
  |true=>rfl
  |false=>exact ih
theorem SH{α:Type}[BEq α](l:List α)(x:α):(db (λy=>x==y) l<0)=(l.any (λy=>x==y)=false):=by rw[yF];simp
variable{w:Nat}
theorem agS(l:List Int)(x:Int)(hl:l.length<2^40)(hw:l.length<w):N6 w (aC mU l) x=some (db (λy=>x==y) l):=by
 refine mg l (λy=>x==y) (ev:=λi (g:Value->Int->Int->Int->Option Int)=>g (aC mU l) x l.length i) ?_ ?_ hw
 ·intro i g h;simp;rw[bW RZ h];simp[mU];rw[aN (by omega) (by omega)]
  grind
 simp
theorem agw(l:List Int)(x:Int)(hl:l.length<2^40)(hw:l.length<w):He w (aC mU l) x=some (l.contains x):=by
 unfold He;rw[agS l x hl hw]
 congr 1
 have:=SH l x;rw[(show l.contains x=l.any (λy=>x==y) from by rw[List.contains_eq_any_beq])];cases h:l.any (λy=>x==y) with
 |true=>simp_all
 |false=>simp_all
def BS(p:Int×Int):List Value:=[.int .i64 p.1,.int .i64 p.2]
theorem aeA(p:Int×Int):(BS p).length=2:=rfl
theorem ag4(l:List (Int×Int))(a b:Int)(hl:l.length<2^40)(hw:l.length<w):Oh w (aC BS l) a b=some (db (λy=>(a,b)==y) l):=by
 refine mg l (λy=>(a,b)==y) (ev:=λi (g:Value->Int->Int->Int->Int->Option Int)=>g (aC BS l) l.length i a b) ?_ ?_ hw
 ·intro i g h;have e1:((i:Int)<(l.length:Int)):=by omega
  simp only[bc,e1,ct];rw[bW aeA h];simp only[(show∀(x:Int×Int)(r:List Value),BS x++r=.int .i64 x.1 ::.int .i64 x.2 ::r fromλ_ _=>rfl),cR];rw[aN (by omega) (by omega)];have hb:((a,b)==l[i])=(decide (a=l[i].1)&&decide (b=l[i].2)):=by rw[fO,beq_iff_eq,bg,bV,bV,Prod.ext_iff]
  rw[hb];by_cases e2:a=l[i].1
  ·by_cases e3:b=l[i].2
   ·simp
   ·simp
  ·simp
 ·intro g;simp
theorem agv(hw:20<=w)(a b:Int):Hd w a b=some (o6.contains (a,b)):=by
 unfold Hd N5;have e:ae 8 (List.drop 0 [Value.int IntKind.i64 0,Value.int IntKind.i64 34665,Value.int IntKind.i64 0,Value.int IntKind.i64 34853,Value.int IntKind.i64 1,Value.int IntKind.i64 513,Value.int IntKind.i64 1,Value.int IntKind.i64 514,Value.int IntKind.i64 2,Value.int IntKind.i64 37500,Value.int IntKind.i64 2,Value.int IntKind.i64 40965,Value.int IntKind.i64 5,Value.int IntKind.i64 45057,Value.int IntKind.i64 5,Value.int IntKind.i64 45058])=aC BS o6:=rfl;rw[e,ag4 _ _ _ (by decide) (by show 8<w;omega)]
 congr 1
 have:=SH o6 (a,b);rw[(show o6.contains (a,b)=o6.any (λy=>(a,b)==y) from by rw[List.contains_eq_any_beq])];cases h:o6.any (λy=>(a,b)==y) with
 |true=>simp_all
 |false=>simp_all
theorem ae9{d t:Int}{e:rM}(h:oz.find? (qc d t)=some e):e.2.2.1.length<=2:=by
 have:∀e∈oz,e.2.2.1.length<=2:=by decide
 grind
theorem agd(hw:20<=w)(d:Int)(t:aI)(hl:t.data.length<2^40):Cy w (zi oz) d t.tag t.ty t.au (aj t.data)=some (sc d t):=by
 unfold Cy sc;simp only[bc,qI];by_cases h1:d<0
 ·rw[ar h1];have:¬(0<=d):=by omega
  simp[this]
 rw[ai h1];by_cases h2:d<6
 case neg=>simp[h2]
 by_cases h3:t.tag<0
 ·rw[ar h3];have:¬(0<=t.tag):=by omega
  simp[this]
 rw[ai h3];by_cases h4:65535<t.tag
 ·rw[ar h4];have:¬(t.tag<=65535):=by omega
  simp[this]
 rw[ai h4];have h5:0<=d/\d<6/\0<=t.tag/\t.tag<=65535:=by omega
 rw[agv hw,zI _ _ _ _ hl];simp only[aA,h5,and_self,bn];cases hr:o6.contains (d,t.tag) with
 |true=>rfl
 |false=>
  cases hm:dW t.ty t.au t.data with
  |false=>rfl
  |true=>
   rw[ae8];obtain⟨j,hj⟩:=Rj d t.tag oz 0;have hL:∀(zs:List Value)(K:Bool->List Value->Option Bool),BI qj.T 292 (zi oz) (.agg (Array.mk [.int .i64 d,.int .i64 t.tag])) zs K=match oz.find? (qc d t.tag) with
    |none=>K false (zs.map zN)
    |some e=>K true [ae e.2.2.1.length (e.2.2.1.map λt=>.int .i64 (Int.ofNat t)),.int .i64 e.2.2.2]:=by
    intro zs K;unfold BI zi;simp only;rw[Xp];simp;rw[hj];cases oz.find? (qc d t.tag) with
    |none=>rfl
    |some e=>rfl
   rw[hL];cases hf:oz.find? (qc d t.tag) with
   |none=>rfl
   |some e=>
    have hle:=ae9 hf;simp only[bN,Option.map_some];have e1:ae e.2.2.1.length (e.2.2.1.map λt=>Value.int .i64 (Int.ofNat t))=aC mU (e.2.2.1.map (λn:Nat=>(n:Int))):=by
     unfold aC;rw[eD]
     congr 1
     generalize e.2.2.1 =l;induction l with
     |nil=>rfl
     |cons a l ih=>rw[List.map_cons,List.map_cons,ih];rfl
    rw[e1,agw _ _ (by rw[eD];omega) (by rw[eD];omega)];cases(e.2.2.1.map (λn:Nat=>(n:Int))).contains t.ty with
    |false=>rfl
    |true=>
     by_cases h0:e.2.2.2 =0
     ·simp[h0]
     ·have h0':¬((e.2.2.2 :Int)=0):=by omega
      rw[(show((e.2.2.2 :Int)==0)=false from by simpa using h0')];simp_all;rfl
theorem US:∀{l:List aI},(∀i (hi:i+1<l.length),l[i].tag<l[i+1].tag)->fD l=true
 |[],_=>rfl
 |[a],_=>rfl
 |a::b::l,h=>by simp[fD];exact⟨h 0 (by simp),US λi hi=>h (i+1) (by grind)⟩
theorem ae7(d:Int)(l:List aI):dz d l=((List.range l.length).all (λi=>(decide (i=0)||decide ((l[i -1]?.map aI.tag).getD 0<(l[i]?.map aI.tag).getD 0))&&((l[i]?.map (sc d)).getD true))&&decide (0<=d/\d<6)):=by
 unfold dz
 congr 1
 rw[fO];simp;constructor
 ·rintro ⟨h1,h2⟩ i hi
  refine⟨?_,?_⟩
  ·by_cases q:i=0
   ·grind
   ·right;rw[dD hi,dD (show i -1<l.length by omega)];exact wH h1 (by omega) hi
  grind
 ·intro h;refine⟨?_,λx hx=>?_⟩
  ·refine US λi hi=>?_
   grind
  ·obtain⟨i,hi,rfl⟩:=List.getElem_of_mem hx
   grind
theorem aa2{δ:Type}{z:δ}{F:δ->δ}(m:Nat)(ok:Nat->Bool)(r:Bool)(ev:Nat->δ->Option Bool)(hs:∀i g,i<m->ev i (F g)=if ok i=true then ev (i+1) g else some false)(he:∀g,ev m (F g)=some r)(hw:m<w):
 ev 0 (lp z F w)=some ((List.range m).all ok&&r):=by
 have key:∀(d i v:Nat),i+d=m->d<v->ev i (lp z F v)=some (((List.range d).all λj=>ok (i+j))&&r):=by
  intro d;induction d with
  |zero=>intro i v hi hv;rw[ef z F (by omega),show i=m by omega,he];rfl
  |succ d ih=>
   intro i v hi hv;rw[ef z F (by omega),hs i _ (by omega),xu];by_cases h:ok i=true
   ·rw[ih (i+1) (v -1) (by omega) (by omega)];simp[h]
    grind
   grind
 grind
theorem uG(hw:20<=w)(d:Int)(l:List aI)(hl:l.length<2^40)(hd:∀t∈l,t.data.length<2^40)(hlw:l.length<w):o7 w d (az l)=some (dz d l):=by
 unfold o7 az;rw[agc,ae7];simp only[aA];refine aa2 l.length _ (decide (0<=d/\d<6)) (ev:=λi (g:Int->Value->Value->Value->Int->Int->Option Bool)=>g d (aC cx l) (zi oz) (aC cx l) l.length i) ?_ ?_ hlw
 ·intro i g h;have e1:((i:Int)<(l.length:Int)):=by omega
  simp only[bc,e1,ct];rw[bW gI h];have tt:∀(t:aI)(r:List Value),cx t++r=.int .i64 t.tag::.int .i64 t.ty::.int .i64 t.au::aj t.data::r:=λ_ _=>rfl;simp only[tt,bN,cH];rw[agd hw d l[i] (hd _ (dL h)),dD h];simp only[aA,cR,iV,Option.map_some];rw[aN (n:=(i:Int)+1) (by omega) (by omega)];by_cases h0:i=0
  ·have e2:¬((0:Int)<(i:Int)):=by omega
   have e3:decide (i=0)=true:=by simp[h0]
   simp only[e2,cy,aE,e3,Bool.true_or];cases sc d l[i]<;>rfl
  ·have e2:((0:Int)<(i:Int)):=by omega
   simp_all;rw[aN (by omega) (by omega),lk (by omega),show((i:Int) -1).toNat=i -1 by omega];rw[bW gI (show i -1<l.length by omega),dD (show i -1<l.length by omega)];simp_all;by_cases h3:l[i -1].tag<l[i].tag
   ·simp only[h3];cases sc d l[i]<;>rfl
   ·simp[h3]
 ·intro g;have e1:¬((l.length:Int)<(l.length:Int)):=by omega
  by_cases h1:d<0
  ·have:¬(0<=d):=by omega
   simp[this]
  ·have:0<=d:=by omega
   simp[h1,this]
end
section
def iR(l:List UInt8):List Value:=[aj l]
structure Hand(w:Nat):Prop where
 may:∀o ds,ds.length<1000000000->(∀d∈ds,∃(sh:List aV)(s:Nat),cK sh s d=true)->kj ds<=w->wU w o (dM ds)=some true
 set:∀(l:List aI)(x:aI),fD l=true->l.length<2^20->l.length+2<w->(∀t∈l,t.data.length<=1000000000)->x.data.length<=1000000000->CD w (az l) x.tag x.ty x.au (aj x.data)=some (az (jG l x))
 drop:∀(l:List aI)(t:Int),fD l=true->l.length<2^20->l.length+2<w->(∀t∈l,t.data.length<=1000000000)->zM w (az l) t=some (az (oQ l t))
 cut:∀b:List UInt8,b.length<=65519->CQ w (aj b)=some (aC iR (fJ b),0)
 cat:∀a b c d:List UInt8,0<a.length->a.length+b.length+c.length+d.length<2^29->uF w (aj a) (aj b) (aj c) (d.map aX)=some ((d++(a++(b++c))).map aX)
theorem rV(w:Nat)(l:List UInt8)(hl:l.length<=1000000000):nk w (aj l)=some (aj l):=by
 unfold nk;by_cases h:l.length=0
 ·have e:Nat.beq l.length 0=true:=by rw[h];rfl
  rw[mf h];rfl
 ·have e:Nat.beq l.length 0=false:=by simp[h]
  unfold Nw Gm;rw[ij,iH];have e1:Nat.blt 0 l.length=true:=by simp;omega
  have hn:=nextslicecap_le (need:=0+l.length) (old:=0) (by omega);have e4:(Builtin.nextslicecap (0+l.length) 0).ble 5000000000=true:=by rw[kW];omega
  simp_all;rw[vK _ _ rfl]
theorem YC(w:Nat)(l:List aI)(h:l.length≠0)(hl:l.length<=1000000000):Hj w (az l)=some (l.flatMap cx):=by
 unfold Hj az;rw[EB gI];have hn:=nextslicecap_le (need:=0+l.length) (old:=0) (by omega);have e4:(Builtin.nextslicecap (0+l.length) 0).ble 5000000000=true:=by rw[kW];omega
 have e5:(l.flatMap cx).length.beq (l.length*4)=true:=by rw[eJ gI];exact kV _
 simp_all
variable{w:Nat}
theorem sy(l:List aI)(hl:l.length<=100000000)(hd:∀t∈l,t.data.length<=1000000000)(hw:l.length<w):lJ w (az l)=some (az l):=by
 unfold lJ;rw[(show∀K:Nat->Option Value,ax (az l) K=K l.length fromλK=>dw cx l K)];by_cases h:l.length=0
 ·have e:Nat.beq l.length 0=true:=by rw[h];rfl
  rw[mf h];rfl
 have e:Nat.beq l.length 0=false:=by simp[h]
 rw[e];unfold NI;rw[YC w l h (by omega)];have hfl:=eJ gI l;simp only[aA,hfl,lP _ (show 0<4 by decide)];refine lD (ev:=λi (g:Int->Int->List Value->Option Value)=>g (l.length:Int) i (l.flatMap cx)) l.length ?_ ?_ hw
 ·intro i g hi;have e1:((i:Int)<(l.length:Int)):=by omega
  have e2:i*4<(l.flatMap cx).length:=by omega
  have e3:0+i*4+1+2+1<=(l.flatMap cx).length:=by omega
  have hdr:(l.flatMap cx).drop (0+i*4+1+2)=aj l[i].data::(l.drop (i+1)).flatMap cx:=by rw[show 0+i*4+1+2=i*4+3 by omega,<-List.drop_drop,pR gI,dG hi];rfl
  simp only[bc,e1,bn,ay,ct,lU,e2,gu,e3];rw[hdr];simp only[bN];rw[rV w _ (hd _ (dL hi))];simp only[aA,FP,cR];rw[aN (by omega) (by omega)];have hset:(l.flatMap cx).set (0+i*4+1+2) (aj l[i].data)=l.flatMap cx:=by
   have hg:(l.flatMap cx)[0+i*4+1+2]'(by omega)=aj l[i].data:=by have:=dG (l:=l.flatMap cx) (i:=0+i*4+1+2) (by omega);rw[hdr] at this;exact(List.cons.inj this).1.symm
   rw[<-hg];exact List.set_getElem_self _
  rw[hset];rfl
 ·intro g;simp only[bc,(show¬((l.length:Int)<(l.length:Int)) from by omega),cy,aE];unfold az aC;rw[hfl,lP _ (show 0<4 by decide)]
theorem max_eq(a:Int)(l:List Int)(hl:l.length<2^40)(hw:l.length+1<w):Hk w (aC mU (a::l))=some (l.foldl (λm x=>if m<x then x else m) a):=by
 unfold Hk;simp only[bc,cu];refine oh (ev:=λi s (g:Value->Int->Int->Option Int)=>g (aC mU (a::l)) s ((i+1:Nat):Int)) (Inv:=λi s=>(l.drop i).foldl (λm x=>if m<x then x else m) s=l.foldl (λm x=>if m<x then x else m) a) l.length a (by rfl) ?_ ?_ (by omega)
 ·rintro i g s hi h1
  rw[dG hi] at h1;refine⟨_,h1,?_⟩;simp only[(show∀K:Nat->Option Int,ax (aC mU (a::l)) K=K (l.length+1) fromλK=>dw mU (a::l) K),(show(((i+1:Nat):Int)<((l.length+1:Nat):Int)) from by omega),ct];rw[bW RZ (show i+1<(a::l).length by simp;omega)];simp;rw[aN (by omega) (by omega)];rfl
 simp
theorem Rs:∀(l:List Int)(a:Int),0<l.foldl (λm x=>if m<x then x else m) a↔(0<a\/∃x∈l,0<x)
 |[],a=>by simp
 |b::l,a=>by
  rw[List.foldl_cons,Rs l];by_cases h:a<b
  ·rw[ar h];constructor
   ·simp_all
   grind
  grind
theorem OJ(hw:20<=w)(a:Int)(l:List Int)(hl:l.length<10):zC w (aC mU (a::l))=some (decide (0<a\/∃x∈l,0<x)):=by
 unfold zC;rw[max_eq a l (by omega) (by omega)];simp only[aA,bc]
 congr 1
 rw[fO,bV,bV];exact Rs l a
structure jL(x:di)(m:Nat):Prop where
 rows:qX x m
 d0:∀t∈x.cP,t.data.length<=m
 d2:∀t∈x.bR,t.data.length<=m
 d3:∀t∈x.bZ,t.data.length<=m
 d4:∀t∈x.bp,t.data.length<=m
 d1:∀t∈x.first,t.data.length<=m
 mkr:x.bQ.length<=m
 th:x.dq.length<=m
theorem VV{m:Nat}{x:di}(h:jL x m)(hm:m<2^26)(hw:m+20<w):
 Cz w x.order (az x.cP) (az x.bR) (az x.bZ) (az x.bp) (az x.first) (aj x.bQ) (aj x.dq)=some (hU x):=by
 obtain⟨⟨r0,r2,r3,r4,r1⟩,d0,d2,d3,d4,d1,hmk,hth⟩:=h;have q0:=uG (w:=w) (by omega) 0 x.cP (by omega) (λt ht=>by have:=d0 t ht;omega) (by omega);have q2:=uG (w:=w) (by omega) 2 x.bR (by omega) (λt ht=>by have:=d2 t ht;omega) (by omega);have q3:=uG (w:=w) (by omega) 3 x.bZ (by omega) (λt ht=>by have:=d3 t ht;omega) (by omega);have q4:=uG (w:=w) (by omega) 4 x.bp (by omega) (λt ht=>by have:=d4 t ht;omega) (by omega);have q1:=uG (w:=w) (by omega) 1 x.first (by omega) (λt ht=>by have:=d1 t ht;omega) (by omega);have hlr:∀(l:List aI)(K:Nat->Option Int),ax (az l) K=K l.length:=λl K=>dw cx l K;have hs:=OJ (w:=w) (by omega) (x.cP.length:Int) [(x.bR.length:Int),(x.bZ.length:Int),(x.bp.length:Int),(x.bQ.length:Int)] (by simp);have e:aC mU [(x.cP.length:Int),(x.bR.length:Int),(x.bZ.length:Int),(x.bp.length:Int),(x.bQ.length:Int)]=ae 5 (List.drop 0 [Value.int IntKind.i64 (Int.ofNat x.cP.length),Value.int IntKind.i64 (Int.ofNat x.bR.length),Value.int IntKind.i64 (Int.ofNat x.bZ.length),Value.int IntKind.i64 (Int.ofNat x.bp.length),Value.int IntKind.i64 (Int.ofNat x.bQ.length)]):=rfl;rw[e] at hs;have hany:(decide ((0:Int)<(x.cP.length:Int)\/∃y∈[(x.bR.length:Int),(x.bZ.length:Int),(x.bp.length:Int),(x.bQ.length:Int)],0<y))=!decide (x.cP.length=0/\x.bR.length=0/\x.bZ.length=0/\x.bp.length=0/\x.bQ.length=0):=by rw[fO,bV,sZ,fI];simp only[cj,jh,jj,exists_eq_or_imp,exists_eq_left];omega
 rw[hany] at hs;simp only[cu] at hs;have h95:OD w x.order (az x.cP) (az x.bR) (az x.bZ) (az x.bp) (az x.first) (aj x.bQ) (aj x.dq)=some (0,az x.cP,2,az x.bR,3,az x.bZ,4,az x.bp,1,az x.first):=rfl;unfold Cz hU MJ;simp only[h95,aA,q0,q2,q3,q4,q1,hlr,dU,hs,cD,bc,cu];have fin:(bif !dz 0 x.cP then some (6:Int) else bif !dz 2 x.bR then some 6 else bif !dz 3 x.bZ then some 6 else bif !dz 4 x.bp then some 6 else bif !dz 1 x.first then some 6 else bif decide ((65536:Int)<(x.bQ.length:Int)) then some 6 else bif !(!decide (x.cP.length=0/\x.bR.length=0/\x.bZ.length=0/\x.bp.length=0/\x.bQ.length=0)) then some 6 else some 0)=
  some (if(dz 0 x.cP&&(dz 2 x.bR&&(dz 3 x.bZ&&(dz 4 x.bp&&dz 1 x.first))))=false then 6 else if 65536<x.bQ.length\/(x.cP.length=0/\x.bR.length=0/\x.bZ.length=0/\x.bp.length=0/\x.bQ.length=0) then 6 else 0):=by
  cases dz 0 x.cP<;>cases dz 2 x.bR<;>cases dz 3 x.bZ<;>cases dz 4 x.bp<;>cases dz 1 x.first<;>try rfl
  simp_all;by_cases c1:65536<x.bQ.length
  ·rw[ar (by omega),ar (.inl c1)]
  ·rw[ai (by omega)];by_cases c2:(x.cP.length=0/\x.bR.length=0/\x.bZ.length=0/\x.bp.length=0/\x.bQ.length=0)<;>grind
 by_cases o1:x.order=1
 ·have:¬¬(x.order=1\/x.order=2):=by omega
  rw[ai this];simp only[o1,bn,cL,aE];exact fin
 ·by_cases o2:x.order=2
  ·have:¬¬(x.order=1\/x.order=2):=by omega
   rw[ai this];simp only[o2,show decide ((2:Int)=1)=false from rfl,fu,ay,bn,cL,aE];exact fin
  ·have:¬(x.order=1\/x.order=2):=by omega
   rw[ar this];simp only[o1,o2,cy,fu,ay]
end
section
theorem abv(w:Nat)(b:List UInt8)(hb:b.length<=1000000000):Hl w (aj b)=some ((iY b).tag,(iY b).ty,(iY b).au,aj (iY b).data):=by unfold Hl;rw[rV w b hb];rfl
variable{m w:Nat} {x:di}
theorem agm(A:Hand w)(h:jL x m)(hm:m<=70000)(hw:m+20<w)(hp:fD x.bR=true)(a b c d:Value)(o:Int):
 G5 w o a (az x.bR) b (az x.bp) c (aj x.bQ) d=some (dT (je x),dS (je x),dB (je x)):=by
 obtain⟨⟨r0,r2,r3,r4,r1⟩,d0,d2,d3,d4,d1,hmk,hth⟩:=h;have q4:=sy (w:=w) x.bp (by omega) (λt ht=>by have:=d4 t ht;omega) (by omega);have hs:=A.set x.bR (iY x.bQ) hp (by omega) (by omega) (λt ht=>by have:=d2 t ht;omega) (by show x.bQ.length<=_;omega);have hlr:∀(l:List aI)(K:Nat->Option (Value×Value×Value)),ax (az l) K=K l.length:=λl K=>dw cx l K;unfold G5 MR;rw[(sy (w:=w) x.bR (by omega) (λt ht=>by have:=d2 t ht;omega) (by omega))];simp only[dU,hlr,bc,cu];unfold je;by_cases a1:x.bQ.length=0
 ·have e1:¬((0:Int)<(x.bQ.length:Int)):=by omega
  simp only[e1,ar a1];by_cases a2:x.bp.length=0
  ·have e2:¬((0:Int)<(x.bp.length:Int)):=by omega
   simp only[e2,ar a2];rfl
  ·have e2:((0:Int)<(x.bp.length:Int)):=by omega
   simp only[e2,ai a2,q4,aA];rfl
 ·have e1:((0:Int)<(x.bQ.length:Int)):=by omega
  simp only[e1,ai a1];rw[abv w _ (by omega)];simp only[aA];rw[hs];by_cases a2:x.bp.length=0
  ·have e2:¬((0:Int)<(x.bp.length:Int)):=by omega
   simp only[e2,ar a2];rfl
  ·have e2:((0:Int)<(x.bp.length:Int)):=by omega
   simp only[e2,ai a2,q4,aA];rfl
theorem ahH(hw:10<=w):o8 w (ae 0 [])=some ():=by obtain⟨v,rfl⟩:=xv hw;rfl
theorem ahI(hw:10<=w)(t:Int)(a b c:Value):o8 w (ae 1 [.int .i64 t,a,b,c])=some ():=by obtain⟨v,rfl⟩:=xv hw;rfl
theorem ahJ(hw:10<=w)(a b c d e f:Value):o8 w (ae 2 [.int .i64 34665,a,b,c,.int .i64 34853,d,e,f])=some ():=by obtain⟨v,rfl⟩:=xv hw;rfl
theorem VK(A:Hand w)(h:jL x m)(hm:m<=70000)(hw:m+20<w):
 Ct w x.order (az x.cP) (az x.bR) (az x.bZ) (az x.bp) (az x.first) (aj x.bQ) (aj x.dq)=some (if hU x=0 then(x.order,dM (eC x).eK,0) else(0,ae 0 [],hU x)):=by
 unfold Ct Ce qe qf qg;rw[VV h (by omega) hw];simp only[aA,cD];by_cases hc:hU x=0
 case neg=>rw[ai hc];simp only[hc,cy,fu,ay]
 rw[ar hc];simp only[hc,bn,cL,aE];have hp:=(zg (tM hc).2.2.1).1;have q196:=λa b c d o=>agm A h hm hw hp a b c d o;obtain⟨⟨r0,r2,r3,r4,r1⟩,d0,d2,d3,d4,d1,hmk,hth⟩:=h;have q0:=sy (w:=w) x.cP (by omega) (λt ht=>by have:=d0 t ht;omega) (by omega);have q3:=sy (w:=w) x.bZ (by omega) (λt ht=>by have:=d3 t ht;omega) (by omega);have q1:=sy (w:=w) x.first (by omega) (λt ht=>by have:=d1 t ht;omega) (by omega);have qt:=rV w x.dq (by omega);have hlr:∀(l:List aI)(K:Nat->Option (Int×Value×Int)),ax (az l) K=K l.length:=λl K=>dw cx l K;have s3:=OJ (w:=w) (by omega) (x.bR.length:Int) [(x.bp.length:Int),(x.bQ.length:Int)] (by simp);have e3:aC mU [(x.bR.length:Int),(x.bp.length:Int),(x.bQ.length:Int)]=ae 3 (List.drop 0 [Value.int IntKind.i64 (Int.ofNat x.bR.length),Value.int IntKind.i64 (Int.ofNat x.bp.length),Value.int IntKind.i64 (Int.ofNat x.bQ.length)]):=rfl;have a3:(decide ((0:Int)<(x.bR.length:Int)\/∃y∈[(x.bp.length:Int),(x.bQ.length:Int)],0<y))=!decide (x.bR.length=0/\x.bp.length=0/\x.bQ.length=0):=by rw[fO,bV,sZ,fI];simp only[cj,jh,jj,exists_eq_or_imp,exists_eq_left];omega
 rw[e3,a3] at s3;have s2:=OJ (w:=w) (by omega) (x.first.length:Int) [(x.dq.length:Int)] (by simp);have e2:aC mU [(x.first.length:Int),(x.dq.length:Int)]=ae 2 (List.drop 0 [Value.int IntKind.i64 (Int.ofNat x.first.length),Value.int IntKind.i64 (Int.ofNat x.dq.length)]):=rfl;have a2:(decide ((0:Int)<(x.first.length:Int)\/∃y∈[(x.dq.length:Int)],0<y))=!decide (x.first.length=0/\x.dq.length=0):=by rw[fO,bV,sZ,fI];simp only[cj,jh,jj,exists_eq_left];omega
 rw[e2,a2] at s2;have n0:=ahH (w:=w) (by omega);have n1:=λt a b c=>ahI (w:=w) (by omega) t a b c;have n2:=λa b c d e f=>ahJ (w:=w) (by omega) a b c d e f;simp only[eL,cu] at s2 s3;simp only[q0,q3,q1,qt,q196,aA,hlr,dU,s3,s2,eL,nA,rH,jg,iF,cQ,List.length_nil,Nat.reduceAdd,Nat.reduceDiv,n0,n1,n2,bc,cu];unfold eC jd mS;by_cases c1:x.bR.length=0/\x.bp.length=0/\x.bQ.length=0
 ·rw[fS c1];by_cases c2:x.bZ.length=0
  ·have f2:¬((0:Int)<(x.bZ.length:Int)):=by omega
   by_cases c3:x.first.length=0/\x.dq.length=0
   ·rw[fS c3];simp only[f2,cy,cL,aE,ar c1,ar c2,ar c3];rfl
   ·rw[fR c3];simp only[f2,cy,cL,fu,ay,aE,ar c1,ar c2,ai c3];rfl
  ·have f2:((0:Int)<(x.bZ.length:Int)):=by omega
   by_cases c3:x.first.length=0/\x.dq.length=0
   ·rw[fS c3];simp only[f2,bn,cL,ay,aE,ar c1,ai c2,ar c3];rfl
   ·rw[fR c3];simp only[f2,bn,cL,fu,ay,aE,ar c1,ai c2,ai c3];rfl
 ·rw[fR c1];have tk:∀r:cF,gd (.cons 34665 (je x) r)=.int .i64 34665::dT (je x)::dS (je x)::dB (je x)::gd r:=by
   intro r;show Value.int .i64 34665::(dK (je x)++gd r)=_;rw[pM];rfl
  have td:∀(t:List aI)(r:cF)(b:List UInt8),dK (.mk t r b)=[az t,ae (cm r) (gd r),aj b]:=λ_ _ _=>rfl;by_cases c2:x.bZ.length=0
  ·have f2:¬((0:Int)<(x.bZ.length:Int)):=by omega
   by_cases c3:x.first.length=0/\x.dq.length=0
   ·rw[fS c3];simp only[f2,cy,cL,fu,ay,aE,ai c1,ar c2,ar c3];unfold dM aC;simp only[ff,nz,td,tk];rfl
   ·rw[fR c3];simp only[f2,cy,fu,ay,aE,ai c1,ar c2,ai c3];unfold dM aC;simp only[ff,nz,td,tk];rfl
  ·have f2:((0:Int)<(x.bZ.length:Int)):=by omega
   by_cases c3:x.first.length=0/\x.dq.length=0
   ·rw[fS c3];simp only[f2,bn,cL,fu,ay,aE,ai c1,ai c2,ar c3];unfold dM aC;simp only[ff,nz,td,tk];rfl
   ·rw[fR c3];simp only[f2,bn,fu,ay,ai c1,ai c2,ai c3];unfold dM aC;simp only[ff,nz,td,tk];rfl
end
section
variable{m:Nat}
theorem aet{t:aI}(h:dW t.ty t.au t.data=true)(hd:t.data.length<=m):bY t.ty t.au<=m:=by
 have:=yX h
 grind
theorem Bg:∀(l:List aI)(e:Nat),(∀t∈l,dW t.ty t.au t.data=true/\t.data.length<=m)->ck e l<=e+l.length*(m+1)
 |[],e,_=>by simp[ck]
 |t::l,e,h=>by
  have h1:=h t (by simp);have ho:=aet h1.1 h1.2;have ih:=λe=>Bg l e λt ht=>h t (by grind);have hev:=vR e;rw[cQ,QS]
  grind
theorem ahM(no:Nat)(l:List aI)(e:Nat):(cX no e l).length<=l.length:=OP no l e
mutual
theorem QP{sh:List aV}{m B:Nat}(hB:24*m+40+m*(m+1)+m<=B):∀(d:aO)(s e:Nat),cK sh s d=true->gV m d->bq e d<=e+dt d*B
 | .mk tags subs blob,s,e,hh,hd=>by
  have hd:tags.length<=m/\cm subs<=m/\blob.length<=m/\(∀t∈tags,t.data.length<=m)/\gW m subs:=hd;simp[cK] at hh;obtain⟨⟨n1,n2⟩,ht,hbl,hr,hss⟩:=hh;have htg:∀t∈tags,dW t.ty t.au t.data=true/\t.data.length<=m:=λt h=>by simp[jI] at ht;simp_all
  have hN:bF (.mk tags subs blob)<=2*m+2:=by
   show tags.length+cm subs+(if blob.length=0 then 0 else 2)<=2*m+2
   grind
  have h1:=Bg tags (aD e+(6+12*bF (.mk tags subs blob))) htg;have h2:=QR hB subs (aJ sh s) (ck (aD e+(6+12*bF (.mk tags subs blob))) tags) hss hd.2.2.2.2;have h3:=vR e;have h4:=vR (eu (ck (aD e+(6+12*bF (.mk tags subs blob))) tags) subs);have h5:tags.length*(m+1)<=m*(m+1):=aiT _ hd.1;rw[dt,kb,bq]
  grind
theorem QR{sh:List aV}{m B:Nat}(hB:24*m+40+m*(m+1)+m<=B):∀(r:cF)(S:aV)(e:Nat),iB sh S r=true->gW m r->eu e r<=e+ia r*B
 | .nil,S,e,_,_=>by unfold eu;omega
 | .cons t d r,S,e,hh,hd=>by simp[iB] at hh;have h1:=QP hB d _ e hh.2.1 hd.1;have h2:=QR hB r S (bq e d) hh.2.2 hd.2;rw[eu,ia,kb];omega
end
mutual
theorem Wz{m:Nat}:∀(d:aO)(no e:Nat),gV m d->(fF no e d).length<=dt d*(m+2)
 | .mk tags subs blob,no,e,hd=>by
  have hd:tags.length<=m/\cm subs<=m/\blob.length<=m/\(∀t∈tags,t.data.length<=m)/\gW m subs:=hd;have h1:=ahM no tags (aD e+(6+12*bF (.mk tags subs blob)));have h2:=WB subs (no+1) (ck (aD e+(6+12*bF (.mk tags subs blob))) tags) hd.2.2.2.2;rw[dt,fF]
  grind
theorem WB{m:Nat}:∀(r:cF)(no e:Nat),gW m r->(jU no e r).length<=ia r*(m+2)
 | .nil,no,e,_=>by unfold jU;simp
 | .cons t d r,no,e,hd=>by have h1:=Wz d no e hd.1;have h2:=WB r (no+dt d) (bq e d) hd.2;rw[jU,ia,kb,aR];omega
end
variable{sh:List aV}
theorem QO{B:Nat}(hB:24*m+40+m*(m+1)+m<=B):∀(ds:List aO)(s:Int)(e:Nat),fK sh s ds=true->nK m ds->ee e ds<=e+iT ds*B
 |[],s,e,_,_=>by simp[ee]
 |d::ds,s,e,hh,hd=>by simp[fK] at hh;have h1:=QP hB d _ e hh.2.1 (hd d (by simp));have h2:=QO hB ds _ (bq e d) hh.2.2 λd h=>hd d (by grind);rw[ee,iT,kb];omega
theorem OM:∀(ds:List aO)(no e:Nat),nK m ds->(jH no e ds).length<=iT ds*(m+2)
 |[],no,e,_=>by simp[jH]
 |d::ds,no,e,hd=>by have h1:=Wz d no e (hd d (by simp));have h2:=OM ds (no+dt d) (bq e d) λd h=>hd d (by grind);rw[jH,iT,kb,aR];omega
theorem Kg:∀{ds:List aO}{s:Int},fK sh s ds=true->∀d∈ds,∃s,cK sh s d=true
 |[],_,_,d,h=>by grind
 |a::ds,s,hh,d,h=>by
  simp[fK] at hh;rcases cj.1 h with rfl|h
  ·grind
  ·exact Kg hh.2.2 d h
structure eW(w:Nat):Prop where
 hand:Hand w
 jP:200000<=w
variable{ds:List aO} {o:Int} {w:Nat}
theorem O7(W:eW w)(ok:iu sh)(tZ:ri w (cw sh)=some true)(s0:0<sh.length)(bG:∀s,s<sh.length->(aJ sh s).bG.length<=10000)(ho:o=1\/o=2)(ca:ds≠[])(ik:ds.length<=10000)(hd:nK 10000 ds)(jA:kj ds<=10)(hc:iT ds<=8)(hh:fK sh 0 ds=true):oK w 10000 sh o ds:=by have hb:=W.jP;have h1:=QO (B:=100360040) (by simp) ds 0 8 hh hd;have h2:=OM ds 0 8 hd;have h5:(gK ⟨o,ds⟩).length=(jH 0 8 ds).length+1:=rfl;exact⟨(by simp),(by omega),(by omega),ok,tZ,s0,bG,ho,ca,ik,hd,by omega,hh,by omega,by omega,by omega,by omega,(W.hand.may o ds (by omega) (λd hd=>by obtain⟨s,h⟩:=Kg hh d hd;exact⟨sh,s,h⟩) (by omega))⟩
theorem Re(s:Nat)(hs:s<da.length):(aJ da s).bG.length<=10000:=by
 have:s=0\/s=1\/s=2\/s=3\/s=4:=by simp[da] at hs;omega
 rcases this with rfl|rfl|rfl|rfl|rfl<;>decide
theorem afE{l:List aI}{x:aI}(h:∀t∈l,t.data.length<=m)(hx:x.data.length<=m):∀t∈jG l x,t.data.length<=m:=by intro t ht;rcases VD ht with rfl|ht<;>grind
variable{x:di}
theorem aib(h:jL x m)(h1:1<=m):gV (m+1) (je x)/\dt (je x)<=2/\fA (je x)<=2:=by
 obtain⟨⟨r0,r2,r3,r4,r1⟩,d0,d2,d3,d4,d1,hmk,hth⟩:=h;unfold je;have hl:=VC x.bR (iY x.bQ);have hsub:gW (m+1) (if x.bp.length=0 then .nil else .cons 40965 (.mk x.bp .nil []) .nil)/\cm (if x.bp.length=0 then .nil else .cons 40965 (.mk x.bp .nil []) .nil)<=1/\ia (if x.bp.length=0 then .nil else .cons 40965 (.mk x.bp .nil []) .nil)<=1/\jw (if x.bp.length=0 then .nil else .cons 40965 (.mk x.bp .nil []) .nil)<=1:=by
  split
  ·exact⟨trivial,by decide,by decide,by decide⟩
  ·refine⟨⟨⟨by omega,by show 0<=_;omega,by show 0<=_;omega,λt ht=>by have:=d4 t ht;omega,trivial⟩,trivial⟩,by simp[cm],by simp[ia,dt],by simp[jw,fA]⟩
 refine⟨⟨?_,by omega,by show 0<=_;omega,?_,hsub.1⟩,by rw[dt];omega,by rw[fA];omega⟩
 ·grind
 ·split
  ·grind
  ·exact afE (λt ht=>by have:=d2 t ht;omega) (by show x.bQ.length<=_;omega)
theorem W9(h:jL x m)(h1:2<=m):nK (m+1) (eC x).eK/\iT (eC x).eK<=5/\kj (eC x).eK<=3/\(eC x).eK.length<=2:=by
 obtain⟨t1,t2,t3⟩:=aib h (by omega);obtain⟨⟨r0,r2,r3,r4,r1⟩,d0,d2,d3,d4,d1,hmk,hth⟩:=h;have hg:gW (m+1) (mS x)/\cm (mS x)<=1/\ia (mS x)<=1/\jw (mS x)<=1:=by
  unfold mS;split
  ·exact⟨trivial,by decide,by decide,by decide⟩
  ·exact⟨⟨⟨by omega,by show 0<=_;omega,by show 0<=_;omega,λt ht=>by have:=d3 t ht;omega,trivial⟩,trivial⟩,by simp[cm],by simp[ia,dt],by simp[jw,fA]⟩
 have hs:gW (m+1) (jd x)/\cm (jd x)<=2/\ia (jd x)<=3/\jw (jd x)<=2:=by
  unfold jd;split
  ·exact⟨hg.1,by omega,by omega,by omega⟩
  ·refine⟨⟨t1,hg.1⟩,by rw[cm];omega,by rw[ia];omega,by rw[jw];omega⟩
 have h0:gV (m+1) (.mk x.cP (jd x) []):=⟨by omega,by omega,by show 0<=_;omega,λt ht=>by have:=d0 t ht;omega,hs.1⟩;unfold eC;by_cases c:x.first.length=0/\x.dq.length=0
 ·simp only[ar c];refine⟨λd hd=>?_,by simp only[iT,dt];omega,by simp only[kj,fA];omega,by simp⟩;rw[kC.1 hd];exact h0
 ·simp only[ai c];refine⟨λd hd=>?_,by simp only[iT,dt,ia];omega,by simp only[kj,fA,jw];omega,by simp⟩;simp_all;rcases hd with rfl|rfl
  ·exact h0
  ·exact(⟨by omega,by show 0<=_;omega,by omega,λt ht=>by have:=d1 t ht;omega,trivial⟩)
theorem gV.mono{m':Nat}(h:m<=m'):∀{d:aO},gV m d->gV m' d:=by
 have key:(∀d:aO,gV m d->gV m' d)/\∀r:cF,gW m r->gW m' r:=by
  refine⟨λd=>?_,λr=>?_⟩
  ·exact aO.rec (motive_2:=λr=>gW m r->gW m' r) (λtags subs blob ih hd=>by have hd:tags.length<=m/\cm subs<=m/\blob.length<=m/\(∀t∈tags,t.data.length<=m)/\gW m subs:=hd;exact⟨by omega,by omega,by omega,λt ht=>by have:=hd.2.2.2.1 t ht;omega,ih hd.2.2.2.2⟩) (λ_=>trivial) (λt d r i1 i2 hd=>⟨i1 hd.1,i2 hd.2⟩) d
  ·exact cF.rec (motive_1:=λd=>gV m d->gV m' d) (λtags subs blob ih hd=>by have hd:tags.length<=m/\cm subs<=m/\blob.length<=m/\(∀t∈tags,t.data.length<=m)/\gW m subs:=hd;exact⟨by omega,by omega,by omega,λt ht=>by have:=hd.2.2.2.1 t ht;omega,ih hd.2.2.2.2⟩) (λ_=>trivial) (λt d r i1 i2 hd=>⟨i1 hd.1,i2 hd.2⟩) r
 grind
theorem Ep(W:eW w)(h:jL x 9000)(hc:hU x=0):oK w 10000 da x.order (eC x).eK:=by obtain⟨a,b,c,d⟩:=W9 h (by simp);have hr:=h.rows;refine O7 W JX (ags (by have:=W.jP;omega)) (by decide) Re (tM hc).1 (by simp[eC]) (by omega) (λd hd=>(a d hd).mono (by simp)) (by omega) (by omega) (Xa hc ?_);unfold qX at hr⊢;omega
theorem aii(x:di):(⟨x.order,(eC x).eK⟩:lR)=eC x:=rfl
theorem Nq(w:Nat):Cv w=some (cw da):=rfl
theorem ahs(W:eW w)(h:jL x 9000):Ii w x.order (az x.cP) (az x.bR) (az x.bZ) (az x.bp) (az x.first) (aj x.bQ) (aj x.dq)=some (if hU x=0 then(aj (fe (eC x) da),0) else(ae 0 [],hU x)):=by
 have hb:=W.jP;unfold Ii;rw[VK W.hand h (by simp) (by omega)];by_cases hc:hU x=0
 ·rw[ar hc,ar hc];rw[Nq];simp;rw[VL (Ep W h hc)];rfl
 simp_all
theorem ahr(W:eW w)(h:jL x 9000):Ih w x.order (az x.cP) (az x.bR) (az x.bZ) (az x.bp) (az x.first) (aj x.bQ) (aj x.dq)=some (if hU x=0 then(65527 -(gJ (eC x):Int),0) else(0,hU x)):=by
 have hb:=W.jP;unfold Ih;rw[VK W.hand h (by simp) (by omega)];simp;by_cases hc:hU x=0
 ·rw[ar hc,ar hc];have T:=Ep W h hc;have:=T.he;rw[T.cA];simp;rw[aN (by omega) (by omega)];rfl
 grind
theorem Ql(a:List Int)(b:List UInt8)(h:a=b.map λc=>(c.toNat:Int)):bd a=b.map aX:=by subst h;unfold bd;rw[List.map_map];rfl
theorem Of(W:eW w)(h:jL x 9000):CH w x.order (az x.cP) (az x.bR) (az x.bZ) (az x.bp) (az x.first) (aj x.bQ) (aj x.dq)=some (match iy x with| .ok b=>(aj b,0)| .error e=>(ae 0 [],e)):=by
 unfold CH AO iy;rw[ahr W h,ahs W h];by_cases hc:hU x=0
 case neg=>simp_all
 rw[ar hc,ar hc,ai (by omega)];simp only[aA,bc];by_cases h2:65533<6+gJ (eC x)
 ·have:(65527:Int) -(gJ (eC x):Int)<0:=by omega
  simp_all
 ·have h3:¬((65527:Int) -(gJ (eC x):Int)<0):=by omega
  simp only[h3,cy,ai h2];unfold vF;have hl:=Ah (Ep W h hc).hh;have hpos:8<=gJ (eC x):=pO _ _;simp only[show ak 0 0=true from rfl];rw[vJ];have r2:((fe (eC x) da).map λb=>(b.toNat:Int)).isEmpty=false:=by
   cases q:fe (eC x) da with
   |nil=>rw[q] at hl;simp at hl;omega
   |cons _ _=>rfl
  simp only[(show aK ((fe (eC x) da).map λb=>(b.toNat:Int)).length=true from by simp;omega),r2,ay,aE];rw[Ql _ (mR++fe (eC x) da) (by rw[jZ];rfl),vK _ _ (by simp[mR];omega)]
theorem VM(T:oK w 10000 sh o ds):wP w o (dM ds) (cw sh)=some (if 65533<4+gJ ⟨o,ds⟩ then(ae 0 [],7) else(aj (ko++fe ⟨o,ds⟩ sh),0)):=by
 unfold wP sa;rw[VL T];have hl:(fe ⟨o,ds⟩ sh).length=gJ ⟨o,ds⟩:=Ah T.hh;have he:gJ ⟨o,ds⟩<=1000000000:=T.he;have hpos:8<=gJ ⟨o,ds⟩:=pO _ _;simp only[aA,show ak 0 0=true from rfl];rw[vJ];have r2:((fe ⟨o,ds⟩ sh).map λb=>(b.toNat:Int)).isEmpty=false:=by
  cases q:fe ⟨o,ds⟩ sh with
  |nil=>grind
  |cons _ _=>rfl
 simp only[eD,hl,(show aK (gJ ⟨o,ds⟩)=true from by simp;omega),r2,ay,aE,lU,qI];split
 ·rfl
 ·rw[Ql _ (ko++fe ⟨o,ds⟩ sh) (by rw[jZ];rfl),vK _ _ (by simp[ko];omega)]
end
section
theorem Nc(w:Nat)(m:Int):zw w m=some (iw m):=by
 unfold zw iw;simp
 grind
theorem VY(w:Nat)(m:Int):zH w m=some (oy m):=by
 unfold zH oy;by_cases h1:m<208
 ·have:¬(208<=m/\m<=215):=by omega
  simp_all
 ·by_cases h2:m<216
  ·have:(208<=m/\m<=215):=by omega
   simp_all
  ·have:¬(208<=m/\m<=215):=by omega
   simp[h2,this]
theorem VO(w:Nat)(m:Int):Cw w m=some (kL m):=by
 unfold Cw kL;rw[Nc,VY];simp
 grind
theorem Jb{b:UInt8}:ah IntKind.i64 (b.toNat:Int)=(b.toNat:Int):=by have:=b.toNat_lt;exact aN (by simp) (by omega)
variable{w:Nat}
theorem aih(l:List UInt8)(hl:l.length<2^60):CA w (aj l)=some (match l.getLast? with|some b=>if b=255 then 1 else 0|none=>0):=by
 unfold CA;by_cases h:l.length=0
 ·rw[mf h];rfl
 ·have e1:((0:Int)<(l.length:Int)):=by omega
  simp_all;rw[aN (by omega) (by omega),lk (by omega),show((l.length:Int) -1).toNat=l.length -1 by omega,pV (show l.length -1<l.length by omega)];simp;have hg:l.getLast? =some l[l.length -1]:=by rw[List.getLast?_eq_getElem?,dD (by omega)]
  rw[hg];simp only;by_cases h5:l[l.length -1]=255
  ·rw[ar h5,ar (by rw[h5];rfl)]
  ·rw[ai h5,ai (by intro q;exact h5 (nC.1 (by have:(255:UInt8).toNat=255:=rfl;omega)))]
theorem VN(l:List UInt8)(hl:l.length<2^60)(hw:l.length<w):zx w (aj l)=some (fE l:Int):=by
 have key:∀(z:Value->Int->Option Int)(F:(Value->Int->Option Int)->Value->Int->Option Int)(hF:F=λ(x3:Value->Int->Option Int)(x4:Value)(x5:Int)=>ax x4 λ(x6:Nat)=>bif aq (ah IntKind.i64 (x5.add 1)) (Int.ofNat x6) then aG x5 λ(x7:Nat)=>aQ 1 x7 x4 λ(x8:List Value)=>ag x8 λ(x9:Value)(x10:List Value)=>aw IntKind.u8 x9 λ(x11:Int)=>bif ak x11 255 then aG (ah IntKind.i64 (x5.add 1)) λ(x12:Nat)=>aQ 1 x12 x4 λ(x13:List Value)=>ag x13 λ(x14:Value)(x15:List Value)=>aw IntKind.u8 x14 λ(x16:Int)=>bif !ak x16 0 then aG (ah IntKind.i64 (x5.add 1)) λ(x17:Nat)=>aQ 1 x17 x4 λ(x18:List Value)=>ag x18 λ(x19:Value)(x20:List Value)=>aw IntKind.u8 x19 λ(x21:Int)=>ob (zH w (ah IntKind.i64 x21)) λ(x22:Bool)=>bif !x22 then some x5 else x3 x4 (ah IntKind.i64 (x5.add 1)) else x3 x4 (ah IntKind.i64 (x5.add 1)) else x3 x4 (ah IntKind.i64 (x5.add 1)) else ax x4 λ(x23:Nat)=>ob (CA w x4) λ(x24:Int)=>some (ah IntKind.i64 ((Int.ofNat x23).sub x24))),
  ∀(d i v:Nat),i+d+1=l.length->d<v->lp z F v (aj l) (i:Int)=some ((i+fE (l.drop i):Nat):Int):=by
  intro z F hF d;induction d with
  |zero=>
   intro i v hi hv;rw[ef z F (by omega),hF];simp only[dU,cR];rw[aN (by omega) (by omega)];have e1:¬((i:Int)+1<(l.length:Int)):=by omega
   have hlt:i<l.length:=by omega
   have hll:l.drop i=[l[i]]:=by rw[dG hlt,xm (by omega)]
   have hg:l.getLast? =some l[i]:=by rw[List.getLast?_eq_getElem?,show l.length -1=i by omega,dD hlt]
   simp only[bc,cu,e1,cy,aE];rw[aih l hl,hll,hg];simp only[aA,iV];by_cases h5:l[i]=255
   ·rw[ar h5,h5,afz,aN (by omega) (by omega)]
    congr 1;omega
   ·rw[ai h5,Cl h5,aN (by omega) (by omega)]
    congr 1
    show(l.length:Int) -0=((i+(0+1):Nat):Int);omega
  |succ d ih=>
   intro i v hi hv;have hlt:i<l.length:=by omega
   have hlt2:i+1<l.length:=by omega
   have hll:l.drop i=l[i]::l[i+1]::l.drop (i+2):=by rw[dG hlt,dG hlt2]
   have hll2:l.drop (i+1)=l[i+1]::l.drop (i+2):=dG hlt2;have ih:=ih (i+1) (v -1) (by omega) (by omega);rw[hll2] at ih;rw[hll,ef z F (by omega)];generalize lp z F (v -1)=g at ih⊢;rw[hF];have e1:((i:Int)+1<(l.length:Int)):=by omega
   simp only[dU,cR];rw[aN (by omega) (by omega)];simp only[bc,cu,e1,bn,ay,ct];rw[show(i:Int)+1=((i+1:Nat):Int) by omega];simp only[ct];rw[pV hlt,pV hlt2];simp only[bN,rT,cD,VY,aA];by_cases h5:l[i]=255
   ·have e5:((l[i].toNat:Int)=255):=by rw[h5];rfl
    rw[h5,MZ] at*;simp only[show(((255:UInt8).toNat:Int)=255) from rfl,bn,ay];by_cases h6:l[i+1]=0
    ·have e6:((l[i+1].toNat:Int)=0):=by rw[h6];rfl
     have:¬(l[i+1]≠0/\oy (l[i+1].toNat:Int)=false):=λq=>q.1 h6;rw[ai this];simp only[e6,bn,cL,aE];rw[ih]
     congr 2;omega
    ·have e6:¬((l[i+1].toNat:Int)=0):=by
      intro q;exact h6 (nC.1 (by have:(0:UInt8).toNat=0:=rfl;omega))
     simp only[e6,cy,fu,ay];rw[pV hlt2];simp only[bN,rT,Jb];cases hr:oy (l[i+1].toNat:Int) with
     |true=>
      have:¬(l[i+1]≠0/\true=false):=λq=>by cases q.2
      rw[ai this];simp only[cL,aE];rw[ih]
      congr 2;omega
     |false=>rw[ar ⟨h6,rfl⟩];rfl
   ·have e5:¬((l[i].toNat:Int)=255):=by
     intro q;exact h5 (nC.1 (by have:(255:UInt8).toNat=255:=rfl;omega))
    rw[Cl h5];simp only[e5,cy,aE];rw[ih]
    congr 2;omega
 by_cases h0:l.length=0
 ·rw[mf h0];unfold zx;rw[ef _ _ (by omega)];rfl
 ·unfold zx;refine iq (key _ _ rfl (l.length -1) 0 w (by omega) (by omega)) ?_;rw[eL,fg]
def cN(s:bE):List Value:=[.int .i64 s.bX,aj s.data,aj s.scan]
theorem ja(s:bE):(cN s).length=3:=rfl
def dC(l:List bE):Value:=aC cN l
theorem EZ(w:Nat)(n:Int)(b:List UInt8)(p:Nat)(hb:b.length<2^60)(hp:p<=b.length):wQ w n (aj b) (p:Int)=some (if((b.length -p:Nat):Int)<n then .inr ((b.length:Int),3,aj b,(p:Int)) else .inl (aj b,(p:Int))):=by
 unfold wQ;simp only[dU,iV,cu];rw[aN (by omega) (by omega)];simp
 grind
theorem afP(w:Nat)(b:List UInt8)(p:Nat)(hb:b.length<2^60)(hp:p<=b.length):uE w (aj b) (p:Int)=some (match b.drop p with
 |[]=>.inr ((b.length:Int),3,aj b,(p:Int))
 |[x]=>if x=255 then .inr ((b.length:Int),3,aj b,(p:Int)) else .inr ((p:Int),2,aj b,(p:Int))
 |x::m::_=>if x≠255 then .inr ((p:Int),2,aj b,(p:Int)) else if((decide (p=0)!=decide (m=216))||!(iw m.toNat||kL m.toNat))=true then .inr ((p:Int),2,aj b,(p:Int)) else .inl ((m.toNat:Int),aj b,((p+2:Nat):Int))):=by
 unfold uE Gv;rw[EZ w 1 b p hb hp];simp only[aA];by_cases h1:p<b.length
 case neg=>rw[ar (by omega),xm (by omega)];rfl
 rw[ai (by omega),dG h1];simp only[iD,ct];rw[pV h1];simp only[bN,rT,cD];by_cases h2:b[p]=255
 case neg=>
  have e2:¬((b[p].toNat:Int)=255):=by intro q;exact h2 (nC.1 (by have:(255:UInt8).toNat=255:=rfl;omega))
  simp only[e2,cy,fu,ay];generalize b.drop (p+1)=r;cases r with
  |nil=>simp only;rw[ai h2]
  |cons m r=>simp only;rw[ar h2]
 have e2:((b[p].toNat:Int)=255):=by rw[h2];rfl
 simp only[e2,bn];rw[EZ w 2 b p hb hp];simp only[aA];by_cases h3:p+1<b.length
 case neg=>rw[ar (by omega),xm (show b.length<=p+1 by omega),h2];simp
 rw[ai (by omega),dG h3,h2];simp only[iD,cR,ne_eq];rw[aN (by omega) (by omega),show(p:Int)+1=((p+1:Nat):Int) by omega];simp only[ct];rw[pV h3];simp only[bN,rT,Jb,VO];generalize b[p+1]=m;have hp0:decide ((p:Int)=0)=decide (p=0):=by rw[fO,bV,bV];omega
 have h216:decide ((m.toNat:Int)=216)=decide (m=216):=by
  rw[fO,bV,bV];constructor
  ·intro q;exact nC.1 (by have:(216:UInt8).toNat=216:=rfl;omega)
  ·rintro rfl;rfl
 have h217:decide ((m.toNat:Int)=217)=decide (m=217):=by
  rw[fO,bV,bV];constructor
  ·intro q;exact nC.1 (by have:(217:UInt8).toNat=217:=rfl;omega)
  ·rintro rfl;rfl
 have hal:iw (m.toNat:Int)=(decide (m=216)||decide (m=217)):=by rw[<-h216,<-h217];unfold iw;simp
 rw[hp0,h216,h217,hal,aN (by omega) (by omega)];by_cases c0:p=0
 ·by_cases c1:m=216
  ·subst c1;simp[c0]
  ·simp[c0,c1]
 ·by_cases c1:m=216
  ·subst c1;simp[c0]
  ·by_cases c2:m=217
   ·subst c2;simp[c0]
   ·cases kL (m.toNat:Int)<;>simp[c0,c1,c2]
theorem abx(b:List UInt8)(p:Nat)(h:p+1<b.length):oR b p 2 2=some ((b[p].toNat*256+b[p+1].toNat:Nat):Int):=by
 have:=Bq (l:=b) (p:=p) (.inr (.inl rfl)) (.inr rfl) (by omega);rw[show((2:Nat):Int)=2 from rfl] at this;rw[this];have:gm b p 2 2=[b[p],b[p+1]]:=by unfold gm;rw[dG (by omega),dG (show p+1<b.length by omega)];rfl
 rw[this];unfold gF;simp
theorem afO(m:Int)(b:List UInt8)(p:Nat)(hb:b.length<2^29)(hp:p<=b.length)(hw:b.length+10<w):uD w m (aj b) (p:Int)=some (if iw m=true then .inl (m,aj [],aj [],aj b,(p:Int)) else match b.drop p with
 |x::y::_=>if x.toNat*256+y.toNat<2 then .inr ((p:Int),2,aj b,(p:Int)) else if b.length -p<x.toNat*256+y.toNat then .inr ((b.length:Int),3,aj b,(p:Int)) else
  .inl (m,aj ((b.drop (p+2)).take (x.toNat*256+y.toNat -2)),aj ((b.drop (p+(x.toNat*256+y.toNat))).take (if m=218 then fE (b.drop (p+(x.toNat*256+y.toNat))) else 0)),aj b,((p+(x.toNat*256+y.toNat)+(if m=218 then fE (b.drop (p+(x.toNat*256+y.toNat))) else 0):Nat):Int))
 |_=>.inr ((b.length:Int),3,aj b,(p:Int))):=by
 unfold uD;rw[Nc];simp only[aA];cases ha:iw m with
 |true=>rfl
 |false=>
 simp only[aE,mA,gN];rw[EZ w 2 b p (by omega) hp];simp only[aA];by_cases h3:p+1<b.length
 case neg=>
  rw[ar (by omega)];have hl:(b.drop p).length<=1:=by rw[dZ];omega
  split
  ·rename_i q;rw[q] at hl;simp at hl
  ·rfl
 rw[ai (by omega),dG (show p<b.length by omega),dG h3];simp only[iD];rw[GG (by omega) b (by omega) _ _ _ (by omega),abx b p h3];simp only[aA,bc];have hx:=b[p].toNat_lt;have hy:=b[p+1].toNat_lt;generalize hn:b[p].toNat*256+b[p+1].toNat=n;by_cases c1:n<2
 ·have:((n:Int)<2):=by omega
  simp_all
 have e4:¬((n:Int)<2):=by omega
 simp only[e4,cy,aE,ai c1];rw[EZ w (n:Int) b p (by omega) hp];simp only[aA];by_cases c2:b.length -p<n
 ·have:((b.length -p:Nat):Int)<(n:Int):=by omega
  rw[ar this,ar c2];rfl
 rw[ai (by omega),ai c2];simp only[iD,cR,dU];rw[aN (n:=(p:Int)+(n:Int)) (by omega) (by omega),aN (n:=(p:Int)+2) (by omega) (by omega),show(p:Int)+(n:Int)=((p+n:Nat):Int) by omega,show(p:Int)+2=((p+2:Nat):Int) by omega];have e6:p+n<=b.length:=by omega
 have e7:p+2<=p+n:=by omega
 simp only[ct,gu,e6,e7,aB,bn,kU,ay];rw[pL b e6,show p+n -(p+2)=n -2 by omega,rV w _ (by rw[dH,dZ];omega)];simp only[aA,cD];by_cases c3:m=218
 ·simp only[c3,bn,ay,gj];rw[pL b (aB _),gh (by rw[dZ];omega),VN _ (by rw[dZ];omega) (by rw[dZ];omega)];simp only[aA];have hs:=Gw (b.drop (p+n));rw[dZ] at hs;rw[aN (by omega) (by omega),show((p+n:Nat):Int)+(fE (b.drop (p+n)):Int)=((p+n+fE (b.drop (p+n)):Nat):Int) by omega];have e8:p+n+fE (b.drop (p+n))<=b.length:=by omega
  have e9:p+n<=p+n+fE (b.drop (p+n)):=by omega
  simp only[ct,e8,e9,bn,kU,ay];rw[pL b e8,Dj,rV w _ (by rw[dH,dZ];omega)];simp only[aA]
 ·simp_all;rfl
end
section
variable{w:Nat}
theorem step_eq{β:Type}(b:List UInt8)(p:Nat)(hb:b.length<2^29)(hp:p<=b.length)(hw:b.length+10<w)(G:Int×Value×Value×Value×Int->Option β)(E:Int×Int×Value×Int->Option β):
 match kv (decide (p=0)) (b.drop p) with
 | .short=>∃q,(ob (uE w (aj b) (p:Int)) λx14=>dk x14 (λx15=>ob (uD w x15.fst x15.snd.fst x15.snd.snd) λx16=>dk x16 G E) E)=E ((b.length:Int),3,aj b,q)
 | .form k=>∃q,(ob (uE w (aj b) (p:Int)) λx14=>dk x14 (λx15=>ob (uD w x15.fst x15.snd.fst x15.snd.snd) λx16=>dk x16 G E) E)=E (((p+k:Nat):Int),2,aj b,q)
 | .last s t=>∃q:Nat,(ob (uE w (aj b) (p:Int)) λx14=>dk x14 (λx15=>ob (uD w x15.fst x15.snd.fst x15.snd.snd) λx16=>dk x16 G E) E)=G (s.bX,aj s.data,aj s.scan,aj b,(q:Int))/\b.drop q=t/\p+2<=q/\q<=b.length/\s.bX=217
 | .more s t=>∃q:Nat,(ob (uE w (aj b) (p:Int)) λx14=>dk x14 (λx15=>ob (uD w x15.fst x15.snd.fst x15.snd.snd) λx16=>dk x16 G E) E)=G (s.bX,aj s.data,aj s.scan,aj b,(q:Int))/\b.drop q=t/\p+2<=q/\q<=b.length/\s.bX≠217:=by
 rw[afP w b p (by omega) hp];have hlen:(b.drop p).length=b.length -p:=dZ;have hd2:b.drop (p+2)=(b.drop p).drop 2:=by rw[List.drop_drop]
 generalize hr:b.drop p=r at hlen hd2;cases r with
 |nil=>exact⟨_,rfl⟩
 |cons x r=>
  cases r with
  |nil=>
   dsimp only[kv];by_cases h1:x=255
   ·simp_all;exact⟨_,rfl⟩
   ·simp_all;exact⟨_,rfl⟩
  |cons m t=>
   have h2:p+2<=b.length:=by simp at hlen;omega
   dsimp only[kv];by_cases h1:x=255
   case neg=>have h1':x≠255:=h1;simp_all;exact⟨_,rfl⟩
   have h1':¬(x≠255):=λq=>q h1;simp only[ai h1'];by_cases h3:((decide (p=0)!=decide (m=216))||!(iw m.toNat||kL m.toNat))=true
   ·simp_all;exact⟨_,rfl⟩
   simp only[ai h3,aA,iD];have hdt:b.drop (p+2)=t:=hd2;by_cases h4:m=217
   ·subst h4;have:iw ((217:UInt8).toNat:Int)=true:=rfl;exact⟨p+2,rfl,hdt,aB _,h2,by first|rfl|trivial⟩
   simp only[ai h4];by_cases h5:m=216
   ·subst h5;have:iw ((216:UInt8).toNat:Int)=true:=rfl;exact⟨p+2,rfl,hdt,aB _,h2,by decide⟩
   simp only[ai h5];have hal:iw (m.toNat:Int)=false:=by
    unfold iw;rw[fR]
    rintro (e|e)
    ·exact h5 (nC.1 (by have:(216:UInt8).toNat=216:=rfl;omega))
    ·exact h4 (nC.1 (by have:(217:UInt8).toNat=217:=rfl;omega))
   have h218:((m.toNat:Int)=218)=(m=218):=by
    apply propext;constructor
    ·intro q;exact nC.1 (by have:(218:UInt8).toNat=218:=rfl;omega)
    ·rintro rfl;rfl
   have hm217:(m.toNat:Int)≠217:=by intro q;exact h4 (nC.1 (by have:(217:UInt8).toNat=217:=rfl;omega))
   rw[afO _ b (p+2) hb h2 hw,hdt];simp only[hal,mA,gN,h218,aA];have htl:t.length=b.length -(p+2):=by rw[<-hdt,dZ]
   cases t with
   |nil=>simp only[OY];exact⟨_,rfl⟩
   |cons a t=>
    cases t with
    |nil=>simp only[OY];exact⟨_,rfl⟩
    |cons c t=>
     simp only;generalize a.toNat*256+c.toNat=n;by_cases c1:n<2
     ·simp only[ar c1,OY];exact⟨_,rfl⟩
     simp only[ai c1];by_cases c2:(a::c::t).length<n
     ·have c2':b.length -(p+2)<n:=by omega
      simp_all;exact⟨_,rfl⟩
     have c2':¬(b.length -(p+2)<n):=by omega
     simp only[ai c2,ai c2',iD];have e1:b.drop (p+2+n)=(a::c::t).drop n:=by rw[<-hdt,List.drop_drop]
     have e2:b.drop (p+2+2)=(a::c::t).drop 2:=by rw[<-hdt,List.drop_drop]
     rw[e1,e2];have hk:(if m=218 then fE ((a::c::t).drop n) else 0)<=b.length -(p+2+n):=by have:=Gw ((a::c::t).drop n);rw[<-e1,dZ] at this;rw[<-e1];split<;>omega
     refine⟨_,rfl,?_,by omega,by omega,hm217⟩;rw[<-List.drop_drop,e1]
theorem Ot(b:List UInt8)(hb:b.length<2^28)(hw:b.length+10<w):zS w (aj b)=some (match ofM b with| .ok l e=>(dC l,(e:Int),0,0)| .bad a e=>(ae 0 [],0,(a:Int),e)):=by
 have key:∀(f:Nat)(l:List bE)(p v:Nat),(b.drop p).length<f->p<=b.length->f+1<v->(p=0↔l=[])->(∀s,l.getLast? =some s->s.bX≠217)->l.length<=p->
  ∀(z:Int->Int->Int->Value->Int->List Value->R6)(F:(Int->Int->Int->Value->Int->List Value->R6)->Int->Int->Int->Value->Int->List Value->R6),(∀g a c d e k x,F g a c d e k x=(bif ak (Int.ofNat (x.length/3)) 0 then sF w e k x g a c d else aG (ah .i64 ((Int.ofNat (x.length/3)).sub 1)) λo=>bif Nat.beq 3 3&&(o*3).blt x.length then ag (List.drop (0+o*3+0) x) λp q=>aw .i64 p λr=>bif !ak r 217 then sF w e k x g a c d else bif ak k k then some (ae (x.length/3) x,k,0,0) else none else none))->
  lp z F v 0 0 0 (aj b) (p:Int) (l.flatMap cN)=some (match lG b.length f (decide (p=0)) (b.drop p) with| .ok l' e=>(dC (l++l'),(e:Int),0,0)| .bad a e=>(ae 0 [],0,(a:Int),e)):=by
  intro f;induction f with
  |zero=>intro l p v h;omega
  |succ f ih=>
   intro l p v h hp hv h0 hlast hlp z F hF;have ik:(b.drop p).length=b.length -p:=dZ;have hfl:(l.flatMap cN).length=l.length*3:=eJ ja l;have hr:aK (l.length*3)=true:=by simp;omega
   have hrefl:∀n:Int,ak n n=true:=λn=>by simp
   rw[ef z F (by omega),hF];have hst:=step_eq (w:=w) b p (by omega) hp hw (λk=>bif aK (l.flatMap cN).length&&(aK 1&&(List.take 3 (List.drop 0 [Value.int .i64 k.1,k.2.1,k.2.2.1])).length.beq 3) then lp z F (v -1) 0 0 0 k.2.2.2.1 k.2.2.2.2 (l.flatMap cN++List.take 3 (List.drop 0 [Value.int .i64 k.1,k.2.1,k.2.2.1])) else none) zn;have red:(bif ak (Int.ofNat ((l.flatMap cN).length/3)) 0 then sF w (aj b) p (l.flatMap cN) (lp z F (v -1)) 0 0 0 else aG (ah .i64 ((Int.ofNat ((l.flatMap cN).length/3)).sub 1)) λo=>bif Nat.beq 3 3&&(o*3).blt (l.flatMap cN).length then ag (List.drop (0+o*3+0) (l.flatMap cN)) λs q=>aw .i64 s λr=>bif !ak r 217 then sF w (aj b) p (l.flatMap cN) (lp z F (v -1)) 0 0 0 else bif ak p p then some (ae ((l.flatMap cN).length/3) (l.flatMap cN),p,0,0) else none else none)=sF w (aj b) p (l.flatMap cN) (lp z F (v -1)) 0 0 0:=by
    rw[hfl,lP _ (show 0<3 by decide)];by_cases q:l=[]
    ·subst q;rfl
    ·have hpos:0<l.length:=List.length_pos_iff.2 q;have e1:ak (Int.ofNat l.length) 0=false:=by simp;omega
     rw[e1,aE,iV,cu,aN (by omega) (by omega),lk (by omega),show((l.length:Int) -1).toNat=l.length -1 by omega];have e2:(Nat.beq 3 3&&((l.length -1)*3).blt (l.length*3))=true:=by simp;omega
     rw[e2,ay,show 0+(l.length -1)*3+0=(l.length -1)*3 by omega,pR ja,dG (show l.length -1<l.length by omega),ff];have tg:∀(s:bE)(r:List Value),cN s++r=.int .i64 s.bX::aj s.data::aj s.scan::r:=λ_ _=>rfl;simp only[tg,bN,cH];have hm:l[l.length -1].bX≠217:=hlast _ (by rw[List.getLast?_eq_getElem?,dD (by omega)]);have e3:(!ak l[l.length -1].bX 217)=true:=by simp[hm]
     rw[e3,ay]
   refine iq red ?_;clear red;unfold sF;unfold lG;generalize hs:kv (decide (p=0)) (b.drop p)=sr at hst;cases sr with
   |short=>obtain⟨q,e⟩:=hst;rw[e];unfold zn;simp only[hrefl,ay]
   |form k=>obtain⟨q,e⟩:=hst;rw[e];unfold zn;simp only[hrefl,ay];rw[ik,show b.length -(b.length -p)+k=p+k by omega]
   |last s t=>
    obtain⟨q,e,e1,e2,e3,e4⟩:=hst;rw[e];rw[hfl] at*;simp only[hr,show aK 1=true from rfl,eL,nA,rH,cQ,List.length_nil,fP];rw[show Nat.beq (0+1+1+1) 3=true from rfl,ay,ef z F (by omega),hF];have hfl2:(l.flatMap cN++[Value.int .i64 s.bX,aj s.data,aj s.scan])=(l++[s]).flatMap cN:=by rw[gq,ff];rfl
    rw[hfl2];have hfl3:((l++[s]).flatMap cN).length=(l.length+1)*3:=by rw[eJ ja,aR];rfl
    rw[hfl3,lP _ (show 0<3 by decide)];have e5:ak (Int.ofNat (l.length+1)) 0=false:=by simp;omega
    rw[e5,aE,iV,cu,aN (by omega) (by omega),lk (by omega),show(((l.length+1:Nat):Int) -1).toNat=l.length by omega];have e6:(Nat.beq 3 3&&(l.length*3).blt ((l.length+1)*3))=true:=by simp
    rw[e6,ay,show 0+l.length*3+0=l.length*3 by omega,pR ja,List.drop_left];have tg:∀(s:bE)(r:List Value),cN s++r=.int .i64 s.bX::aj s.data::aj s.scan::r:=λ_ _=>rfl;simp only[ff,tg,bN,cH,e4];rw[show(!ak 217 217)=false from rfl,aE,hrefl,ay];have e7:b.length -t.length=q:=by rw[<-e1,dZ];omega
    rw[e7]
    congr 1
    unfold dC aC;rw[aR];rfl
   |more s t=>
    obtain⟨q,e,e1,e2,e3,e4⟩:=hst;rw[e];rw[hfl] at*;simp only[hr,show aK 1=true from rfl,eL,nA,rH,cQ,List.length_nil,fP];rw[show Nat.beq (0+1+1+1) 3=true from rfl,ay];have hfl2:(l.flatMap cN++[Value.int .i64 s.bX,aj s.data,aj s.scan])=(l++[s]).flatMap cN:=by rw[gq,ff];rfl
    have hdq:(b.drop q).length=b.length -q:=dZ;have:=ih (l++[s]) q (v -1) (by omega) e3 (by omega) (by constructor;intro;omega;intro q;simp at q) (λs' h'=>by simp at h';rw[<-h'];exact e4) (by rw[aR];simp;omega) z F hF;rw[hfl2,this,e1];have hq0:decide (q=0)=false:=by simp;omega
    rw[hq0];cases lG b.length f false t with
    |ok l' e=>simp
    |bad a e=>rfl
 unfold zS ofM sF zn;refine iq (key (b.length+1) [] 0 w (by simp) (by omega) (by omega) (by simp) (λs h=>by simp at h) (by simp) _ _ (λ_ _ _ _ _ _ _=>rfl)) ?_;rfl
end
section
variable{w:Nat}
theorem M5(l:List bE)(p:bE->Bool)(P:Int->Value->Value->Option Bool)(hP:∀s∈l,P s.bX (aj s.data) (aj s.scan)=some (p s))(hl:l.length<2^40)(hw:l.length<w):
 (ax (dC l) λx1=>lp (λ_ (_ _:Int)=>none) (λx5 (x6:Value) (x7 x8:Int)=>bif aq x8 x7 then aG x8 λx9=>aQ 3 x9 x6 λx10=>ag x10 λx11 (x12:List Value)=>aw .i64 x11 λx13=>ag x12 λx14 (x15:List Value)=>ag x15 λx16 (_:List Value)=>ob (P x13 x14 x16) λx18=>bif x18 then some x8 else x5 x6 x7 (ah .i64 (x8.add 1)) else some (-1)) w (dC l) (Int.ofNat x1) 0)=some (db p l):=by
 refine mg l p (ev:=λi (g:Value->Int->Int->Option Int)=>g (aC cN l) l.length i) ?_ ?_ hw
 ·intro i g h;simp_all;rw[bW ja h];simp[(show∀(s:bE)(r:List Value),cN s++r=.int .i64 s.bX::aj s.data::aj s.scan::r fromλ_ _=>rfl)];rw[hP _ (dL h),aN (by omega) (by omega)];simp
 simp
theorem Kl{α:Type}(p:α->Bool)(l:List α):(!decide (db p l<0))=l.any p:=by
 have:=yF p l;cases h:l.any p with
 |true=>grind
 |false=>grind
theorem afM(l:List bE)(hl:l.length<2^40)(hw:l.length<w):GA w (dC l)=some (l.any λs=>s.bX==218):=by unfold GA Ns;rw[M5 l (λs=>s.bX==218) (GU w) (λs _=>by unfold GU;rw[cD];rfl) hl hw];simp[Kl]
theorem afN(w:Nat)(m:Int)(a b:Value):Cp w m a b=some (pC m):=by
 unfold Cp Nv pC;by_cases h1:m<224
 ·have:¬(224<=m/\m<=239):=by omega
  simp_all
 ·by_cases h2:m<240
  ·have:(224<=m/\m<=239):=by omega
   simp[h1,h2,this]
  ·have:¬(224<=m/\m<=239):=by omega
   simp[h2,this]
theorem afL(l:List bE)(hl:l.length<2^40)(hw:l.length<w):GB w (dC l)=some (l.any λs=>pC s.bX):=by unfold GB Nt;rw[M5 l (λs=>pC s.bX) (Cp w) (λs _=>afN w _ _ _) hl hw];simp[Kl]
theorem Fb(L:Nat):∀(f:Nat)(first:Bool)(r:List UInt8)(l:List bE)(e:Nat),lG L f first r=.ok l e->l.length<=f
 |0,_,_,_,_,h=>by cases h
 |f+1,first,r,l,e,h=>by
  unfold lG at h;split at h
  ·grind
  ·grind
  ·grind
  ·split at h
   ·rename_i q;cases h;have:=Fb L f _ _ _ _ q;simp_all
   grind
theorem Oo(b:List UInt8)(hb:b.length<2^28)(hw:b.length+10<w):zR w (aj b)=some (nW b):=by
 unfold zR M9 nW;rw[Ot b hb hw];cases h:ofM b with
 |bad a e=>
  have he:e≠0:=by
   have:∀(L f:Nat)(first:Bool)(r:List UInt8)(a:Nat)(e:Int),r.length<f->lG L f first r=.bad a e->e≠0:=by
    intro L f;induction f with
    |zero=>omega
    |succ f ih=>
     intro first r a e hr h
     unfold lG at h;split at h
     ·cases h;decide
     ·cases h;decide
     ·cases h
     ·rename_i s t hs;split at h
      ·cases h
      ·refine ih false t a e ?_ h;cases first with
       |true=>
        obtain⟨h1,h2⟩:=Vw hs;have hs2:2<=(dF s).length:=by unfold dF;split<;>simp<;>omega
        have:=bK List.length h2;rw[aR] at this;omega
       |false=>
        obtain⟨h1,h2⟩:=Vx hs;have hs2:2<=(dF s).length:=by unfold dF;split<;>simp<;>omega
        have:=bK List.length h2;rw[aR] at this;omega
   exact this _ _ _ _ _ _ (by omega) h
  simp_all
 |ok l e=>
  have hl:=Fb _ _ _ _ _ _ h;have he:=(Ti h).2.1;simp only[aA,dU,bc,cu];by_cases h1:e=b.length
  ·have e1:¬((b.length:Int)<(b.length:Int)):=by omega
   simp_all;rw[afM l (by omega) (by omega)];cases l.any (λs=>s.bX==218) with
   |false=>rfl
   |true=>
    simp;rw[afL l (by omega) (by omega)];simp only[aA]
    congr 1
    rw[List.not_any_eq_all_not]
  ·have e1:((e:Int)<(b.length:Int)):=by omega
   simp only[e1,bn,ay,h1];rfl
theorem Ix:∀l:List UInt8,iN (l.map aX)=some (l.map λb=>(b.toNat:Int))
 |[]=>rfl
 |b::l=>by show ob (iN (l.map aX)) _=_;rw[Ix l];rfl
theorem KQ(l:List UInt8):(mkStr (l.map λb=>(b.toNat:Int))).data.toList=l:=by
 unfold mkStr;simp
 conv=>rhs;rw[<-List.map_id l]
 apply List.map_congr_left;simp
theorem ahd(w:Nat)(a b:List UInt8):H7 w (aj a) (aj b)=some (decide (a=b)):=by
 unfold H7;rw[ij,iH,Ix];simp;rw[ij,iH,Ix];simp;rw[KQ,KQ,DW]
 grind
theorem Nb(w:Nat)(a p:List UInt8):zu w (aj a) (aj p)=some (p.isPrefixOf a):=by
 unfold zu;simp only[dU,bc,cu];by_cases h:p.length<=a.length
 ·have e1:¬((a.length:Int)<(p.length:Int)):=by omega
  simp only[e1,gu,h];rw[pL a h,ahd];simp
  congr 1
  rw[fO,bV,uW];constructor
  ·intro q;rw[<-q];exact List.take_prefix _ _
  ·intro q;exact(List.prefix_iff_eq_take.1 q).symm
 ·have e1:((a.length:Int)<(p.length:Int)):=by omega
  simp only[e1,bn,cL,aE]
  congr 1
  rw[eq_comm,Bool.eq_false_iff];intro q;exact h (List.IsPrefix.length_le (uW.1 q))
theorem Oq(w:Nat)(a:List UInt8):CR w (aj a)=some (ko.isPrefixOf a):=by unfold CR Vs;have:ae 4 (List.drop 0 [Value.int IntKind.u8 77,Value.int IntKind.u8 80,Value.int IntKind.u8 70,Value.int IntKind.u8 0])=aj ko:=rfl;rw[this,Nb];rfl
theorem af7(s:bE)(h1:s.scan.length<2^60)(hw:s.scan.length<w):GW w s.bX (aj s.data) (aj s.scan)=some (mr s):=by
 unfold GW mr;rw[VO,VN _ h1 hw];simp only[aA,dU,bc,cu,cD];cases kL s.bX with
 |false=>rfl
 |true=>
  by_cases c1:s.data.length<=65533
  ·have e1:¬((65533:Int)<(s.data.length:Int)):=by omega
   simp only[e1,cy,fu,ay,c1];by_cases c2:s.scan.length=0
   ·have e2:((s.scan.length:Int)=0):=by omega
    rw[mf c2];rfl
   ·have e2:¬((s.scan.length:Int)=0):=by omega
    have e3:s.scan.isEmpty=false:=by
     cases q:s.scan with
     |nil=>rw[q] at c2;exact absurd rfl c2
     |cons _ _=>rfl
    simp only[e2,cy,aE,e3,Bool.false_or];by_cases c3:s.bX=218
    ·simp only[c3,bn,ay,fP]
     congr 1
     rw[fO,bV,bV];omega
    ·simp_all
  ·have e1:((65533:Int)<(s.data.length:Int)):=by omega
   simp[e1,c1]
theorem VP(w:Nat)(s:bE)(m:Int)(h1:s.data.length+s.scan.length<2^60):Cx w s.bX (aj s.data) (aj s.scan) m=some (ll s m):=by
 unfold Cx ll;simp_all;rw[aN (by omega) (by omega)];by_cases c1:s.bX=m
 ·simp_all
  congr 1
  rw[fO,bV,bg,List.isEmpty_iff,List.isEmpty_iff];constructor
  ·intro q;exact⟨mf (by omega),mf (by omega)⟩
  grind
 grind
theorem KL:∀(t:List bE),iJ t=true↔∃(h:t≠[]),ll (t.getLast h) 217=true/\∀s∈t.dropLast,mr s=true
 |[]=>by simp[iJ]
 |[s]=>by simp[iJ]
 |s::s'::t=>by
  simp only[iJ,bg,(KL (s'::t))]
  grind
def xF(l:List bE)(m:Nat):Prop:=∀s∈l,s.data.length+s.scan.length<=m
variable{m:Nat}
theorem afQ(l:List bE)(hm:m<2^59)(hs:xF l m)(hl:l.length<2^40)(hw:l.length<w/\m<w)(h:mj l=true):GC w (dC l)=some true:=by
 cases l with
 |nil=>cases h
 |cons s t=>
  simp[mj] at h;obtain⟨h1,h2⟩:=h;obtain⟨ca,h3,h4⟩:=(KL t).1 h2;have hpos:=List.length_pos_iff.2 ca;have hlr:∀K:Nat->Option Bool,ax (dC (s::t)) K=K (t.length+1):=λK=>dw cN (s::t) K;have tg:∀(s:bE)(r:List Value),cN s++r=.int .i64 s.bX::aj s.data::aj s.scan::r:=λ_ _=>rfl;unfold GC;simp at hl hw;simp only[hlr,iV,cu];rw[aN (by omega) (by omega)];have e1:¬((t.length:Int)<1):=by omega
  simp[e1];unfold dC;rw[bW ja (show 0<(s::t).length by simp)];simp_all;have b1:=hs s (by simp);rw[VP w s 216 (by omega)];rw[bW ja (show t.length<(s::t).length by simp)];have e2:(s::t)[t.length]=t.getLast ca:=by rw[List.getLast_eq_getElem];simp only[List.getElem_cons];rw[dif_neg (by omega)]
  simp_all;have b2:=hs (t.getLast ca) (by simp);rw[VP w _ 217 (by omega)];have e4:1<=t.length:=hpos;simp_all;rw[yd ja (s::t) (show t.length<=(s::t).length by simp)];have e5:((s::t).drop 1).take (t.length -1)=t.dropLast:=by rw[List.drop_one,List.tail_cons,List.dropLast_eq_take]
  rw[e5];unfold Na Nu;have:=M5 (w:=w) t.dropLast (λs=>!mr s) (GV w) (λx hx=>by unfold GV;have b3:=hs x (by simp[(λx hx=>List.dropLast_subset t hx) x hx]);rw[af7 x (by omega) (by omega)];rfl) (by rw[List.length_dropLast];omega) (by rw[List.length_dropLast];omega);unfold dC at this;rw[this];simp only[aA,bc,Kl];have:(t.dropLast.any λs=>!mr s)=false:=by rw[List.any_eq_false];intro x hx;rw[h4 x hx];simp
  rw[this];rfl
theorem Pk{l:List bE}(h:mj l=true){s:bE}(hs:s∈l):0<=s.bX/\s.bX<256/\(iw s.bX=true->s.data=[]/\s.scan=[])/\s.data.length<=65533:=by
 cases l with
 |nil=>grind
 |cons a t=>
  simp[mj] at h;obtain⟨h1,h2⟩:=h;obtain⟨ca,h3,h4⟩:=(KL t).1 h2;have bare:∀(x:bE)(m:Int),ll x m=true->x.bX=m/\x.data=[]/\x.scan=[]:=λx m q=>by unfold ll at q;simp_all
  rcases cj.1 hs with rfl|hs
  ·grind
  ·have:=List.dropLast_concat_getLast ca;rw[<-this] at hs;rcases eM.1 hs with hs|hs
   ·have q:=h4 s hs;unfold mr kL at q
    grind
   grind
theorem aes(n:Nat):aU n 2 2=[UInt8.ofNat (n/256%256),UInt8.ofNat (n%256)]:=rfl
theorem Wh(A:Hand w)(l:List bE)(hm:m<2^27)(hs:xF l m)(hl:l.length<2^27)(hw:l.length<w/\m<w/\20<=w)(h:mj l=true)(hb:(dc l).length<2^28):wZ w (dC l)=some (aj (dc l),0):=by
 unfold wZ;rw[afQ l (by omega) hs (by omega) ⟨hw.1,hw.2.1⟩ h];have hlr:∀K:Nat->Option (Value×Int),ax (dC l) K=K l.length:=λK=>dw cN l K;rw[hlr];unfold dC;refine oh (σ:=List UInt8) (ev:=λi s (g:Value->Int->Int->List Value->Option (Value×Int))=>g (aC cN l) l.length i (s.map aX)) (Inv:=λi s=>s++dc (l.drop i)=dc l) l.length [] ?_ ?_ ?_ (by omega)
 ·rfl
 ·rintro i g s hi hI
  rw[dG hi,pf] at hI;refine⟨s++dF l[i],by rw[<-hI,dY],?_⟩;have hmem:=dL hi;obtain⟨m1,m2,m3,m4⟩:=Pk h hmem;have hsz:=hs _ hmem;have e1:((i:Int)<(l.length:Int)):=by omega
  have hlen:=bK List.length hI;simp only[aR] at hlen;simp only[bc,e1,bn,ay,ct];rw[bW ja hi];have tg:∀(s:bE)(r:List Value),cN s++r=.int .i64 s.bX::aj s.data::aj s.scan::r:=λ_ _=>rfl;simp only[tg,bN,cH];have hw8:ah IntKind.u8 l[i].bX=((UInt8.ofNat l[i].bX.toNat).toNat:Int):=by rw[xP,IntKind.wrap_u8,xw];omega
  have e2:Value.int IntKind.u8 255=aX 255:=rfl;have e3:Value.int IntKind.u8 ((UInt8.ofNat l[i].bX.toNat).toNat:Int)=aX (UInt8.ofNat l[i].bX.toNat):=rfl;have r1:aK s.length=true:=by simp;omega
  simp only[hw8,e2,e3,eD,r1,show aK 2=true from rfl,eL,nA,rH,cQ,List.length_nil,fP];rw[show Nat.beq (0+1+1) 2=true from rfl,ay,Nc];simp only[aA,dU,cR,cu];rw[aN (n:=(i:Int)+1) (by omega) (by omega)];cases ha:iw l[i].bX with
  |true=>
   simp only[ay];have:dF l[i]=[255,UInt8.ofNat l[i].bX.toNat]:=by unfold dF;rw[ar ha]
   rw[this,jZ];rfl
  |false=>
   simp only[aE];have hsb:dF l[i]=[255,UInt8.ofNat l[i].bX.toNat]++(aU (l[i].data.length+2) 2 2++(l[i].data++l[i].scan)):=by unfold dF;rw[ha,aes,rI (show(l[i].data.length+2)/256<256 by omega)];simp
   rw[aN (n:=(l[i].data.length:Int)+2) (by omega) (by omega),sJ (by omega),ar (show fC 2 2=true from rfl)];have hp:oZ ((l[i].data.length:Int)+2) (2:Int).toNat 2=some (aU (l[i].data.length+2) 2 2):=by
    unfold oZ;rw[ar ⟨by omega,by show _<((256^2:Nat):Int);omega⟩]
    congr 1
   rw[hp];simp only[aA];have hc:=A.cat (aU (l[i].data.length+2) 2 2) l[i].data l[i].scan (s++[255,UInt8.ofNat l[i].bX.toNat]) (by rw[eh];omega) (by rw[eh,aR];simp only[cQ,List.length_nil];omega);rw[jZ] at hc;have hc:uF w (aj (aU (l[i].data.length+2) 2 2)) (aj l[i].data) (aj l[i].scan) (s.map aX++[aX 255,aX (UInt8.ofNat l[i].bX.toNat)])=_:=hc;rw[hc];simp only[aA];rw[hsb];simp only[dY];rfl
 ·rintro g s hI
  rw[s8] at hI;simp only[dc,nz,eH] at hI;subst hI;have e1:¬((l.length:Int)<(l.length:Int)):=by omega
  simp only[bc,e1,cy,aE];rw[vK _ _ (by rw[mE,eD])];rfl
end
section
noncomputable def S6(w:Nat)(rest ch:Value)(cs:List Value):Option (Value×Int):=
 ax ch λ(x31:Nat)=>lp (λ(_ _:Value)(_ _:Int)(_:List Value)=>none) (λ(x37:Value->Value->Int->Int->List Value->Option (Value×Int))(x38 x39:Value)(x40 x41:Int)(x42:List Value)=>bif aq x41 x40 then aG x41 λ(x43:Nat)=>aQ 1 x43 x39 λ(x44:List Value)=>ag x44 λ(x45:Value)(_:List Value)=>ob (zT w 226 x45 x42) λ(x47:List Value)=>x37 x38 x39 x40 (ah .i64 (x41.add 1)) x47 else ax x38 λ(x48:Nat)=>bif x48.ble x48&&Nat.ble 1 x48 then ib 3 1 x48 x38 λ(x49:Value)=>eX 3 x49 λ(x50:Nat)(x51:List Value)=>bif aK x42.length&&(aK x50&&x51.length.beq (x50*3)) then ob (wZ w (ae ((x42++x51).length/3) (x42++x51))) λ(x52:Value×Int)=>some (x52.fst,x52.snd) else none else none) w rest ch (Int.ofNat x31) 0 cs
theorem Yg(l:List UInt8):(iR l).length=1:=rfl
theorem Vy(l:List bE):ae ((l.flatMap cN).length/3) (l.flatMap cN)=dC l:=by unfold dC aC;rw[eJ ja,lP _ (show 0<3 by decide)]
theorem Wg(w:Nat)(m:Int)(d:List UInt8)(P:List bE)(h:P.length<300000000):zT w m (aj d) (P.flatMap cN)=some ((P++([⟨m,d,[]⟩]:List bE)).flatMap cN):=by unfold zT Ci;simp only[(eJ ja P),(show aK (P.length*3)=true from by simp;omega)];rw[gq];rfl
variable{m w:Nat}
theorem abo(A:Hand w)(s0:bE)(r P:List bE)(ch:List (List UInt8))(L:List bE)(hL:L=P++(ch.map (λc=>⟨226,c,[]⟩)++r))(hm:m<2^27)(hs:xF L m)(hl:L.length<2^27)(hw:L.length<w/\m<w/\20<=w)(h:mj L=true)(hb:(dc L).length<2^28):S6 w (dC (s0::r)) (aC iR ch) (P.flatMap cN)=some (aj (dc L),0):=by
 have hLl:L.length=P.length+(ch.length+r.length):=by rw[hL];simp
 unfold S6;refine oh (σ:=List bE) (ev:=λi s (g:Value->Value->Int->Int->List Value->Option (Value×Int))=>g (dC (s0::r)) (aC iR ch) ch.length i (s.flatMap cN)) (Inv:=λi s=>s++((ch.drop i).map (λc=>⟨226,c,[]⟩)++r)=L) ch.length P ?_ ?_ ?_ (by omega)
 ·rw[eL,<-hL]
 ·rintro i g s hi hI
  rw[dG hi,List.map_cons] at hI;refine⟨s++[⟨226,ch[i],[]⟩],by rw[<-hI];simp,?_⟩;have hlen:=bK List.length hI;simp at hlen;have e1:((i:Int)<(ch.length:Int)):=by omega
  simp only[bc,e1,ct];rw[bW Yg hi];have tg:∀(b:List UInt8)(r:List Value),iR b++r=aj b::r:=λ_ _=>rfl;simp only[tg,bN];rw[Wg w 226 ch[i] s (by omega)];simp only[cR];rw[aN (by omega) (by omega)];rfl
 ·rintro g s hI
  simp at hI;have hlen:=bK List.length hI;simp at hlen;have e1:¬((ch.length:Int)<(ch.length:Int)):=by omega
  simp only[bc,e1];have hlr:∀K:Nat->Option (Value×Int),ax (dC (s0::r)) K=K (r.length+1):=λK=>dw cN (s0::r) K;simp only[gu,(by omega),aB,bn];unfold dC;rw[yd ja (s0::r) (show r.length+1<=(s0::r).length by simp)];have e3:((s0::r).drop 1).take (r.length+1 -1)=r:=by simp
  rw[e3,EB ja];have hf2:(r.flatMap cN).length=r.length*3:=eJ ja r;have r1:aK (s.length*3)=true:=by simp;omega
  have r2:aK r.length=true:=by simp;omega
  rw[(eJ ja s),hf2,r1,r2,kV];rw[<-gq,hI,Vy,Wh A L hm hs hl hw h hb];rfl
theorem M6:∀{r:List bE}{s:bE},s∈r->(dF s).length<=(dc r).length
 |[],s,h=>by grind
 |a::r,s,h=>by
  rw[pf,aR];rcases cj.1 h with rfl|h
  ·simp
  ·have:=M6 h;omega
theorem agx(W:eW w){x:qy}{bC:List UInt8}(h:Dn x bC)(hx:jL x.aS 9000)(hm:m<2^24)(hc:x.core.length<=m/\x.cV.length<=m/\x.dN.length<=m)(hw:2*m+200000<w)(a b:Int):
 CB w x.aS.order (az x.aS.cP) (az x.aS.bR) (az x.aS.bZ) (az x.aS.bp) (az x.aS.first) (aj x.aS.bQ) (aj x.aS.dq) (aj x.cV) (aj x.core) (aj x.dN) a b=some (aj (jB x bC),0):=by
 have hb:=W.jP;have hA:=W.hand;obtain⟨-,hp1,hp2,hp3,-⟩:=AQ h.app h.rows;obtain⟨r,c1,c2,c3,c4,c5,c6⟩:=D9 h.core;have hmayL:=RM h.core hp2 h.cV (by rcases h.dN with q|q;omega;exact q.2);have hcl:(⟨216,[],[]⟩::r:List bE).length<=x.core.length+1:=Fb _ _ _ _ _ _ c1;have hrl:r.length<=x.core.length:=by simpa using hcl
 have hchl:(fJ x.cV).length<=1:=by unfold fJ;split<;>simp
 have hLdef:mc x bC=[⟨216,[],[]⟩,⟨225,bC,[]⟩]++((if x.dN.length=0 then[] else[⟨226,x.dN,[]⟩])++((fJ x.cV).map (λc=>⟨226,c,[]⟩)++r)):=by unfold mc;rw[c2];rfl
 have hLl:(mc x bC).length<=x.core.length+4:=by rw[hLdef];simp only[aR,eD,cQ,List.length_nil];split<;>simp<;>omega
 have hwr:∀s∈r,(dF s).length<=x.core.length:=by intro s hs;have:=bK List.length c4;rw[pf,aR] at this;have hle:=M6 hs;omega
 have hmayC:mj (⟨216,[],[]⟩::r)=true:=by show(true&&iJ r)=true;rw[c3];rfl
 have hsegs:xF (mc x bC) (m+70000):=by
  intro s hs;rw[hLdef] at hs;rcases eM.1 hs with hs|hs
  ·simp only[cj,jh,jj] at hs;rcases hs with rfl|rfl
   ·simp
   ·simp only[List.length_nil];omega
  ·rcases eM.1 hs with hs|hs
   ·split at hs
    ·cases hs
    ·rw[kC.1 hs];simp only[List.length_nil];omega
   ·rcases eM.1 hs with hs|hs
    ·obtain⟨c,hc',rfl⟩:=List.mem_map.1 hs;have:=Qz h.cV hc';simp only[List.length_nil];omega
    ·have h1:=hwr s hs;by_cases ha:iw s.bX=true
     ·obtain⟨-,-,q,-⟩:=Pk hmayC (gL _ hs);obtain⟨q1,q2⟩:=q ha;rw[q1,q2];simp
     ·unfold dF at h1;rw[ai ha] at h1;simp at h1;omega
 have hwl:(dc (mc x bC)).length<2^28:=by
  have e:dc (mc x bC)=dF ⟨216,[],[]⟩++(dF ⟨225,bC,[]⟩++(dc (if x.dN.length=0 then[] else[⟨226,x.dN,[]⟩])++(dc ((fJ x.cV).map (λc=>⟨226,c,[]⟩))++dc r))):=by rw[hLdef];simp[dc]
  have k1:(dF ⟨216,[],[]⟩).length=2:=rfl;have k2:(dF ⟨225,bC,[]⟩).length<=bC.length+4:=by unfold dF;split<;>simp<;>omega
  have k3:(dc (if x.dN.length=0 then[] else[⟨226,x.dN,[]⟩])).length<=x.dN.length+4:=by
   split
   ·simp[dc]
   ·simp only[dc,ff,nz,eH];unfold dF;split<;>simp<;>omega
  have k4:(dc ((fJ x.cV).map (λc=>⟨226,c,[]⟩))).length<=x.cV.length+30:=by
   unfold fJ;split
   ·simp[dc]
   ·simp[dc];unfold dF;split<;>simp[fm]<;>omega
  have k5:(dc r).length<=x.core.length:=by have:=bK List.length c4;rw[pf,aR] at this;omega
  rw[e];simp only[aR,k1];omega
 have hcut:=hA.cut x.cV h.cV;have h32:=Of W hx;rw[h.app] at h32;have hmb:x.core.length<2^28:=by omega
 have h50:=Oo (w:=w) x.core hmb (by omega);rw[h.core] at h50;have h52:=Ot (w:=w) x.core hmb (by omega);rw[c1] at h52;have ix0:∀(K:List Value->Option (Value×Int)),aQ 3 0 (dC (⟨216,[],[]⟩::r)) K=K (.int .i64 216::aj []::aj []::r.flatMap cN):=by intro K;unfold dC;rw[bW ja (show 0<(⟨216,[],[]⟩::r:List bE).length by simp)];rfl
 have h53:Ou w 225 (aj bC) [Value.int .i64 216,aj [],aj []]=some ([⟨216,[],[]⟩,⟨225,bC,[]⟩].flatMap cN):=rfl;have fin:=λP hL=>abo (m:=m+70000) hA ⟨216,[],[]⟩ r P (fJ x.cV) (mc x bC) hL (by omega) hsegs (by omega) ⟨by omega,by omega,by omega⟩ hmayL hwl;unfold CB MP MY;rw[h32];simp only[aA,show ak 0 0=true from rfl,cL,aE];rw[hcut];simp only[aA,show ak 0 0=true from rfl,cL,aE];rw[h50];simp only[aA,cL,aE,dU];by_cases hmp:x.dN.length=0
 ·have e1:aq 0 (Int.ofNat x.dN.length)=false:=by rw[hmp];rfl
  have e2:aq 65533 (Int.ofNat x.dN.length)=false:=by rw[hmp];rfl
  simp only[e1,e2,aE];rw[h52];simp only[aA,ix0,bN,cH];rw[h53];simp only[aA];exact fin _ (by rw[hLdef,ar hmp];rfl)
 ·have e1:aq 0 (Int.ofNat x.dN.length)=true:=by simp;omega
  obtain⟨m1,m2⟩:=h.dN.resolve_left hmp;have e2:aq 65533 (Int.ofNat x.dN.length)=false:=by simp;omega
  simp only[e1,ay];rw[Oq,m1];simp only[aA,cL,aE,e2];rw[h52];simp only[aA,ix0,bN,cH];rw[h53];simp only[aA];rw[Wg w 226 x.dN _ (by simp)];simp only[aA];exact fin _ (by rw[hLdef,ai hmp];simp)
end
section
def ed(T:List Nat):List Value:=T.map λn:Nat=>.int .u64 (n:Int)
variable{T:List Nat}
theorem Xx{i:Nat}(h:i<T.length):(ed T).drop i=.int .u64 (T[i]:Int)::ed (T.drop (i+1)):=by unfold ed;rw[<-List.map_drop,dG h,List.map_cons]
def DX(T:List Nat)(p:Nat):Bool:=((T[p/64]?).getD 0).testBit (p%64)
def fL(S:List bm)(p:Nat):Bool:=S.any λs=>decide (s.at_<=p/\p<s.at_+s.cA)
structure Tk(T:List Nat)(L:Nat)(P:Nat->Bool):Prop where
 len:T.length=L/64+1
 lt:∀n∈T,n<2^64
 bit:∀p,p<L->DX T p=P p
theorem SL(p:Nat)(hp:p<2^60):ah IntKind.u64 (((BitVec.ofInt 64 (ah IntKind.u64 (p:Int))&&&BitVec.ofInt 64 63).toNat:Nat):Int)=((p%64:Nat):Int):=by
 rw[tD (n:=(p:Int)) (by simp) (by omega)];have e:(BitVec.ofInt 64 (p:Int)&&&BitVec.ofInt 64 63).toNat=p%64:=by rw[BitVec.ofInt_natCast,BitVec.toNat_and,BitVec.toNat_ofNat,rI (by omega)];exact Nat.and_two_pow_sub_one_eq_mod p 6
 rw[e];exact tD (by omega) (by omega)
theorem X6(n k:Nat)(_:n<2^64)(hk:k<64):ak (((BitVec.ofInt 64 ((n:Int).fdiv (2^min ((k:Int)).toNat 64))&&&BitVec.ofInt 64 1).toNat:Nat):Int) 1=n.testBit k:=by
 rw[mB,kE (by omega)];have e:(n:Int).fdiv (2^k)=((n/2^k:Nat):Int):=by grind
 rw[e,BitVec.ofInt_natCast,cD]
 grind
theorem or_eq(n k:Nat)(hn:n<2^64)(hk:k<64):ah IntKind.u64 (((BitVec.ofInt 64 (n:Int)|||BitVec.ofInt 64 (ah IntKind.u64 (Int.mul 1 (2^min ((k:Int)).toNat 64)))).toNat:Nat):Int)=((n|||2^k:Nat):Int)/\n|||2^k<2^64:=by have hk2:2^k<2^64:=Nat.pow_lt_pow_right (by simp) hk;have hor:=Nat.or_lt_two_pow hn hk2;refine⟨?_,hor⟩;rw[mB,kE (by omega),pS,Int.one_mul,(show(2:Int)^k=((2^k:Nat):Int) from(Int.natCast_pow 2 k).symm),tD (n:=((2^k:Nat):Int)) (Int.natCast_nonneg _) (by grind),BitVec.ofInt_natCast,BitVec.ofInt_natCast,BitVec.toNat_or,BitVec.toNat_ofNat,BitVec.toNat_ofNat,rI hn,rI hk2];exact tD (by simp) (by omega)
theorem Jx(p:Nat)(_:p<2^60):(p:Int).fdiv (2^6)=((p/64:Nat):Int):=by grind
variable{P:Nat->Bool}
theorem agZ(w:Nat){L:Nat}(H:Tk T L P)(hL:L<2^50)(p:Nat)(hp:p<L)(b:Value)(o:Int)(sh:Value)(c:Nat)(no so:Int)(S:List Value):
 HJ w (p:Int) b o sh T.length c no so (ed T) S=some (P p,b,o,sh,T.length,c,no,so,ed T,S):=by
 have hlt:p/64<T.length:=by rw[H.len];omega
 have hb:=H.bit p hp;unfold DX at hb;rw[dD hlt,te] at hb;unfold HJ zl;rw[Jx p (by omega)];simp only[ct,lU,hlt,bn,ay,gM,fg];rw[Xx hlt];simp only[bN,cH];rw[(SL p (by omega))];simp only[bc,(show¬(((p%64:Nat):Int)<0) from by omega),cy,aE];have hx:=X6 T[p/64] (p%64) (H.lt _ (dL hlt)) (by omega);rw[hb] at hx;have hle:(BitVec.ofInt 64 ((T[p/64]:Int).fdiv (2^min (((p%64:Nat):Int)).toNat 64))&&&BitVec.ofInt 64 1).toNat<=1:=by rw[BitVec.toNat_and];have:(BitVec.ofInt 64 1).toNat=1:=rfl;rw[this,Nat.and_one_is_mod];omega
 rw[(λz hz=>tD (by omega) (by omega)) _ hle,hx]
theorem afD{L:Nat}(H:Tk T L P){p:Nat}(hp:p<L):Tk (T.set (p/64) ((T[p/64]?).getD 0|||2^(p%64))) L (λq=>P q||decide (q=p)):=by
 have hlt:p/64<T.length:=by rw[H.len];omega
 have hw:(T[p/64]?).getD 0<2^64:=by rw[dD hlt];exact H.lt _ (dL hlt)
 refine⟨by rw[List.length_set,H.len],λn hn=>?_,λq hq=>?_⟩
 ·rcases List.mem_or_eq_of_mem_set hn with h|h
  ·exact H.lt n h
  ·rw[h];exact Nat.or_lt_two_pow hw (Nat.pow_lt_pow_right (by simp) (by omega))
 ·have hb:=H.bit q hq;unfold DX at hb⊢
  grind
theorem Hp{w:Nat}{L:Nat}{S S':List bm}{x:bm}(H:Tk T L (fL S))(hL:L<2^50)(hw:L+2<w)(ht:ky L S x=.ok S')(hS:S.length<100000000)(b:List UInt8)(hb:b.length=L)(o:Int)(sh:Value)(c:Nat)(no so:Int):
 S'=S++[x]/\∃T',Tk T' L (fL S')/\T'.length=T.length/\rj w x.ny x.dir x.tag (x.at_:Int) (x.cA:Int) (aj b) o sh T.length c no so (ed T) (S.flatMap cd)=some (.inl (aj b,o,sh,T.length,c,no,so,ed T',S'.flatMap cd)):=by
 unfold ky at ht;split at ht
 case isFalse=>cases ht
 rename_i h1;split at ht
 ·cases ht
 rename_i h2;injection ht with ht;subst ht;refine⟨rfl,?_⟩;obtain⟨he,hr⟩:=h1;have hcl:∀q,x.at_<=q->q<x.at_+x.cA->fL S q=false:=by intro q q1 q2;unfold fL;rw[List.any_eq_false];intro s hs;simp only[bV];intro hq;apply h2;unfold D5;rw[List.any_eq_true];exact⟨s,hs,by simp only[bV];omega⟩
 have hfin:∀q,(fL (S++[x]) q)=(fL S q||decide (x.at_<=q/\q<x.at_+x.cA)):=by intro q;unfold fL;rw[List.any_append];simp
 have H0:Tk T L (λq=>fL S q||decide (x.at_<=q/\q<x.at_+0)):=by
  refine⟨H.len,H.lt,λq hq=>?_⟩;rw[H.bit q hq];have:decide (x.at_<=q/\q<x.at_+0)=false:=by simp
  rw[this,Bool.or_false]
 unfold rj MU MX zl;have hmod:(x.at_:Int).tmod 2=0:=by rw[Int.tmod_eq_emod_of_nonneg (by omega)];omega
 rw[hmod];simp only[show ak 0 0=true from rfl,ay,dU];rw[HH w ⟨by simp only[oD];omega,by simp only[oD];omega⟩ (by omega)];have hroom:(0<=(x.at_:Int)/\0<=(x.cA:Int)/\(x.at_:Int)<=Int.ofNat b.length/\(x.cA:Int)<=Int.ofNat b.length -(x.at_:Int)):=by simp only[oD];omega
 simp only[aA,hroom,and_self,bn];have h232:eG w true 4=some (.inl ()):=rfl;rw[h232];simp only[aA,iD];generalize hG:lp _ _=G;have hF:=aa3 hG;clear hG;have key:∀(d k v:Nat)(T:List Nat),k+d=x.cA->d<v->Tk T L (λq=>fL S q||decide (x.at_<=q/\q<x.at_+k))->
  ∃T',Tk T' L (fL (S++[x]))/\T'.length=T.length/\G v ((x.at_+k:Nat):Int) (aj b) o sh T.length c no so x.ny x.dir x.tag (x.at_:Int) (x.cA:Int) (ed T) (S.flatMap cd)=some (.inl (aj b,o,sh,T.length,c,no,so,ed T',(S++[x]).flatMap cd)):=by
  intro d;induction d with
  |zero=>
   intro k v T hk hv HT;obtain⟨u,rfl⟩:∃u,v=u+1:=⟨v -1,by omega⟩;refine⟨T,⟨HT.len,HT.lt,λq hq=>?_⟩,rfl,?_⟩
   ·rw[HT.bit q hq,hfin,show k=x.cA by omega]
   ·simp only[hF];rw[cR,aN (by omega) (by omega)];have e1:¬(((x.at_+k:Nat):Int)<(x.at_:Int)+(x.cA:Int)):=by omega
    have hr1:aK (S.length*5)=true:=by simp;omega
    simp only[bc,e1,cy,aE,w9,hr1,show aK 1=true from rfl,eL,nA,rH,cQ,List.length_nil,fP];rw[show Nat.beq (0+1+1+1+1+1) 5=true from rfl,ay,gq];rfl
  |succ d ih=>
   intro k v T hk hv HT;obtain⟨u,rfl⟩:∃u,v=u+1:=⟨v -1,by omega⟩;have hpL:x.at_+k<L:=by omega
   have hlt:(x.at_+k)/64<T.length:=by rw[HT.len];omega
   have H2:=afD HT hpL;have H3:Tk (T.set ((x.at_+k)/64) ((T[(x.at_+k)/64]?).getD 0|||2^((x.at_+k)%64))) L (λq=>fL S q||decide (x.at_<=q/\q<x.at_+(k+1))):=by
    refine⟨H2.len,H2.lt,λq hq=>?_⟩;rw[H2.bit q hq,Bool.or_assoc]
    congr 1
    rw[fO,qn,bV,bV,bV];omega
   obtain⟨T',t1,t2,t3⟩:=ih (k+1) u _ (by omega) (by omega) H3;refine⟨T',t1,by rw[t2,List.length_set],?_⟩;simp only[hF];rw[cR,aN (n:=(x.at_:Int)+(x.cA:Int)) (by omega) (by omega)];have e1:(((x.at_+k:Nat):Int)<(x.at_:Int)+(x.cA:Int)):=by omega
   simp only[bc,e1,bn,ay];have hno:(fL S (x.at_+k)||decide (x.at_<=x.at_+k/\x.at_+k<x.at_+k))=false:=by rw[hcl _ (by omega) (by omega)];simp
   rw[agZ w HT hL (x.at_+k) hpL,hno];simp only[aA];have h232:eG w (!false) 5=some (.inl ()):=rfl;rw[h232];simp only[aA,iD];rw[Jx _ (by omega)];simp only[ct,lU,hlt,bn,ay,gM,fg];rw[Xx hlt];simp only[bN,cH];rw[SL _ (by omega)];have e2:¬((((x.at_+k)%64:Nat):Int)<0):=by omega
   simp only[e2,cy,aE];obtain⟨o1,o2⟩:=or_eq T[(x.at_+k)/64] ((x.at_+k)%64) (HT.lt _ (dL hlt)) (by omega);rw[o1];have e3:(x.at_+k)/64+1<=(ed T).length:=by unfold ed;rw[eD];omega
   simp only[show∀n:Int,(SV.i IntKind.u64 n).cells.length.beq 1=true fromλ_=>rfl,fP,gu,e3,bn,ay,FP,cR];rw[aN (by omega) (by omega),show((x.at_+k:Nat):Int)+1=((x.at_+(k+1):Nat):Int) by omega];have hset:(ed T).set ((x.at_+k)/64) (Value.int IntKind.u64 ((T[(x.at_+k)/64]|||2^((x.at_+k)%64):Nat):Int))=ed (T.set ((x.at_+k)/64) ((T[(x.at_+k)/64]?).getD 0|||2^((x.at_+k)%64))):=by unfold ed;rw[dD hlt,te,<-List.map_set]
   rw[hset];rw[List.length_set] at t3;exact t3
 exact key x.cA 0 w T (by omega) (by omega) H0
end
section
variable{o:Int} {w:Nat}
theorem Ho(hw:5<=w)(b:List UInt8)(hb:b.length<2^50)(ho:o=1\/o=2)(p s:Nat)(hs:s=2\/s=4)(hp:p+s<=b.length):mu w (aj b) o (p:Int) (s:Int)=some (cn b p s o:Int):=by have:=Bq (s:=s) (by omega) ho (by omega);unfold mu cn;rw[GG hw b (by omega) _ _ _ (by omega),this];simp
structure qz(w L:Nat)(b:List UInt8)(o:Int):Prop where
 len:b.length=L
 small:L<2^29
 wide:L+200000<w
 ord:o=1\/o=2
variable{S S':List bm}
theorem o9{L:Nat}{x:bm}(h:ky L S x=.ok S'):S'=S++[x]/\x.at_%2=0/\x.at_+x.cA<=L:=by
 unfold ky at h
 grind
variable{T:List Nat} {b:List UInt8}
theorem agQ{L:Nat}(R:qz w L b o){x:bf}{t:aI}{dir:Nat}(H:Tk T L (fL S))(h:sD b o dir S x=.ok (t,S'))(hs:x.slot<4294967296)(hS:S'.length<100000000)(sh:Value)(c:Nat)(no so:Int):
 (∃u,S'=S++u)/\∃T' so',Tk T' L (fL S')/\T'.length=T.length/\
  Hs w x.tag x.ty x.au (x.slot:Int) (dir:Int) (aj b) o sh T.length c no so (ed T) (S.flatMap cd)=some (.inl (t.tag,t.ty,t.au,aj t.data,aj b,o,sh,T.length,c,no,so',ed T',S'.flatMap cd)):=by
 have hsm:=R.small;have hlen:=R.len;have hw:=R.wide;have h232:eG w true 6=some (.inl ()):=rfl;unfold sD at h;split at h
 ·cases h
 rename_i h1;have hk:=Bw x.ty;have e1:0<(kindOf x.ty).1 :=by omega
 have e2:¬(x.au<1):=by omega
 have e3:¬(65536<x.au):=by omega
 unfold Hs Gj;rw[V7];simp only[aA,bc,e1,e2,e3,bn,cy,fu,ay];rw[h232];rw[V8];simp only[aA];split at h
 ·rename_i h0;have e4:¬(0<((bY x.ty x.au:Nat):Int)):=by omega
  simp only[e4,cy,aE];rw[ag3 (by omega) _ _ _ _ _ R.ord];have hl:0<iW x.ty x.au/\iW x.ty x.au<=4:=by
   unfold bY at h0;have hpos:0<iW x.ty x.au:=by unfold iW;rw[ai (by omega)];exact Int.mul_pos (by omega) e1
   split at h0<;>omega
  have hv:Iy x.ty x.au (x.slot:Int) o=(oW x.ty x.au (aU x.slot 4 o) o).map λd=>(d,((aU x.slot 4 o).drop d.length).all (·==0)):=by unfold Iy;rw[ar ⟨by omega,by omega,hl.1,hl.2⟩,mB]
  rw[hv];split at h
  case h_2=>cases h
  rename_i d hd;injection h with h;cases h;rw[hd];simp only[Option.map_some,aA];rw[h232];refine⟨⟨[],(eH _).symm⟩,?_⟩;cases((aU x.slot 4 o).drop d.length).all (·==0)<;>exact⟨T,_,H,rfl,rfl⟩
 ·rename_i h0;have e4:(0<((bY x.ty x.au:Nat):Int)):=by omega
  simp only[e4,bn,ay];split at h
  ·cases h
  rename_i S2 ht;split at h
  case h_2=>cases h
  rename_i d hd;injection h with h;cases h;obtain⟨a1,a2,a3⟩:=o9 ht;obtain⟨_,T',t1,t2,t3⟩:=Hp (w:=w) H (by omega) (by omega) (by rw[<-hlen];exact ht) (by rw[a1,aR] at hS;omega) b hlen o sh c no so;refine⟨⟨_,a1⟩,T',so,t1,t2,?_⟩;dsimp only at t3 a3;rw[t3];simp only[aA,iD,dU,ct,gu,aB,bn,fP];have e5:x.slot<=b.length:=by omega
  simp[e5];rw[pL _ (aB _),gh (by rw[dZ];omega),V9 _ _ _ (by rw[dZ];omega) (by rw[dZ];omega) _ R.ord,hd];simp;rw[h232];simp
theorem agt{L:Nat}(R:qz w L b o)(hL:8<=L)(ho:kP b=o)(h42:cn b 2 2 o=42)(H:Tk T L (fL []))(sh:Value)(c:Nat)(no so:Int):
 ∃T',Tk T' L (fL [⟨1,-1,0,0,8⟩])/\T'.length=T.length/\
  Hb w (aj b) 0 sh T.length c no so (ed T) []=some (.inl ((cn b 4 4 o:Int),aj b,o,sh,T.length,c,no,so,ed T',[⟨1,-1,0,0,8⟩].flatMap cd)):=by
 have hsm:=R.small;have hlen:=R.len;have hw:=R.wide;have ht:ky L [] ⟨1,-1,0,0,8⟩=.ok [⟨1,-1,0,0,8⟩]:=by unfold ky;rw[ar ⟨rfl,by show 0+8<=L;omega⟩];rfl
 obtain⟨_,T',t1,t2,t3⟩:=Hp (w:=w) H (by omega) (by omega) ht (by decide) b hlen o sh c no so;refine⟨T',t1,t2,?_⟩;have h288:=Ho (w:=w) (by omega) b (by omega) R.ord 2 2 (.inl rfl) (by omega);have h4:=Ho (w:=w) (by omega) b (by omega) R.ord 4 4 (.inr rfl) (by omega);have e1:¬(Int.ofNat b.length<8):=by simp;omega
 have e2:2<=b.length:=by omega
 have h232:∀n,eG w true n=some (.inl ()):=λ_=>rfl;unfold Hb Cj;simp only[dU,bc,e1,cy,fu,h232,aA,iD,gu,e2,bn,fP];rw[show decide (0<=2)=true from rfl,pL _ e2,ij,iH,Ix];simp only[aA];rw[KQ,eL];have hor:(b.take 2=[73,73]/\o=1)\/(b.take 2=[77,77]/\o=2):=by
  unfold kP at ho;split at ho
  ·rename_i q;exact .inl ⟨q,ho.symm⟩
  ·split at ho
   ·rename_i q;exact .inr ⟨q,ho.symm⟩
   ·have:=R.ord;omega
 have h42b:ak ((cn b 2 2 o:Nat):Int) 42=true:=by rw[h42];rfl
 rcases hor with⟨q,rfl⟩|⟨q,rfl⟩
 ·rw[q,show nS [73,73] (ByteArray.mk #[73,73]).data.toList=true from rfl];rw[show(2:Int)=((2:Nat):Int) from rfl,h288];simp only[aA];rw[h42b,h232];simp;refine iq (bK (λz=>ob z _) t3) ?_;simp;rw[show(4:Int)=((4:Nat):Int) from rfl,h4];rfl
 ·rw[q,show nS [77,77] (ByteArray.mk #[73,73]).data.toList=false from rfl,show nS [77,77] (ByteArray.mk #[77,77]).data.toList=true from rfl,ay];rw[(show mu w (aj b) 2 2 2=some (cn b 2 2 2:Int) from h288)];simp only[aA];rw[h42b,h232];simp;refine iq (bK (λz=>ob z _) t3) ?_;simp;rw[(show mu w (aj b) 2 4 4=some (cn b 4 4 2:Int) from h4)];rfl
end
section
theorem JI(b:List UInt8)(o:Int):∀(n p:Nat),(jy b o p n).length=n
 |0,_=>rfl
 |n+1,p=>by show(jy b o (p+12) n).length+1=n+1;rw[JI]
theorem Q1(b:List UInt8)(o:Int):∀(n p i:Nat)(h:i<(jy b o p n).length),(jy b o p n)[i]=Bi b (p+12*i) o
 |0,_,i,h=>absurd h (Nat.not_lt_zero _)
 |n+1,p,0,h=>rfl
 |n+1,p,i+1,h=>by
  show(jy b o (p+12) n)[i]'(by simpa[jy] using h)=_
  rw[Q1 b o n (p+12) i]
  grind
theorem UQ:∀{l:List bf},eA l=true->∀{i:Nat}(h:i+1<l.length),l[i].tag<l[i+1].tag
 |[],_,i,h=>by grind
 |[_],_,i,h=>by grind
 |a::b::l,hr,i,h=>by
  simp[eA] at hr;cases i with
  |zero=>grind
  |succ i=>exact UQ hr.2 (by grind)
theorem Em(l:List bf){c:List Value}(h:c=l.flatMap bH):ae (c.length/4) c=aC bH l:=by rw[h,eJ kk,lP _ (by simp)];rfl
variable{i:Nat}
theorem Zk{l:List bf}(h:i<l.length):(l.take (i+1)).flatMap bH=(l.take i).flatMap bH++bH l[i]:=by rw[nB h,gq];simp
theorem Tb(b:List UInt8)(p s:Nat)(o:Int):cn b p s o<256^s:=by
 unfold cn oR;split
 ·rw[te];have hl:(gm b p s o).length<=s:=by
   unfold gm;split<;>simp<;>omega
  exact tb (KY (gm b p s o)) (Nat.pow_le_pow_right (by simp) hl)
 grind
variable{o:Int}
theorem Tc(b:List UInt8)(p:Nat)(_:o=1\/o=2):cn b p 2 o<65536:=Tb b p 2 o
theorem E7(b:List UInt8)(p:Nat)(o:Int):cn b p 4 o<4294967296:=Tb b p 4 o
variable{w:Nat}
theorem agO{L:Nat}{b:List UInt8}(R:qz w L b o){T:List Nat}{S S':List bm}{at_ dir:Nat}(H:Tk T L (fL S))(h0:at_%2=0)(h1:at_+2<=L)(hn:cn b at_ 2 o≠0)(ht:ky L S ⟨2,dir,0,at_,6+12*cn b at_ 2 o⟩=.ok S')
 (hr:eA (jy b o (at_+2) (cn b at_ 2 o))=true) (hS:S.length<100000000) (_:dir<2^40) (sh:Value) (c:Nat) (no so:Int):
 ∃T',Tk T' L (fL S')/\T'.length=T.length/\
  Hq w (at_:Int) (dir:Int) (aj b) o sh T.length c no so (ed T) (S.flatMap cd)=some (.inl (aC bH (jy b o (at_+2) (cn b at_ 2 o)),aj b,o,sh,T.length,c,no,so,ed T',S'.flatMap cd)):=by
 have hsm:=R.small;have hlen:=R.len;have hw:=R.wide;obtain⟨a1,a2,a3⟩:=o9 ht;obtain⟨n,hnn⟩:∃n,cn b at_ 2 o=n:=⟨_,rfl⟩;have hn2:n<65536:=by rw[<-hnn];exact Tc b at_ R.ord
 obtain⟨_,T',t1,t2,t3⟩:=Hp (w:=w) H (by omega) (by omega) ht hS b hlen o sh c no so;refine⟨T',t1,t2,?_⟩;have h288:=Ho (w:=w) (by omega) b (by omega) R.ord at_ 2 (.inl rfl) (by omega);have h232:∀k,eG w true k=some (.inl ()):=λ_=>rfl;have hmod:(at_:Int).tmod 2=0:=by rw[Int.tmod_eq_emod_of_nonneg (by omega)];omega
 rw[hnn] at hn t3 h288 hr a3⊢;dsimp only at t3 a3;unfold Hq MM Cd;rw[hmod,show ak 0 0=true from rfl,ay,dU,HH w ⟨by simp only[oD];omega,by simp only[oD];omega⟩ (by omega)];have hroom:(0<=(at_:Int)/\(0:Int)<=2/\(at_:Int)<=Int.ofNat b.length/\(2:Int)<=Int.ofNat b.length -(at_:Int)):=by simp only[oD];omega
 rw[fS hroom];simp only[aA];rw[h232];simp only[aA,iD];have h288':mu w (aj b) o (at_:Int) 2=some (n:Int):=h288;rw[h288'];simp only[aA];rw[show aq 0 (n:Int)=true by rw[bc,bV];omega,h232];simp only[aA,iD];rw[pS,aN (n:=(12:Int)*(n:Int)) (by omega) (by omega),cR,aN (n:=(6:Int)+12*(n:Int)) (by omega) (by omega),show(6:Int)+12*(n:Int)=((6+12*n:Nat):Int) by omega,t3];simp only[aA,iD];obtain⟨E,hE⟩:∃E,E=jy b o (at_+2) n:=⟨_,rfl⟩;rw[<-hE] at hr⊢;have hat:at_+6+12*n<=L:=by omega
 have h232:eG w true 2=some (.inl ()):=rfl;generalize ed T'=U;generalize S'.flatMap cd=V;generalize T.length=tl;have hEl:E.length=n:=by rw[hE,JI]
 refine lD (ev:=λi (g:Int->Int->Int->Value->Int->Value->Nat->Nat->Int->Int->List Value->List Value->List Value->Option (Value×Value×Int×Value×Nat×Nat×Int×Int×List Value×List Value⊕Int×Value×Int×Value×Nat×Nat×Int×Int×List Value×List Value))=>g at_ n i (aj b) o sh tl c no so U V ((E.take i).flatMap bH)) n ?_ ?_ (by omega)
 ·intro i g hi;have e1:((i:Int)<(n:Int)):=by omega
  simp only[bc,e1,bn,ay,cR,pS];have hat2:at_<2^30:=by omega
  rw[aN (n:=(at_:Int)+2) (by omega) (by omega),aN (n:=(12:Int)*(i:Int)) (by omega) (by omega),aN (n:=(at_:Int)+2+12*(i:Int)) (by omega) (by omega),show(at_:Int)+2+12*(i:Int)=((at_+2+12*i:Nat):Int) by omega,ag0 (by omega) b (by omega) _ o R.ord,ar (by omega)];simp only[aA];have hgi:E[i]'(by omega)=Bi b (at_+2+12*i) o:=by subst hE;exact Q1 b o n (at_+2) i _
  have hiE:i<E.length:=by omega
  have hci:bH E[i]=[.int .i64 (cn b (at_+2+12*i) 2 o:Int),.int .i64 (cn b (at_+2+12*i+2) 2 o:Int),.int .i64 (cn b (at_+2+12*i+4) 4 o:Int),.int .i64 (cn b (at_+2+12*i+8) 4 o:Int)]:=by rw[hgi];rfl
  have hcl:((E.take i).flatMap bH).length=i*4:=by rw[eJ kk,dH,kE (by omega)]
  have hr1:aK (i*4)=true:=by simp;omega
  have hfin:∀(A:Option (Value×Value×Int×Value×Nat×Nat×Int×Int×List Value×List Value⊕Int×Value×Int×Value×Nat×Nat×Int×Int×List Value×List Value)),(bif aK ((E.take i).flatMap bH).length&&(aK 1&&(List.take 4 (List.drop 0 [Value.int IntKind.i64 (cn b (at_+2+12*i) 2 o:Int),Value.int IntKind.i64 (cn b (at_+2+12*i+2) 2 o:Int),Value.int IntKind.i64 (cn b (at_+2+12*i+4) 4 o:Int),Value.int IntKind.i64 (cn b (at_+2+12*i+8) 4 o:Int)])).length.beq 4) then g at_ n (ah IntKind.i64 ((i:Int)+1)) (aj b) o sh tl c no so U V ((E.take i).flatMap bH++List.take 4 (List.drop 0 [Value.int IntKind.i64 (cn b (at_+2+12*i) 2 o:Int),Value.int IntKind.i64 (cn b (at_+2+12*i+2) 2 o:Int),Value.int IntKind.i64 (cn b (at_+2+12*i+4) 4 o:Int),Value.int IntKind.i64 (cn b (at_+2+12*i+8) 4 o:Int)])) else A)=g at_ n ((i+1:Nat):Int) (aj b) o sh tl c no so U V ((E.take (i+1)).flatMap bH):=by intro A;rw[hcl,hr1,show aK 1=true from rfl,Zk hiE,hci,aN (by omega) (by omega)];rfl
  rcases i with _|i
  ·have e0:ak ((0:Nat):Int) 0=true:=rfl;rw[e0,ay];exact hfin none
  ·have e0:ak ((i+1:Nat):Int) 0=false:=by rw[cD,fI];omega
   rw[e0,aE,iV,aN (by omega) (by omega),show((i+1:Nat):Int) -1=(i:Int) by omega,ct,hcl];have e2:i*4<(i+1)*4:=by omega
   have hpi:i<E.length:=by omega
   have htk:List.drop (0+i*4+0) ((E.take (i+1)).flatMap bH)=bH E[i]:=by rw[show 0+i*4+0=i*4 by omega,pR kk,List.drop_take,show i+1 -i=1 by omega,dG hpi,nA,rH];simp
   have hlt:=UQ hr (i:=i) (by omega);have hg1:(E[i+1]'(by omega)).tag=(cn b (at_+2+12*(i+1)) 2 o:Int):=by rw[hgi];rfl
   rw[hg1] at hlt;simp only[lU,e2,bn,gY,show Nat.beq 4 4=true from rfl,ay];rw[htk];unfold bH;simp only[bN,cH,hlt,bn];rw[h232];simp only[aA,iD];rw[hcl] at hfin;exact hfin none
 ·intro g;have e1:¬((n:Int)<(n:Int)):=by omega
  simp only[bc,e1,cy,aE];rw[gh (by omega),Em E rfl]
theorem agI(l:List gU)(n a b c:Int)(hl:l.length<2^40)(hw:l.length<w):NW w (fY l) n a b c=some (db (λx=>x.tag==n) l):=by
 refine mg l (λx=>x.tag==n) (ev:=λi (g:Value->List Value->Int->Int->Option Int)=>g (aC lC l) [.int .i64 n,.int .i64 a,.int .i64 b,.int .i64 c] l.length i) ?_ ?_ hw
 ·intro i g h;simp_all;rw[bW ue h];unfold lC Og;simp only[jg,bN,cH,aA,cD];rw[aN (by omega) (by omega)];by_cases e2:l[i].tag=n<;>grind
 ·intro g;simp
theorem agJ(l:List gU)(n a b c:Int)(hl:l.length<2^40)(hw:l.length<w):NY w (fY l) n a b c=some (db (λx=>x.tag==n) l):=by
 refine mg l (λx=>x.tag==n) (ev:=λi (g:Value->List Value->Int->Int->Option Int)=>g (aC lC l) [.int .i64 n,.int .i64 a,.int .i64 b,.int .i64 c] l.length i) ?_ ?_ hw
 ·intro i g h;simp_all;rw[bW ue h];unfold lC N4;simp only[jg,bN,cH,aA,cD];rw[aN (by omega) (by omega)];by_cases e2:l[i].tag=n<;>grind
 ·intro g;simp
theorem ag1(l:List gU)(n a b c:Int)(hl:l.length<2^40)(hw:l.length<w):HM w (fY l) n a b c=some (l.any λx=>x.tag==n):=by
 unfold HM;rw[agI l n a b c hl hw];simp;have:=yF (λx:gU=>x.tag==n) l
 grind
variable{α:Type}
theorem J0(p:α->Bool){l:List α}(h:i<l.length):(l.take (i+1)).filter p=(l.take i).filter p++(if p l[i]=true then[l[i]] else[]):=by
 rw[nB h]
 grind
theorem Zu(p:α->Bool)(l:List α)(i:Nat):((l.take i).filter p).length<=l.length:=by grind
theorem agP(E:List bf)(S:aV)(hS:vi S)(hl:S.bG.length<2^40)(hw:S.bG.length<w)(hE:E.length<100000000)(hEw:E.length<w):
 Hr w (aC bH E) (fY S.bG) S.at_ S.cA S.next=some (aC bH (E.filter λx=>eS S x.tag),aC bH (E.filter λx=>eZ S x.tag),aC bH (E.filter λx=>!ej S x.tag)):=by
 unfold Hr zp wK;rw[dw];refine lD (ev:=λi (g:Value->Int->Int->Value->Int->Int->Int->List Value->List Value->List Value->Option (Value×Value×Value))=>g (aC bH E) E.length i (fY S.bG) S.at_ S.cA S.next (((E.take i).filter λx=>eS S x.tag).flatMap bH) (((E.take i).filter λx=>eZ S x.tag).flatMap bH) (((E.take i).filter λx=>!ej S x.tag).flatMap bH)) E.length ?_ ?_ hEw
 ·intro i g hi;have e1:((i:Int)<(E.length:Int)):=by omega
  simp only[bc,e1,bn,ay,ct];rw[bW kk hi];unfold bH;simp only[jg,bN,cH];rw[ag1 S.bG _ _ _ _ hl hw];simp only[aA];have hlk:(S.bG.any λx=>x.tag==E[i].tag)=eS S E[i].tag:=rfl;rw[hlk,J0 _ hi,J0 _ hi,J0 _ hi];have hr1:∀p:bf->Bool,aK (List.flatMap bH ((E.take i).filter p)).length=true:=by intro p;have:=Zu p E i;rw[eJ kk];simp;omega
  have hr1':∀p:bf->Bool,aK (List.flatMap (λx:bf=>[Value.int .i64 x.tag,Value.int .i64 x.ty,Value.int .i64 x.au,Value.int .i64 (x.slot:Int)]) ((E.take i).filter p)).length=true:=hr1;simp only[hr1',show aK 1=true from rfl,fP,eL,nA,rH,cQ,List.length_nil,cR];rw[aN (by omega) (by omega)];have hp:=hS.pair;cases hk:eS S E[i].tag with
  |true=>
   have hnp:eZ S E[i].tag=false:=by unfold eS at hk;rw[List.any_eq_true] at hk;obtain⟨x,hx,he⟩:=hk;rw[<-eq_of_beq he];exact(hS.bG x hx).2.2
   have hno:ej S E[i].tag=true:=by unfold ej;rw[hk];rfl
   simp[hnp,hno]
  |false=>
   have hno:ej S E[i].tag=eZ S E[i].tag:=by unfold ej;rw[hk];rfl
   rw[hno];by_cases h1:(0:Int)<S.at_
   ·have hb:eZ S E[i].tag=(decide (E[i].tag=S.at_)||decide (E[i].tag=S.cA)):=by
     unfold eZ;rw[fS (by omega:S.at_≠0)];rfl
    rw[hb];simp only[cD];by_cases h2:E[i].tag=S.at_
    ·simp[h1,h2]
    ·by_cases h3:E[i].tag=S.cA
     ·simp[h1,h3]
     ·simp[h1,h2,h3]
   ·have hb:eZ S E[i].tag=false:=by
     unfold eZ;have:¬(S.at_≠0):=λq=>by have:=hp q;omega
     rw[fR this];rfl
    rw[hb];simp[h1]
 ·intro g;have e1:¬((E.length:Int)<(E.length:Int)):=by omega
  simp only[bc,e1,cy,aE,rG];rw[Em _ rfl,Em _ rfl,Em _ rfl]
end
section
def xA(sh:List aV)(b:List UInt8)(o:Int)(L:Nat)(f:Nat)(rec:rN):Prop:=
 ∀(at_ s no:Nat)(Sp:List bm)(d:aO)(next no':Nat)(S':List bm)(T:List Nat)(so:Int)(c:Nat),
  jS b o sh f at_ s no Sp=.ok (d,next,no',S')->s<sh.length->at_<4294967296->S'.length<100000000->no'<2^40->Tk T L (fL Sp)->
  ∃T' so',Tk T' L (fL S')/\T'.length=T.length/\
   rec at_ s (aj b) o (cw sh) T.length c no so (ed T) (Sp.flatMap cd)=some (.inl (dT d,dS d,dB d,(next:Int),aj b,o,cw sh,T.length,c,(no':Int),so',ed T',S'.flatMap cd))
variable{S:List bm} {b:List UInt8} {no:Nat} {o:Int}
theorem aeP{S':List bm}{x:bf}{t:aI}(h:sD b o no S x=.ok (t,S')):∃u,S'=S++u:=by
 unfold sD at h;split at h
 ·grind
 split at h
 ·split at h
  ·simp_all
  grind
 ·split at h
  ·grind
  rename_i S2 ht;split at h
  ·cases h;exact⟨_,(o9 ht).1⟩
  grind
theorem zc{own:Int->Bool}:∀{E:List bf}{S S':List bm}{ts:List aI},jF own b o no E S=.ok (ts,S')->∃u,S'=S++u
 |[],S,S',ts,h=>by rw[jF] at h;cases h;exact⟨[],(eH _).symm⟩
 |x::E,S,S',ts,h=>by
  rw[jF] at h;split at h
  ·split at h
   ·exact zc h
   grind
  split at h
  ·grind
  rename_i hv;split at h
  ·grind
  rename_i ht;injection h with h;cases h;obtain⟨u,rfl⟩:=aeP hv;obtain⟨v,rfl⟩:=zc ht;simp
theorem B5{rd:Nat->Nat->Nat->List bm->Except Int (aO×Nat×Nat×List bm)}(hrd:∀a s no S d n no' S',rd a s no S=.ok (d,n,no',S')->no<=no'/\∃u,S'=S++u){Sh:aV}:∀{K:List bf}{no no':Nat}{S S':List bm}{r:cF},lI rd Sh K no S=.ok (r,no',S')->no<=no'/\∃u,S'=S++u
 |[],no,no',S,S',r,h=>by rw[lI] at h;cases h;exact⟨aB _,[],(eH _).symm⟩
 |x::K,no,no',S,S',r,h=>by
  rw[lI] at h;split at h
  ·grind
  split at h
  ·grind
  split at h
  ·grind
  rename_i hr;injection h with h;cases h;obtain⟨a2,v,rfl⟩:=B5 hrd hr
  grind
variable{sh:List aV}
theorem B4:∀(f a s no:Nat)(S:List bm)(d:aO)(n no':Nat)(S':List bm),jS b o sh f a s no S=.ok (d,n,no',S')->no<=no'/\∃u,S'=S++u
 |0,a,s,no,S,d,n,no',S',h=>by rw[jS] at h;cases h
 |f+1,a,s,no,S,d,n,no',S',h=>by
  rw[jS] at h;split at h
  case isFalse=>cases h
  split at h
  ·cases h
  split at h
  ·cases h
  rename_i S1 h1;split at h
  case isFalse=>cases h
  split at h
  ·cases h
  rename_i h2;split at h
  ·cases h
  split at h
  ·cases h
  rename_i S3 h3;obtain⟨u1,e1⟩:∃u,S1=S++u:=⟨_,(o9 h1).1⟩;obtain⟨u2,e2⟩:=zc h2;obtain⟨k,u3,e3⟩:=B5 (B4 f) h3;split at h
  ·split at h
   ·cases h
   split at h
   ·cases h
   rename_i h4;injection h with h;cases h;obtain⟨u4,e4⟩:∃u,S'=S3++u:=⟨_,(o9 h4).1⟩;refine⟨by omega,u1++u2++u3++u4,?_⟩;rw[e4,e3,e2,e1];simp
  ·injection h with h;cases h;refine⟨by omega,u1++u2++u3,?_⟩;rw[e3,e2,e1];simp
theorem ah2(l:List (Int×aO))(r:cF)(h:l=aL r):ae ((l.flatMap fH).length/4) (l.flatMap fH)=ae (cm r) (gd r):=by rw[h,eJ uP,lP _ (by simp),uQ,OX]
theorem aaX{w L:Nat}(R:qz w L b o)(hsh:iu sh){s:Nat}(hs:s<sh.length)(hlk:(aJ sh s).bG.length<100000){f:Nat}{rec:rN}(hrec:xA sh b o L f rec){at_ dir no':Nat}{E P K:List bf}{S3 S4:List bm}{subs:cF}{blob:List UInt8}{T:List Nat}
 (hK:∀x∈K,eS (aJ sh s) x.tag=true/\x.slot<4294967296) (hKl:K.length<70000) (hat:at_+6+12*E.length<=L)
 (h3:lI (jS b o sh f) (aJ sh s) K no S=.ok (subs,no',S3))
 (hfin:(∃p q,P=[p,q]/\q.slot≠0/\p.slot<4294967296/\q.slot<4294967296/\ky L S3 ⟨4,dir,0,p.slot,q.slot⟩=.ok S4/\blob=(b.drop p.slot).take q.slot)\/(P.length≠2/\S4=S3/\blob=[]))
 (hS:S4.length<100000000) (hno:no'<2^40) (H:Tk T L (fL S)) (so:Int) (c:Nat) (tc:List Value):
 ∃T' so',Tk T' L (fL S4)/\T'.length=T.length/\
  SD w rec at_ dir (aC bH E) (aC bH P) (aC bH K) K.length 0 (aj b) o (cw sh) T.length c no so (ae 0 []) (fY (aJ sh s).bG) (aJ sh s).at_ (aJ sh s).cA (aJ sh s).next (ed T) (S.flatMap cd) tc []=
   some (.inl (ae (tc.length/4) tc,ae (cm subs) (gd subs),aj blob,(cn b (at_+2+12*E.length) 4 o:Int),aj b,o,cw sh,T.length,c,(no':Int),so',ed T',S4.flatMap cd)):=by
 have hsm:=R.small;have hlen:=R.len;have hw:=R.wide;have h232:∀n,eG w true n=some (.inl ()):=λ_=>rfl;have hS34:S3.length<=S4.length:=by
  rcases hfin with⟨p,q,_,_,_,_,ht,_⟩|⟨_,e,_⟩
  ·rw[(o9 ht).1,aR];omega
  ·rw[e];exact aB _
 obtain⟨tl,htl⟩:∃tl,T.length=tl:=⟨_,rfl⟩;rw[htl];have key:∀(k i v no:Nat)(S:List bm)(T:List Nat)(so:Int)(r:cF)(D:List (Int×aO)),i+k=K.length->k<v->D.length=i->lI (jS b o sh f) (aJ sh s) (K.drop i) no S=.ok (r,no',S3)->D++aL r=aL subs->Tk T L (fL S)->T.length=tl->
  ∃T' so',Tk T' L (fL S4)/\T'.length=tl/\
   lp BE (wo w rec) v at_ dir (aC bH E) (aC bH P) (aC bH K) K.length i (aj b) o (cw sh) tl c no so (ae 0 []) (fY (aJ sh s).bG) (aJ sh s).at_ (aJ sh s).cA (aJ sh s).next (ed T) (S.flatMap cd) tc (D.flatMap fH)=
    some (.inl (ae (tc.length/4) tc,ae (cm subs) (gd subs),aj blob,(cn b (at_+2+12*E.length) 4 o:Int),aj b,o,cw sh,tl,c,(no':Int),so',ed T',S4.flatMap cd)):=by
  intro k;induction k with
  |zero=>
   intro i v no S T so r D hi hv hD hr hDr HT hTl;rw[show K.drop i=[] from List.drop_of_length_le (by omega),lI] at hr;injection hr with hr;cases hr;rw[show aL cF.nil=[] from rfl,eH] at hDr;have e1:¬((i:Int)<(K.length:Int)):=by omega
   have hD2:=ah2 D subs hDr;rw[ef BE (wo w rec) (by omega)];unfold wo;simp only[bc,e1,cy,aE];rw[dw];have hnx:=Ho (w:=w) (by omega) b (by omega) R.ord (at_+2+12*E.length) 4 (.inr rfl) (by omega);have haw:ah IntKind.i64 ((ah IntKind.i64 ((at_:Int).add 2)).add (ah IntKind.i64 (Int.mul 12 (Int.ofNat E.length))))=((at_+2+12*E.length:Nat):Int):=by rw[cR,cR,pS,cu,aN (n:=(at_:Int)+2) (by omega) (by omega),aN (n:=(12:Int)*(E.length:Int)) (by omega) (by omega),aN (by omega) (by omega)];omega
   rcases hfin with⟨p,q,rfl,hq,hp4,hq4,ht,rfl⟩|⟨hP,rfl,rfl⟩
   ·rw[show ak (Int.ofNat [p,q].length) 2=true from rfl,ay];have x0:∀(K:List Value->tz),aQ 4 0 (aC bH [p,q]) K=K (bH p++([q].flatMap bH)):=λK=>bW kk (by show 0<2;omega) K;have x1:∀(K:List Value->tz),aQ 4 1 (aC bH [p,q]) K=K (bH q++([].flatMap bH)):=λK=>bW kk (by show 1<2;omega) K;have d0:∀(y:bf)(r:List Value),List.drop 3 (bH y++r)=Value.int .i64 (y.slot:Int)::r:=λ_ _=>rfl;rw[x0,d0];simp only[bN,cH];rw[x1,d0];simp only[bN,cH];rw[fS (show(0:Int)<(q.slot:Int) by omega),h232];simp only[aA,iD];obtain⟨a1,a2,a3⟩:=o9 ht;obtain⟨_,T',t1,t2,t3⟩:=Hp (w:=w) HT (by omega) (by omega) ht (by rw[a1,aR] at hS;omega) b hlen o (cw sh) c (no':Int) so;dsimp only at t3 a3;refine⟨T',so,t1,by rw[t2,hTl],?_⟩;rw[hTl] at t3;rw[t3];simp only[aA,iD,dU];rw[cR,aN (n:=(p.slot:Int)+(q.slot:Int)) (by omega) (by omega),show(p.slot:Int)+(q.slot:Int)=((p.slot+q.slot:Nat):Int) by omega,ct,ct];have e3:p.slot+q.slot<=b.length:=by omega
    have e4:p.slot<=p.slot+q.slot:=by omega
    simp only[gu,e3,e4,bn,kU,ay];rw[pL _ e3,show p.slot+q.slot -p.slot=q.slot by omega,rV w _ (by rw[dH,dZ];omega)];simp only[aA];rw[dw,haw];have hnx':mu w (aj b) o ((at_+2+12*E.length:Nat):Int) 4=some (cn b (at_+2+12*E.length) 4 o:Int):=hnx;rw[hnx'];simp only[aA];rw[hD2]
   ·have e2:ak (Int.ofNat P.length) 2=false:=by rw[cD,fI,cu];omega
    rw[e2,aE,dw,haw];have hnx':mu w (aj b) o ((at_+2+12*E.length:Nat):Int) 4=some (cn b (at_+2+12*E.length) 4 o:Int):=hnx;rw[hnx'];simp only[aA];rw[hD2];exact⟨T,so,HT,hTl,rfl⟩
  |succ k ih=>
   intro i v no S T so r D hi hv hD hr hDr HT hTl;have hiK:i<K.length:=by omega
   have hmem:=dL hiK;obtain⟨k1,k2⟩:=hK _ hmem;rw[dG hiK,lI] at hr;split at hr
   ·cases hr
   rename_i d next no1 S1 hd
   split at hr
   ·cases hr
   rename_i hnx;split at hr
   ·cases hr
   rename_i r2 no2 S2 hr2;injection hr with hr;cases hr;have hnx:next=0:=qp.1 hnx
   subst hnx;obtain⟨m1,u,m2⟩:=B5 (B4 f) hr2;have e1:((i:Int)<(K.length:Int)):=by omega
   rw[ef BE (wo w rec) (by omega)];rcases KB (aJ sh s) K[i].tag with⟨_,q⟩|⟨j,hj,q1,_,q3⟩
   ·rw[k1] at q;cases q
   have hsx:=hsh.bG s hs _ (dL hj);rw[q3] at hd;have hsn:(((aJ sh s).bG[j].shape.toNat:Nat):Int)=(aJ sh s).bG[j].shape:=lM (by omega);obtain⟨T1,so1,t1,t2,t3⟩:=hrec K[i].slot _ no S d 0 no1 S1 T so c hd (by omega) k2 (by have:=bK List.length m2;rw[aR] at this;omega) (by omega) HT;rw[hTl] at t2 t3;obtain⟨T',so',v1,v2,v3⟩:=ih (i+1) (v -1) no1 S1 T1 so1 r2 (D++[(K[i].tag,d)]) (by omega) (by omega) (by rw[aR,hD];rfl) hr2 (by rw[<-hDr];simp[aL]) t1 t2;refine⟨T',so',v1,v2,?_⟩;rw[<-v3];generalize hg:lp BE (wo w rec) (v -1)=g;unfold wo;simp only[bc,e1,bn,ay,ct];rw[bW kk hiK];have tg:∀(y:bf)(r:List Value),bH y++r=Value.int .i64 y.tag::.int .i64 y.ty::.int .i64 y.au::.int .i64 (y.slot:Int)::r:=λ_ _=>rfl;rw[tg];simp only[bN,cH];rw[agJ _ _ _ _ _ (by omega) (by omega),q1];simp only[aA,ct];rw[show fY (aJ sh s).bG=aC lC (aJ sh s).bG from rfl,bW ue hj];have dl:∀(y:gU)(r:List Value),List.drop 1 (lC y++r)=Value.int .i64 y.shape::r:=λ_ _=>rfl;rw[dl];simp only[bN,cH];rw[<-hsn,t3];simp only[aA,iD];rw[show ak ((0:Nat):Int) 0=true from rfl,h232];simp only[aA,iD];have hr1:aK (D.flatMap fH).length=true:=by rw[eJ uP];simp;omega
   rw[hr1,cR,aN (by omega) (by omega),show(i:Int)+1=((i+1:Nat):Int) by omega,gq];have hsc:[(K[i].tag,d)].flatMap fH=[Value.int .i64 K[i].tag,dT d,dS d,dB d]:=by show fH (K[i].tag,d)++[]=_;unfold fH;rw[pM];rfl
   rw[hsc];rfl
 exact key K.length 0 w no S T so subs [] (by omega) (by omega) rfl (by rw[eL];exact h3) rfl H htl
end
end Lt
end Go.Proofs.YtfdojmichbgpiaaGreatDoor

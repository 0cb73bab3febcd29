import Derived.Test.YtcfjfbeadhnknaaGreatDoorUF
namespace Go.Proofs.YtcfjfbeadhnknaaGreatDoor
set_option linter.unusedVariables false
set_option linter.unusedSimpArgs false
set_option linter.unusedSectionVars false
set_option linter.constructorNameAsVariable false
set_option maxRecDepth 100000
namespace Lt
abbrev rG:=Nat×Nat×List Nat×Nat
def Wu(e:rG):Value:=.agg #[.int .i64 e.1,.int .i64 e.2.1]
def MH(e:rG):Value:=.agg #[ae e.2.2.1.length (e.2.2.1.map λt=>.int .i64 (Int.ofNat t)),.int .i64 e.2.2.2]
theorem Zd:∀l:List rG,zf (l.map MG)=some (l.map λe=>(Wu e,MH e))
 |[]=>rfl
 |e::l=>by show ob (zf (l.map MG)) _=_;rw[Zd l];rfl
theorem acg(a b:Int)(e:rG):jt [.int .i64 a,.int .i64 b] [.int .i64 e.1,.int .i64 e.2.1]=some (decide (a=(e.1 :Int)/\b=(e.2.1 :Int))):=by
 unfold jt;unfold jt;unfold jt;by_cases h1:a=(e.1 :Int)
 ·by_cases h2:b=(e.2.1 :Int)
  ·simp_all
  ·simp_all
 ·simp[h1]
def qo(a b:Int)(e:rG):Bool:=decide (a=(e.1 :Int)/\b=(e.2.1 :Int))
theorem Rr(a b:Int):∀(l:List rG)(i:Nat),∃j,uJ [.int .i64 a,.int .i64 b] (l.map λe=>(Wu e,MH e)) i=some ((l.find? (qo a b)).map λe=>(j,MH e))
 |[],i=>⟨0,rfl⟩
 |e::l,i=>by
  rw[iH,List.find?_cons];show∃j,(ob (jt [.int .i64 a,.int .i64 b] [.int .i64 e.1,.int .i64 e.2.1]) λq=>cond q _ _)=_;rw[acg];show∃j,cond (qo a b e) _ _=_;cases h:qo a b e with
  |true=>simp
  |false=>obtain⟨j,hj⟩:=Rr a b l (i+1);exact⟨j,hj⟩
def oG:List rG:=[(0,256,[3,4],1),(0,257,[3,4],1),(0,259,[3],1),(0,274,[3],1),(0,296,[3],1),(0,531,[3],1),(0,270,[2],0),(0,271,[2],0),(0,272,[2],0),(0,305,[2],0),(0,315,[2],0),(0,33432,[2],0),(0,306,[2],20),(0,282,[5],1),(0,283,[5],1),(1,256,[3,4],1),(1,257,[3,4],1),(1,259,[3],1),(1,274,[3],1),(1,296,[3],1),(1,531,[3],1),(1,270,[2],0),(1,271,[2],0),(1,272,[2],0),(1,305,[2],0),(1,315,[2],0),(1,33432,[2],0),(1,306,[2],20),(1,282,[5],1),(1,283,[5],1),(2,33434,[5],1),(2,33437,[5],1),(2,37378,[5],1),(2,37386,[5],1),(2,34850,[3],1),(2,37383,[3],1),(2,37384,[3],1),(2,37385,[3],1),(2,40961,[3],1),(2,41986,[3],1),(2,36864,[7],4),(2,37121,[7],4),(2,40960,[7],4),(2,37377,[10],1),(2,37380,[10],1),(2,36867,[2],20),(2,36868,[2],20),(2,40962,[3,4],1),(2,40963,[3,4],1),(2,34855,[3],0),(2,37510,[7],0),(2,37520,[2],0),(2,41728,[7],1),(2,42016,[2],33),(2,42034,[5],4),(3,0,[1],4),(3,5,[1],1),(3,6,[5],1),(3,1,[2],2),(3,3,[2],2),(3,2,[5],3),(3,4,[5],3),(3,7,[5],3),(3,18,[2],0),(3,29,[2],11),(4,1,[2],4),(4,2,[7],4),(5,45056,[7],4),(5,45313,[4],1),(5,45569,[4],1),(5,45570,[4],1),(5,45572,[5],1),(5,45574,[5],1),(5,45573,[10],1),(5,45576,[10],1)]
theorem ajO(w:Nat):Oa w=some (ya oG):=rfl
def Wt(e:rG):(Int×Int)×List Int×Int:=(((e.1 :Int),(e.2.1 :Int)),e.2.2.1.map (λn:Nat=>(n:Int)),(e.2.2.2 :Int))
theorem ahW:Wv=oG.map Wt:=by decide
theorem ahU(d t:Int):MI d t=(oG.find? (qo d t)).map λe=>(e.2.2.1.map (λn:Nat=>(n:Int)),(e.2.2.2 :Int)):=by
 unfold MI;rw[ahW];generalize oG=l;induction l with
 |nil=>rfl
 |cons e l ih=>
  rw[iH,List.find?_cons];unfold Wt;rw[List.lookup_cons];have:((d,t)==(((e.1 :Int),(e.2.1 :Int))))=qo d t e:=by
   unfold qo
   grind
  rw[this];cases qo d t e with
  |true=>rfl
  |false=>exact ih
theorem Tf{α:Type}[BEq α](l:List α)(x:α):(dc (λy=>x==y) l<0)=(l.any (λy=>x==y)=false):=by rw[xr];simp
theorem akt{w:Nat}(l:List Int)(x:Int)(hl:l.length<2^40)(hw:l.length<w):OH w (aC dI l) x=some (dc (λy=>x==y) l):=by
 refine mJ l (λy=>x==y) (ev:=λi (g:Value->Int->Int->Int->Option Int)=>g (aC dI l) x l.length i) ?_ ?_ hw
 ·intro i g h;simp;rw[bt qM h];simp[dI];rw[aN (by omega) (by omega)]
  grind
 simp
theorem aj5{w:Nat}(l:List Int)(x:Int)(hl:l.length<2^40)(hw:l.length<w):G4 w (aC dI l) x=some (l.contains x):=by
 unfold G4;rw[akt l x hl hw]
 congr 1
 have:=Tf l x;rw[(show l.contains x=l.any (λy=>x==y) from by rw[List.contains_eq_any_beq])];cases h:l.any (λy=>x==y) with
 |true=>simp_all
 |false=>simp_all
def AY(p:Int×Int):List Value:=[.int .i64 p.1,.int .i64 p.2]
theorem agE(p:Int×Int):(AY p).length=2:=rfl
theorem akE{w:Nat}(l:List (Int×Int))(a b:Int)(hl:l.length<2^40)(hw:l.length<w):OS w (aC AY l) a b=some (dc (λy=>(a,b)==y) l):=by
 refine mJ l (λy=>(a,b)==y) (ev:=λi (g:Value->Int->Int->Int->Int->Option Int)=>g (aC AY l) l.length i a b) ?_ ?_ hw
 ·intro i g h;have e1:((i:Int)<(l.length:Int)):=by omega
  simp only[aV,e1,bR];rw[bt agE h];simp only[(show∀(x:Int×Int)(r:List Value),AY x++r=.int .i64 x.1 ::.int .i64 x.2 ::r fromλ_ _=>rfl),cc];rw[aN (by omega) (by omega)];have hb:((a,b)==l[i])=(decide (a=l[i].1)&&decide (b=l[i].2)):=by rw[ir,beq_iff_eq,bu,bZ,bZ,Prod.ext_iff]
  rw[hb];by_cases e2:a=l[i].1
  ·by_cases e3:b=l[i].2
   ·simp
   ·simp
  ·simp
 ·intro g;simp
theorem aj4{w:Nat}(hw:20<=w)(a b:Int):G3 w a b=some (pB.contains (a,b)):=by
 unfold G3 OG;have e:ae 8 (List.drop 0 [Value.int IntKind.i64 0,Value.int IntKind.i64 34665,Value.int IntKind.i64 0,Value.int IntKind.i64 34853,Value.int IntKind.i64 1,Value.int IntKind.i64 513,Value.int IntKind.i64 1,Value.int IntKind.i64 514,Value.int IntKind.i64 2,Value.int IntKind.i64 37500,Value.int IntKind.i64 2,Value.int IntKind.i64 40965,Value.int IntKind.i64 5,Value.int IntKind.i64 45057,Value.int IntKind.i64 5,Value.int IntKind.i64 45058])=aC AY pB:=rfl;rw[e,akE _ _ _ (by decide) (by show 8<w;omega)]
 congr 1
 have:=Tf pB (a,b);rw[(show pB.contains (a,b)=pB.any (λy=>(a,b)==y) from by rw[List.contains_eq_any_beq])];cases h:pB.any (λy=>(a,b)==y) with
 |true=>simp_all
 |false=>simp_all
theorem ahV{d t:Int}{e:rG}(h:oG.find? (qo d t)=some e):e.2.2.1.length<=2:=by
 have:∀e∈oG,e.2.2.1.length<=2:=by decide
 grind
theorem ajP{w:Nat}(hw:20<=w)(d:Int)(t:aK)(hl:t.data.length<2^40):B7 w (ya oG) d t.tag t.ty t.az (ah t.data)=some (rW d t):=by
 unfold B7 rW;simp only[aV,qH];by_cases h1:d<0
 ·rw[ay h1];have:¬(0<=d):=by omega
  simp[this]
 rw[aq h1];by_cases h2:d<6
 case neg=>simp[h2]
 by_cases h3:t.tag<0
 ·rw[ay h3];have:¬(0<=t.tag):=by omega
  simp[this]
 rw[aq h3];by_cases h4:65535<t.tag
 ·rw[ay h4];have:¬(t.tag<=65535):=by omega
  simp[this]
 rw[aq h4];have h5:0<=d/\d<6/\0<=t.tag/\t.tag<=65535:=by omega
 rw[aj4 hw,yG _ _ _ _ hl];simp only[aB,h5,and_self,aW];cases hr:pB.contains (d,t.tag) with
 |true=>rfl
 |false=>
  cases hm:er t.ty t.az t.data with
  |false=>rfl
  |true=>
   rw[ahU];obtain⟨j,hj⟩:=Rr d t.tag oG 0;have hL:∀(zs:List Value)(K:Bool->List Value->Option Bool),AE mR.T 402 (ya oG) (.agg (Array.mk [.int .i64 d,.int .i64 t.tag])) zs K=match oG.find? (qo d t.tag) with
    |none=>K false (zs.map zN)
    |some e=>K true [ae e.2.2.1.length (e.2.2.1.map λt=>.int .i64 (Int.ofNat t)),.int .i64 e.2.2.2]:=by
    intro zs K;unfold AE ya;simp only;rw[Zd];simp;rw[hj];cases oG.find? (qo d t.tag) with
    |none=>rfl
    |some e=>rfl
   rw[hL];cases hf:oG.find? (qo d t.tag) with
   |none=>rfl
   |some e=>
    have hle:=ahV hf;simp only[aZ,rD];have e1:ae e.2.2.1.length (e.2.2.1.map λt=>Value.int .i64 (Int.ofNat t))=aC dI (e.2.2.1.map (λn:Nat=>(n:Int))):=by
     unfold aC;rw[cZ]
     congr 1
     generalize e.2.2.1 =l;induction l with
     |nil=>rfl
     |cons a l ih=>rw[iH,iH,ih];rfl
    rw[e1,aj5 _ _ (by rw[cZ];omega) (by rw[cZ];omega)];cases(e.2.2.1.map (λn:Nat=>(n:Int))).contains t.ty with
    |false=>rfl
    |true=>
     by_cases h0:e.2.2.2 =0
     ·simp[h0]
     ·have h0':¬((e.2.2.2 :Int)=0):=by omega
      rw[(show((e.2.2.2 :Int)==0)=false from by simpa using h0')];simp_all;rfl
theorem Wn:∀{l:List aK},(∀i (hi:i+1<l.length),l[i].tag<l[i+1].tag)->fH l=true
 |[],_=>rfl
 |[a],_=>rfl
 |a::b::l,h=>by simp[fH];exact⟨h 0 (by simp),Wn λi hi=>h (i+1) (by grind)⟩
theorem ahT(d:Int)(l:List aK):cT d l=((List.range l.length).all (λi=>(decide (i=0)||decide ((l[i -1]?.map aK.tag).getD 0<(l[i]?.map aK.tag).getD 0))&&((l[i]?.map (rW d)).getD true))&&decide (0<=d/\d<6)):=by
 unfold cT
 congr 1
 rw[ir];simp;constructor
 ·rintro ⟨h1,h2⟩ i hi
  refine⟨?_,?_⟩
  ·by_cases q:i=0
   ·grind
   ·right;rw[cu hi,cu (show i -1<l.length by omega)];exact vC h1 (by omega) hi
  grind
 ·intro h;refine⟨?_,λx hx=>?_⟩
  ·refine Wn λi hi=>?_
   grind
  ·obtain⟨i,hi,rfl⟩:=List.getElem_of_mem hx
   grind
theorem acG{δ:Type}{z:δ}{F:δ->δ}{w:Nat}(m:Nat)(ok:Nat->Bool)(r:Bool)(ev:Nat->δ->Option Bool)(hs:∀i g,i<m->ev i (F g)=if ok i=true then ev (i+1) g else some false)(he:∀g,ev m (F g)=some r)(hw:m<w):
 ev 0 (lp z F w)=some ((List.range m).all ok&&r):=by
 have key:∀(d i v:Nat),i+d=m->d<v->ev i (lp z F v)=some (((List.range d).all λj=>ok (i+j))&&r):=by
  intro d;induction d with
  |zero=>intro i v hi hv;rw[eG z F (by omega),show i=m by omega,he];rfl
  |succ d ih=>
   intro i v hi hv;rw[eG z F (by omega),hs i _ (by omega),uw];by_cases h:ok i=true
   ·rw[ih (i+1) (v -1) (by omega) (by omega)];simp[h]
    grind
   grind
 grind
theorem q8{w:Nat}(hw:20<=w)(d:Int)(l:List aK)(hl:l.length<2^40)(hd:∀t∈l,t.data.length<2^40)(hlw:l.length<w):nP w d (aw l)=some (cT d l):=by
 unfold nP aw;rw[ajO,ahT];simp only[aB];refine acG l.length _ (decide (0<=d/\d<6)) (ev:=λi (g:Int->Value->Value->Value->Int->Int->Option Bool)=>g d (aC ct l) (ya oG) (aC ct l) l.length i) ?_ ?_ hlw
 ·intro i g h;have e1:((i:Int)<(l.length:Int)):=by omega
  simp only[aV,e1,aD,bR];rw[bt gO h];have tt:∀(t:aK)(r:List Value),ct t++r=.int .i64 t.tag::.int .i64 t.ty::.int .i64 t.az::ah t.data::r:=λ_ _=>rfl;simp only[tt,aZ,bE];rw[ajP hw d l[i] (hd _ (cy h)),cu h];simp only[aB,cc,jd,rD];rw[aN (n:=(i:Int)+1) (by omega) (by omega)];by_cases h0:i=0
  ·have e2:¬((0:Int)<(i:Int)):=by omega
   have e3:decide (i=0)=true:=by simp[h0]
   simp only[e2,bF,aF,e3,Bool.true_or];cases rW d l[i]<;>rfl
  ·have e2:((0:Int)<(i:Int)):=by omega
   simp_all;rw[aN (by omega) (by omega),lU (by omega),show((i:Int) -1).toNat=i -1 by omega];rw[bt gO (show i -1<l.length by omega),cu (show i -1<l.length by omega)];simp_all;by_cases h3:l[i -1].tag<l[i].tag
   ·simp only[h3,aW,aF,eJ];cases rW d l[i]<;>rfl
   ·simp[h3]
 ·intro g;have e1:¬((l.length:Int)<(l.length:Int)):=by omega
  by_cases h1:d<0
  ·have:¬(0<=d):=by omega
   simp[this]
  ·have:0<=d:=by omega
   simp[h1,this]
def fw(l:List UInt8):List Value:=[ah l]
structure Hand(w:Nat):Prop where
 may:∀o ds,ds.length<1000000000->(∀d∈ds,∃(sh:List bc)(s:Nat),cK sh s d=true)->kO ds<=w->vT w o (cR ds)=some true
 set:∀(l:List aK)(x:aK),fH l=true->l.length<2^20->l.length+2<w->(∀t∈l,t.data.length<=1000000000)->x.data.length<=1000000000->Cb w (aw l) x.tag x.ty x.az (ah x.data)=some (aw (kc l x))
 drop:∀(l:List aK)(t:Int),fH l=true->l.length<2^20->l.length+2<w->(∀t∈l,t.data.length<=1000000000)->yK w (aw l) t=some (aw (oY l t))
 cut:∀b:List UInt8,b.length<=65519->Cp w (ah b)=some (aC fw (gw b),0)
 cat:∀a b c d:List UInt8,0<a.length->a.length+b.length+c.length+d.length<2^29->tW w (ah a) (ah b) (ah c) (d.map bg)=some ((d++(a++(b++c))).map bg)
theorem rK(w:Nat)(l:List UInt8)(hl:l.length<=1000000000):nQ w (ah l)=some (ah l):=by
 unfold nQ;by_cases h:l.length=0
 ·have e:Nat.beq l.length 0=true:=by rw[h];rfl
  rw[mH h];rfl
 ·have e:Nat.beq l.length 0=false:=by simp[h]
  unfold N8 FO;rw[iC,iL];have e1:Nat.blt 0 l.length=true:=by simp;omega
  have hn:=nextslicecap_le (need:=0+l.length) (old:=0) (by omega);have e4:(Builtin.nextslicecap (0+l.length) 0).ble 5000000000=true:=by rw[iV];omega
  simp_all;rw[uN _ _ rfl]
theorem Z7(w:Nat)(l:List aK)(h:l.length≠0)(hl:l.length<=1000000000):G7 w (aw l)=some (l.flatMap ct):=by
 unfold G7 aw;rw[Al gO];have hn:=nextslicecap_le (need:=0+l.length) (old:=0) (by omega);have e4:(Builtin.nextslicecap (0+l.length) 0).ble 5000000000=true:=by rw[iV];omega
 have e5:(l.flatMap ct).length.beq (l.length*4)=true:=by rw[cS gO];exact mX _
 simp_all
theorem r9{w:Nat}(l:List aK)(hl:l.length<=100000000)(hd:∀t∈l,t.data.length<=1000000000)(hw:l.length<w):mq w (aw l)=some (aw l):=by
 unfold mq;rw[(show∀K:Nat->Option Value,au (aw l) K=K l.length fromλK=>cw ct l K)];by_cases h:l.length=0
 ·have e:Nat.beq l.length 0=true:=by rw[h];rfl
  rw[mH h];rfl
 have e:Nat.beq l.length 0=false:=by simp[h]
 rw[e];unfold Ol;rw[Z7 w l h (by omega)];have hfl:=cS gO l;simp only[aB,hfl,iW _ (show 0<4 by decide)];refine gS (ev:=λi (g:Int->Int->List Value->Option Value)=>g (l.length:Int) i (l.flatMap ct)) l.length ?_ ?_ hw
 ·intro i g hi;have e1:((i:Int)<(l.length:Int)):=by omega
  have e2:i*4<(l.flatMap ct).length:=by omega
  have e3:0+i*4+1+2+1<=(l.flatMap ct).length:=by omega
  have hdr:(l.flatMap ct).drop (0+i*4+1+2)=ah l[i].data::(l.drop (i+1)).flatMap ct:=by rw[show 0+i*4+1+2=i*4+3 by omega,<-List.drop_drop,nB gO,dw hi];rfl
  simp only[aV,e1,aW,aD,bR,mE,e2,gq,e3];rw[hdr];simp only[aZ];rw[rK w _ (hd _ (cy hi))];simp only[aB,aD,Fb,cc];rw[aN (by omega) (by omega)];have hset:(l.flatMap ct).set (0+i*4+1+2) (ah l[i].data)=l.flatMap ct:=by
   have hg:(l.flatMap ct)[0+i*4+1+2]'(by omega)=ah l[i].data:=by have:=dw (l:=l.flatMap ct) (i:=0+i*4+1+2) (by omega);rw[hdr] at this;exact(List.cons.inj this).1.symm
   rw[<-hg];exact List.set_getElem_self _
  rw[hset];rfl
 ·intro g;simp only[aV,(show¬((l.length:Int)<(l.length:Int)) from by omega),bF,aF];unfold aw aC;rw[hfl,iW _ (show 0<4 by decide)]
theorem max_eq{w:Nat}(a:Int)(l:List Int)(hl:l.length<2^40)(hw:l.length+1<w):G8 w (aC dI (a::l))=some (l.foldl (λm x=>if m<x then x else m) a):=by
 unfold G8;simp only[aV,bU];refine nG (ev:=λi s (g:Value->Int->Int->Option Int)=>g (aC dI (a::l)) s ((i+1:Nat):Int)) (Inv:=λi s=>(l.drop i).foldl (λm x=>if m<x then x else m) s=l.foldl (λm x=>if m<x then x else m) a) l.length a (by rfl) ?_ ?_ (by omega)
 ·rintro i g s hi h1
  rw[dw hi] at h1;refine⟨_,h1,?_⟩;simp only[(show∀K:Nat->Option Int,au (aC dI (a::l)) K=K (l.length+1) fromλK=>cw dI (a::l) K),(show(((i+1:Nat):Int)<((l.length+1:Nat):Int)) from by omega),bR];rw[bt qM (show i+1<(a::l).length by simp;omega)];simp;rw[aN (by omega) (by omega)];rfl
 simp
theorem RA:∀(l:List Int)(a:Int),0<l.foldl (λm x=>if m<x then x else m) a↔(0<a\/∃x∈l,0<x)
 |[],a=>by simp
 |b::l,a=>by
  rw[List.foldl_cons,RA l];by_cases h:a<b
  ·rw[ay h];constructor
   ·simp_all
   grind
  grind
theorem Pg{w:Nat}(hw:20<=w)(a:Int)(l:List Int)(hl:l.length<10):yB w (aC dI (a::l))=some (decide (0<a\/∃x∈l,0<x)):=by
 unfold yB;rw[max_eq a l (by omega) (by omega)];simp only[aB,aV]
 congr 1
 rw[ir,bZ,bZ];exact RA l a
structure jC(x:dr)(m:Nat):Prop where
 rows:qX x m
 d0:∀t∈x.cn,t.data.length<=m
 d2:∀t∈x.bD,t.data.length<=m
 d3:∀t∈x.bM,t.data.length<=m
 d4:∀t∈x.bm,t.data.length<=m
 d1:∀t∈x.first,t.data.length<=m
 Tx:x.bC.length<=m
 th:x.cH.length<=m
theorem XX{w m:Nat}{x:dr}(h:jC x m)(hm:m<2^26)(hw:m+20<w):
 B9 w x.order (aw x.cn) (aw x.bD) (aw x.bM) (aw x.bm) (aw x.first) (ah x.bC) (ah x.cH)=some (iM x):=by
 obtain⟨⟨r0,r2,r3,r4,r1⟩,d0,d2,d3,d4,d1,hmk,hth⟩:=h;have q0:=q8 (w:=w) (by omega) 0 x.cn (by omega) (λt ht=>by have:=d0 t ht;omega) (by omega);have q2:=q8 (w:=w) (by omega) 2 x.bD (by omega) (λt ht=>by have:=d2 t ht;omega) (by omega);have q3:=q8 (w:=w) (by omega) 3 x.bM (by omega) (λt ht=>by have:=d3 t ht;omega) (by omega);have q4:=q8 (w:=w) (by omega) 4 x.bm (by omega) (λt ht=>by have:=d4 t ht;omega) (by omega);have q1:=q8 (w:=w) (by omega) 1 x.first (by omega) (λt ht=>by have:=d1 t ht;omega) (by omega);have hlr:∀(l:List aK)(K:Nat->Option Int),au (aw l) K=K l.length:=λl K=>cw ct l K;have hs:=Pg (w:=w) (by omega) (x.cn.length:Int) [(x.bD.length:Int),(x.bM.length:Int),(x.bm.length:Int),(x.bC.length:Int)] (by simp);have e:aC dI [(x.cn.length:Int),(x.bD.length:Int),(x.bM.length:Int),(x.bm.length:Int),(x.bC.length:Int)]=ae 5 (List.drop 0 [Value.int IntKind.i64 (Int.ofNat x.cn.length),Value.int IntKind.i64 (Int.ofNat x.bD.length),Value.int IntKind.i64 (Int.ofNat x.bM.length),Value.int IntKind.i64 (Int.ofNat x.bm.length),Value.int IntKind.i64 (Int.ofNat x.bC.length)]):=rfl;rw[e] at hs;have hany:(decide ((0:Int)<(x.cn.length:Int)\/∃y∈[(x.bD.length:Int),(x.bM.length:Int),(x.bm.length:Int),(x.bC.length:Int)],0<y))=!decide (x.cn.length=0/\x.bD.length=0/\x.bM.length=0/\x.bm.length=0/\x.bC.length=0):=by rw[ir,bZ,uq,gM];simp only[cQ,mV,mZ,exists_eq_or_imp,exists_eq_left];omega
 rw[hany] at hs;simp only[bU] at hs;have h95:yW w x.order (aw x.cn) (aw x.bD) (aw x.bM) (aw x.bm) (aw x.first) (ah x.bC) (ah x.cH)=some (0,aw x.cn,2,aw x.bD,3,aw x.bM,4,aw x.bm,1,aw x.first):=rfl;unfold B9 iM Nc;simp only[h95,aB,q0,q2,q3,q4,q1,hlr,cN,hs,cg,aV,bU];have fin:(bif !cT 0 x.cn then some (6:Int) else bif !cT 2 x.bD then some 6 else bif !cT 3 x.bM then some 6 else bif !cT 4 x.bm then some 6 else bif !cT 1 x.first then some 6 else bif decide ((65536:Int)<(x.bC.length:Int)) then some 6 else bif !(!decide (x.cn.length=0/\x.bD.length=0/\x.bM.length=0/\x.bm.length=0/\x.bC.length=0)) then some 6 else some 0)=
  some (if(cT 0 x.cn&&(cT 2 x.bD&&(cT 3 x.bM&&(cT 4 x.bm&&cT 1 x.first))))=false then 6 else if 65536<x.bC.length\/(x.cn.length=0/\x.bD.length=0/\x.bM.length=0/\x.bm.length=0/\x.bC.length=0) then 6 else 0):=by
  cases cT 0 x.cn<;>cases cT 2 x.bD<;>cases cT 3 x.bM<;>cases cT 4 x.bm<;>cases cT 1 x.first<;>try rfl
  simp_all;by_cases c1:65536<x.bC.length
  ·rw[ay (by omega),ay (.inl c1)]
  ·rw[aq (by omega)];by_cases c2:(x.cn.length=0/\x.bD.length=0/\x.bM.length=0/\x.bm.length=0/\x.bC.length=0)<;>grind
 by_cases o1:x.order=1
 ·have:¬¬(x.order=1\/x.order=2):=by omega
  rw[aq this];simp only[o1,aW,bJ,aF,hs,aB];exact fin
 ·by_cases o2:x.order=2
  ·have:¬¬(x.order=1\/x.order=2):=by omega
   rw[aq this];simp only[o2,show decide ((2:Int)=1)=false from rfl,gh,aD,aW,bJ,aF,hs,aB];exact fin
  ·have:¬(x.order=1\/x.order=2):=by omega
   rw[ay this];simp only[o1,o2,bF,gh,aD]
theorem ac1(w:Nat)(b:List UInt8)(hb:b.length<=1000000000):G9 w (ah b)=some ((jJ b).tag,(jJ b).ty,(jJ b).az,ah (jJ b).data):=by unfold G9;rw[rK w b hb];rfl
theorem ajX{w m:Nat}(A:Hand w){x:dr}(h:jC x m)(hm:m<=70000)(hw:m+20<w)(hp:fH x.bD=true)(a b c d:Value)(o:Int):
 GU w o a (aw x.bD) b (aw x.bm) c (ah x.bC) d=some (dT (jP x),dS (jP x),dB (jP x)):=by
 obtain⟨⟨r0,r2,r3,r4,r1⟩,d0,d2,d3,d4,d1,hmk,hth⟩:=h;have q4:=r9 (w:=w) x.bm (by omega) (λt ht=>by have:=d4 t ht;omega) (by omega);have hs:=A.set x.bD (jJ x.bC) hp (by omega) (by omega) (λt ht=>by have:=d2 t ht;omega) (by show x.bC.length<=_;omega);have hlr:∀(l:List aK)(K:Nat->Option (Value×Value×Value)),au (aw l) K=K l.length:=λl K=>cw ct l K;unfold GU Nk;rw[(r9 (w:=w) x.bD (by omega) (λt ht=>by have:=d2 t ht;omega) (by omega))];simp only[cN,hlr,aV,bU];unfold jP;by_cases a1:x.bC.length=0
 ·have e1:¬((0:Int)<(x.bC.length:Int)):=by omega
  simp only[e1,aF,ay a1];by_cases a2:x.bm.length=0
  ·have e2:¬((0:Int)<(x.bm.length:Int)):=by omega
   simp only[e2,aF,ay a2];rfl
  ·have e2:((0:Int)<(x.bm.length:Int)):=by omega
   simp only[e2,aD,aq a2,q4,aB];rfl
 ·have e1:((0:Int)<(x.bC.length:Int)):=by omega
  simp only[e1,aD,aq a1];rw[ac1 w _ (by omega)];simp only[aB];rw[hs];by_cases a2:x.bm.length=0
  ·have e2:¬((0:Int)<(x.bm.length:Int)):=by omega
   simp only[e2,aF,ay a2];rfl
  ·have e2:((0:Int)<(x.bm.length:Int)):=by omega
   simp only[e2,aD,aq a2,q4,aB];rfl
theorem ala{w:Nat}(hw:10<=w):pD w (ae 0 [])=some ():=by obtain⟨v,rfl⟩:=wE hw;rfl
theorem alb{w:Nat}(hw:10<=w)(t:Int)(a b c:Value):pD w (ae 1 [.int .i64 t,a,b,c])=some ():=by obtain⟨v,rfl⟩:=wE hw;rfl
theorem alc{w:Nat}(hw:10<=w)(a b c d e f:Value):pD w (ae 2 [.int .i64 34665,a,b,c,.int .i64 34853,d,e,f])=some ():=by obtain⟨v,rfl⟩:=wE hw;rfl
set_option maxHeartbeats 1000000 in
theorem XF{w m:Nat}(A:Hand w){x:dr}(h:jC x m)(hm:m<=70000)(hw:m+20<w):
 BU w x.order (aw x.cn) (aw x.bD) (aw x.bM) (aw x.bm) (aw x.first) (ah x.bC) (ah x.cH)=some (if iM x=0 then(x.order,cR (eS x).dG,0) else(0,ae 0 [],iM x)):=by
 unfold BU Bq qq qs qu;rw[XX h (by omega) hw];simp only[aB,cg];by_cases hc:iM x=0
 case neg=>rw[aq hc];simp only[hc,bF,gh,aD]
 rw[ay hc];simp only[hc,aW,bJ,aF];have hp:=(xX (s8 hc).2.2.1).1;have q196:=λa b c d o=>ajX A h hm hw hp a b c d o;obtain⟨⟨r0,r2,r3,r4,r1⟩,d0,d2,d3,d4,d1,hmk,hth⟩:=h;have q0:=r9 (w:=w) x.cn (by omega) (λt ht=>by have:=d0 t ht;omega) (by omega);have q3:=r9 (w:=w) x.bM (by omega) (λt ht=>by have:=d3 t ht;omega) (by omega);have q1:=r9 (w:=w) x.first (by omega) (λt ht=>by have:=d1 t ht;omega) (by omega);have qt:=rK w x.cH (by omega);have hlr:∀(l:List aK)(K:Nat->Option (Int×Value×Int)),au (aw l) K=K l.length:=λl K=>cw ct l K;have s3:=Pg (w:=w) (by omega) (x.bD.length:Int) [(x.bm.length:Int),(x.bC.length:Int)] (by simp);have e3:aC dI [(x.bD.length:Int),(x.bm.length:Int),(x.bC.length:Int)]=ae 3 (List.drop 0 [Value.int IntKind.i64 (Int.ofNat x.bD.length),Value.int IntKind.i64 (Int.ofNat x.bm.length),Value.int IntKind.i64 (Int.ofNat x.bC.length)]):=rfl;have a3:(decide ((0:Int)<(x.bD.length:Int)\/∃y∈[(x.bm.length:Int),(x.bC.length:Int)],0<y))=!decide (x.bD.length=0/\x.bm.length=0/\x.bC.length=0):=by rw[ir,bZ,uq,gM];simp only[cQ,mV,mZ,exists_eq_or_imp,exists_eq_left];omega
 rw[e3,a3] at s3;have s2:=Pg (w:=w) (by omega) (x.first.length:Int) [(x.cH.length:Int)] (by simp);have e2:aC dI [(x.first.length:Int),(x.cH.length:Int)]=ae 2 (List.drop 0 [Value.int IntKind.i64 (Int.ofNat x.first.length),Value.int IntKind.i64 (Int.ofNat x.cH.length)]):=rfl;have a2:(decide ((0:Int)<(x.first.length:Int)\/∃y∈[(x.cH.length:Int)],0<y))=!decide (x.first.length=0/\x.cH.length=0):=by rw[ir,bZ,uq,gM];simp only[cQ,mV,mZ,exists_eq_left];omega
 rw[e2,a2] at s2;have n0:=ala (w:=w) (by omega);have n1:=λt a b c=>alb (w:=w) (by omega) t a b c;have n2:=λa b c d e f=>alc (w:=w) (by omega) a b c d e f;simp only[eu,bU] at s2 s3;simp only[q0,q3,q1,qt,q196,aB,hlr,cN,s3,s2,eu,nW,pP,eE,fA,bX,List.length_nil,Nat.reduceAdd,Nat.reduceDiv,n0,n1,n2,aV,bU];unfold eS jN nC;by_cases c1:x.bD.length=0/\x.bm.length=0/\x.bC.length=0
 ·rw[fC c1];by_cases c2:x.bM.length=0
  ·have f2:¬((0:Int)<(x.bM.length:Int)):=by omega
   by_cases c3:x.first.length=0/\x.cH.length=0
   ·rw[fC c3];simp only[f2,bF,bJ,aF,ay c1,ay c2,ay c3];rfl
   ·rw[gk c3];simp only[f2,bF,bJ,gh,aD,aF,ay c1,ay c2,aq c3];rfl
  ·have f2:((0:Int)<(x.bM.length:Int)):=by omega
   by_cases c3:x.first.length=0/\x.cH.length=0
   ·rw[fC c3];simp only[f2,aW,bJ,aD,aF,ay c1,aq c2,ay c3];rfl
   ·rw[gk c3];simp only[f2,aW,bJ,gh,aD,aF,ay c1,aq c2,aq c3];rfl
 ·rw[gk c1];have tk:∀r:cI,gK (.cons 34665 (jP x) r)=.int .i64 34665::dT (jP x)::dS (jP x)::dB (jP x)::gK r:=by
   intro r;show Value.int .i64 34665::(cU (jP x)++gK r)=_;rw[qb];rfl
  have td:∀(t:List aK)(r:cI)(b:List UInt8),cU (.mk t r b)=[aw t,ae (cd r) (gK r),ah b]:=λ_ _ _=>rfl;by_cases c2:x.bM.length=0
  ·have f2:¬((0:Int)<(x.bM.length:Int)):=by omega
   by_cases c3:x.first.length=0/\x.cH.length=0
   ·rw[fC c3];simp only[f2,bF,bJ,gh,aD,aF,aq c1,ay c2,ay c3];unfold cR aC;simp only[dK,lu,td,tk];rfl
   ·rw[gk c3];simp only[f2,bF,bJ,gh,aD,aF,aq c1,ay c2,aq c3];unfold cR aC;simp only[dK,lu,td,tk];rfl
  ·have f2:((0:Int)<(x.bM.length:Int)):=by omega
   by_cases c3:x.first.length=0/\x.cH.length=0
   ·rw[fC c3];simp only[f2,aW,bJ,gh,aD,aF,aq c1,aq c2,ay c3];unfold cR aC;simp only[dK,lu,td,tk];rfl
   ·rw[gk c3];simp only[f2,aW,bJ,gh,aD,aF,aq c1,aq c2,aq c3];unfold cR aC;simp only[dK,lu,td,tk];rfl
noncomputable section
def F9(w:Nat):Value->Int->Int->Option (Value×Bool):=λa b c=>au a λd=>lp (α:=Value->Int->Int->Int->Value->Int->Int->List Value->Option (Value×Bool)) (λ_ _ _ _ _ _ _ _=>none) (λm n o p q r s t u=>bif ak t s then aA t λv=>aI 5 v r λy=>af y λz a0=>ar .i64 z λa1=>af a0 λa2 a3=>ar .i64 a2 λa4=>af a3 λa5 a6=>ar .i64 a5 λa7=>af a6 λa8 a9=>ar .i64 a8 λb0=>af a9 λb1 b2=>ar .i64 b1 λb3=>bif ak 0 t then bif !aj (ag .i64 (a7.add o)) q then some (ae 0 [],false) else bif ak a4 1 then some (ae 0 [],false) else bif ak (ag .i64 (p.sub q)) a4 then some (ae 0 [],false) else bif aE u.length&&(aE ([Value.int .i64 (ag .i64 (a7.add o))].length/1)&&[Value.int .i64 (ag .i64 (a7.add o))].length.beq ([Value.int .i64 (ag .i64 (a7.add o))].length/1*1)) then m n o p (ag .i64 (q.add a4)) r s (ag .i64 (t.add 1)) (u++[Value.int .i64 (ag .i64 (a7.add o))]) else none else bif !aj a7 q then some (ae 0 [],false) else bif ak a4 1 then some (ae 0 [],false) else bif ak (ag .i64 (p.sub q)) a4 then some (ae 0 [],false) else bif aE u.length&&(aE ([Value.int .i64 a7].length/1)&&[Value.int .i64 a7].length.beq ([Value.int .i64 a7].length/1*1)) then m n o p (ag .i64 (q.add a4)) r s (ag .i64 (t.add 1)) (u++[Value.int .i64 a7]) else none else au n λb4=>bif aj (Int.ofNat b4) 0 then some (ae 0 [],false) else bif !aj q p then some (ae 0 [],false) else bif aE u.length&&(aE ([Value.int .i64 q].length/1)&&[Value.int .i64 q].length.beq ([Value.int .i64 q].length/1*1)) then some (ae ((u++[Value.int .i64 q]).length/1) (u++[Value.int .i64 q]),true) else none) w a b c 0 a (Int.ofNat d) 0 []
def BN(w:Nat):Int->Int->Value->Int->Value->Value->Value->List Value->List Value->Option (Int×Value×Int×Value×Value×Value×List Value×List Value):=λa b c d e f g h i=>au c λj=>aA b λk=>aA b λl=>aA a λm=>bif k.ble j&&(l.ble k&&m.ble l) then gR 1 m l c λn=>ob (vR w n) λo=>bif !aj o.2.2.2.2.2.2.2.2.2.2.2.2.2 0 then some (o.2.2.2.2.2.2.2.2.2.2.2.2.2,c,d,e,f,g,h,i) else bif aE i.length&&(aE 1&&(List.take 13 (List.drop 0 [Value.int .i64 o.1,o.2.1,o.2.2.1,o.2.2.2.1,o.2.2.2.2.1,o.2.2.2.2.2.1,o.2.2.2.2.2.2.1,o.2.2.2.2.2.2.2.1,o.2.2.2.2.2.2.2.2.1,o.2.2.2.2.2.2.2.2.2.1,o.2.2.2.2.2.2.2.2.2.2.1,Value.int .i64 o.2.2.2.2.2.2.2.2.2.2.2.1,Value.int .i64 o.2.2.2.2.2.2.2.2.2.2.2.2.1])).length.beq 13) then some (0,c,d,e,f,g,h,i++List.take 13 (List.drop 0 [Value.int .i64 o.1,o.2.1,o.2.2.1,o.2.2.2.1,o.2.2.2.2.1,o.2.2.2.2.2.1,o.2.2.2.2.2.2.1,o.2.2.2.2.2.2.2.1,o.2.2.2.2.2.2.2.2.1,o.2.2.2.2.2.2.2.2.2.1,o.2.2.2.2.2.2.2.2.2.2.1,Value.int .i64 o.2.2.2.2.2.2.2.2.2.2.2.1,Value.int .i64 o.2.2.2.2.2.2.2.2.2.2.2.2.1])) else none else none
def Gm(w:Nat):Value->Int->Value->Value->Value->List Value->List Value->Option (Int×Value×Int×Value×Value×Value×List Value×List Value):=λa b c d e f g=>au a λh=>bif ak 4294967295 (Int.ofNat h) then some (7,a,b,c,d,e,f,g) else au a λi=>ob (BN w 0 (Int.ofNat i) a b c d e f g) λj=>some (j.1,j.2.1,j.2.2.1,j.2.2.2.1,j.2.2.2.2.1,j.2.2.2.2.2.1,j.2.2.2.2.2.2.1,j.2.2.2.2.2.2.2)
def yr(E:Value->Value->Option (Int×Value×Int×Value×Value×Value×List Value×List Value)->Option (Int×Value×Int×Value×Value×Value×List Value×List Value))(w:Nat):Value->Int->Value->Value->Value->List Value->List Value->Option (Int×Value×Int×Value×Value×Value×List Value×List Value):=λa b c d e f g=>bif Nat.beq 13 13&&Nat.blt 0 g.length then af (List.drop 0 g) λh i=>ar .i64 h λj=>af i λk l=>af l λm n=>af n λo p=>af p λq r=>af r λs t=>af t λu v=>af v λy z=>af z λa0 a1=>af a1 λa2 a3=>af a3 λa4 a5=>af a5 λa6 a7=>ar .i64 a6 λa8=>af a7 λa9 b0=>ar .i64 a9 λb1=>au a λb2=>au a4 λb3=>bif ak 0 (Int.ofNat b3) then ob (Ce w a4) λb4=>bif !aj b4.2.2.2 0 then some (b4.2.2.2,a,b,ae 2 (List.drop 0 [Value.int .i64 0,Value.int .i64 (Int.ofNat b2)]),ae 1 (List.drop 0 (rep 1 (Value.agg #[Value.int .i64 0,Value.int .i64 0,Value.int .i64 0,Value.int .i64 0,Value.int .i64 0]).cells.toList)),e,f,g) else au a λb5=>ob (F9 w b4.2.1 (ag .i64 (a8.add 4)) (Int.ofNat b5)) λb6=>bif !b6.2 then some (4,a,b,ae 2 (List.drop 0 [Value.int .i64 0,Value.int .i64 (Int.ofNat b2)]),ae 1 (List.drop 0 (rep 1 (Value.agg #[Value.int .i64 0,Value.int .i64 0,Value.int .i64 0,Value.int .i64 0,Value.int .i64 0]).cells.toList)),e,f,g) else E b4.2.2.1 b4.2.2.1 (E b4.2.1 b4.2.1 (E b4.2.2.1 b4.2.2.1 (aI 1 1 b6.1 λb7=>af b7 λb8 b9=>ar .i64 b8 λc0=>bif !aj b1 c0 then some (2,a,b,b6.1,b4.2.1,b4.2.2.1,f,g) else some (0,a,b,b6.1,b4.2.1,b4.2.2.1,f,g)))) else bif !aj b1 (Int.ofNat b2) then some (2,a,b,ae 2 (List.drop 0 [Value.int .i64 0,Value.int .i64 (Int.ofNat b2)]),ae 1 (List.drop 0 (rep 1 (Value.agg #[Value.int .i64 0,Value.int .i64 0,Value.int .i64 0,Value.int .i64 0,Value.int .i64 0]).cells.toList)),e,f,g) else some (0,a,b,ae 2 (List.drop 0 [Value.int .i64 0,Value.int .i64 (Int.ofNat b2)]),ae 1 (List.drop 0 (rep 1 (Value.agg #[Value.int .i64 0,Value.int .i64 0,Value.int .i64 0,Value.int .i64 0,Value.int .i64 0]).cells.toList)),e,f,g) else none
def sw(w:Nat):Value->Int->Value->Value->Value->List Value->List Value->Option (Int×Value×Int×Value×Value×Value×List Value×List Value):=yr (λ_ _ r=>r) w
def BO(E:Value->Value->Option (Value×Int×Value×Value×Value×List Value×List Value)->Option (Value×Int×Value×Value×Value×List Value×List Value))(w:Nat):Int->Value->Value->Int->Value->Value->Value->List Value->List Value->Option (Value×Int×Value×Value×Value×List Value×List Value):=λa b c d e f g h i=>aA a λj=>bif Nat.beq 13 13&&(j*13).blt i.length then af (List.drop (0+j*13) i) λk l=>ar .i64 k λm=>af l λn o=>af o λp q=>af q λr s=>af s λt u=>af u λv y=>af y λz a0=>af a0 λa1 a2=>af a2 λa3 a4=>af a4 λa5 a6=>af a6 λa7 a8=>af a8 λa9 b0=>ar .i64 a9 λb1=>af b0 λb2 b3=>ar .i64 b2 λb4=>aA a λb5=>aI 5 b5 f λb6=>af b6 λb7 b8=>ar .i64 b7 λb9=>af b8 λc0 c1=>ar .i64 c0 λc2=>af c1 λc3 c4=>ar .i64 c3 λc5=>af c4 λc6 c7=>ar .i64 c6 λc8=>af c7 λc9 d0=>ar .i64 c9 λd1=>E f f (bif aE h.length&&(aE 1&&(List.take 14 (List.drop 0 [Value.int .i64 m,n,p,r,t,v,z,a1,a3,a5,Value.int .i64 b9,Value.int .i64 c8,Value.int .i64 d1,b])).length.beq 14) then some (c,d,e,f,g,h++List.take 14 (List.drop 0 [Value.int .i64 m,n,p,r,t,v,z,a1,a3,a5,Value.int .i64 b9,Value.int .i64 c8,Value.int .i64 d1,b]),i) else none) else none
def q9(w:Nat):Int->Value->Value->Int->Value->Value->Value->List Value->List Value->Option (Value×Int×Value×Value×Value×List Value×List Value):=BO (λ_ _ r=>r) w
def Gs(w:Nat):Value->Option (Int×Value×Int):=λa=>ob (yx w) λb=>ob (wc w a b) λc=>bif !aj c.2.2.2 0 then some (0,ae 0 [],c.2.2.2) else aI 3 0 c.2.1 λd=>af (List.drop 0 d) λe f=>ob (nP w 5 e) λg=>bif !g then some (0,ae 0 [],6) else aI 3 0 c.2.1 λh=>af (List.drop 0 h) λi j=>some (c.1,i,0)
def Gn(w:Nat):Value->Int->Value->Value->Value->List Value->List Value->Option (Int×Value×Int×Value×Value×Value×List Value×List Value):=λa b c d e f g=>ob (q9 w 0 e a b c d e f g) λh=>lp (α:=Int->Value->Int->Value->Value->Value->List Value->List Value->Option (Int×Value×Int×Value×Value×Value×List Value×List Value)) (λ_ _ _ _ _ _ _ _=>none) (λq r s t u v y z a0=>au v λa1=>bif ak r (Int.ofNat a1) then aA r λa2=>aI 1 a2 u λa3=>af a3 λa4 a5=>ar .i64 a4 λa6=>aA (ag .i64 (r.add 1)) λa7=>aI 1 a7 u λa8=>af a8 λa9 b0=>ar .i64 a9 λb1=>ob (BN w a6 b1 s r u v y z a0) λb2=>bif !aj b2.1 0 then some (b2.1,b2.2.1,b2.2.2.1,b2.2.2.2.1,b2.2.2.2.2.1,b2.2.2.2.2.2.1,b2.2.2.2.2.2.2.1,b2.2.2.2.2.2.2.2) else aA r λb3=>bif Nat.beq 13 13&&(b3*13).blt (List.length b2.2.2.2.2.2.2.2) then af (List.drop (0+b3*13) b2.2.2.2.2.2.2.2) λb4 b5=>ar .i64 b4 λb6=>af b5 λb7 b8=>af b8 λb9 c0=>af c0 λc1 c2=>af c2 λc3 c4=>af c4 λc5 c6=>af c6 λc7 c8=>af c8 λc9 d0=>af d0 λd1 d2=>af d2 λd3 d4=>af d4 λd5 d6=>af d6 λd7 d8=>ar .i64 d7 λd9=>af d8 λe0 e1=>ar .i64 e0 λe2=>aA (ag .i64 (r.add 1)) λe3=>aI 1 e3 b2.2.2.2.1 λe4=>af e4 λe5 e6=>ar .i64 e5 λe7=>aA r λe8=>aI 1 e8 b2.2.2.2.1 λe9=>af e9 λf0 f1=>ar .i64 f0 λf2=>bif !aj e2 (ag .i64 (e7.sub f2)) then some (2,b2.2.1,b2.2.2.1,b2.2.2.2.1,b2.2.2.2.2.1,b2.2.2.2.2.2.1,b2.2.2.2.2.2.2.1,b2.2.2.2.2.2.2.2) else au d5 λf3=>bif ak 0 (Int.ofNat f3) then ob (Gs w d5) λf4=>bif !aj f4.2.2 0 then some (f4.2.2,b2.2.1,b2.2.2.1,b2.2.2.2.1,b2.2.2.2.2.1,b2.2.2.2.2.2.1,b2.2.2.2.2.2.2.1,b2.2.2.2.2.2.2.2) else ob (q9 w r f4.2.1 b2.2.1 b2.2.2.1 b2.2.2.2.1 b2.2.2.2.2.1 b2.2.2.2.2.2.1 b2.2.2.2.2.2.2.1 b2.2.2.2.2.2.2.2) λf5=>q (ag .i64 (r.add 1)) f5.1 f5.2.1 f5.2.2.1 f5.2.2.2.1 f5.2.2.2.2.1 f5.2.2.2.2.2.1 f5.2.2.2.2.2.2 else ob (q9 w r (ae 0 []) b2.2.1 b2.2.2.1 b2.2.2.2.1 b2.2.2.2.2.1 b2.2.2.2.2.2.1 b2.2.2.2.2.2.2.1 b2.2.2.2.2.2.2.2) λf6=>q (ag .i64 (r.add 1)) f6.1 f6.2.1 f6.2.2.1 f6.2.2.2.1 f6.2.2.2.2.1 f6.2.2.2.2.2.1 f6.2.2.2.2.2.2 else none else some (0,s,t,u,v,y,z,a0)) w 1 h.1 h.2.1 h.2.2.1 h.2.2.2.1 h.2.2.2.2.1 h.2.2.2.2.2.1 h.2.2.2.2.2.2
def Gp(w:Nat):Value->Int->Value->Value->Value->List Value->List Value->Option (Int×Value×Int×Value×Value×Value×List Value×List Value):=λa b c d e f g=>ob (yV w (ae (f.length/14) f)) λh=>ob (yw w (ae (f.length/14) f)) λi=>some (i,a,h.2,c,d,e,f,g)
def Gg(w:Nat):Value->Option (Int×Value×Int×Value×Value×Value×List Value×List Value):=λa=>ob (Gm w a 0 (ae 0 []) (ae 0 []) (ae 0 []) [] []) λb=>bif !aj b.1 0 then some (b.1,b.2.1,b.2.2.1,b.2.2.2.1,b.2.2.2.2.1,b.2.2.2.2.2.1,b.2.2.2.2.2.2.1,b.2.2.2.2.2.2.2) else ob (sw w b.2.1 b.2.2.1 b.2.2.2.1 b.2.2.2.2.1 b.2.2.2.2.2.1 b.2.2.2.2.2.2.1 b.2.2.2.2.2.2.2) λc=>bif !aj c.1 0 then some (c.1,c.2.1,c.2.2.1,c.2.2.2.1,c.2.2.2.2.1,c.2.2.2.2.2.1,c.2.2.2.2.2.2.1,c.2.2.2.2.2.2.2) else ob (Gn w c.2.1 c.2.2.1 c.2.2.2.1 c.2.2.2.2.1 c.2.2.2.2.2.1 c.2.2.2.2.2.2.1 c.2.2.2.2.2.2.2) λd=>bif !aj d.1 0 then some (d.1,d.2.1,d.2.2.1,d.2.2.2.1,d.2.2.2.2.1,d.2.2.2.2.2.1,d.2.2.2.2.2.2.1,d.2.2.2.2.2.2.2) else ob (Gp w d.2.1 d.2.2.1 d.2.2.2.1 d.2.2.2.2.1 d.2.2.2.2.2.1 d.2.2.2.2.2.2.1 d.2.2.2.2.2.2.2) λe=>bif !aj e.1 0 then some (e.1,e.2.1,e.2.2.1,e.2.2.2.1,e.2.2.2.2.1,e.2.2.2.2.2.1,e.2.2.2.2.2.2.1,e.2.2.2.2.2.2.2) else some (0,e.2.1,e.2.2.1,e.2.2.2.1,e.2.2.2.2.1,e.2.2.2.2.2.1,e.2.2.2.2.2.2.1,e.2.2.2.2.2.2.2)
def vK(w:Nat):Value->Option (Value×Int×Int):=λa=>ob (Gg w a) λb=>bif !aj b.1 0 then bif aj b.2.2.1 b.2.2.1 then some (ae 0 [],b.2.2.1,b.1) else none else some (ae (List.length b.2.2.2.2.2.2.1 /14) b.2.2.2.2.2.2.1,0,0)
def Xy(w:Nat):Int->Int->Int->Value->Int->Int->Int->Value->Option (Bool):=λa b c d e f g h=>bif aj a e then ob (Hz w b c d f g h) λi=>some i else some false
def OZ(w:Nat):Value->Value->Option (Bool):=λa b=>au a λc=>au b λd=>bif !aj (Int.ofNat c) (Int.ofNat d) then some false else au a λe=>lp (α:=Value->Value->Int->Int->Option Bool) (λ_ _ _ _=>none) (λj k l m n=>bif ak n m then aA n λo=>aI 4 o l λp=>af p λq r=>ar .i64 q λs=>af r λt u=>ar .i64 t λv=>af u λy z=>ar .i64 y λa0=>af z λa1 a2=>aA n λa3=>aI 4 a3 k λa4=>af a4 λa5 a6=>ar .i64 a5 λa7=>af a6 λa8 a9=>ar .i64 a8 λb0=>af a9 λb1 b2=>ar .i64 b1 λb3=>af b2 λb4 b5=>ob (Xy w s v a0 a1 a7 b0 b3 b4) λb6=>bif !b6 then some false else j k l m (ag .i64 (n.add 1)) else some true) w b a (Int.ofNat e) 0
def Gh(w:Nat):Int->Value->Value->Value->Value->Value->Value->Value->Value->Value->Int->Int->Int->Value->Int->Value->Value->Value->Value->Value->Value->Value->Value->Value->Int->Int->Int->Value->Option (Bool):=λa b c d e f g h i j k l m n o p q r s t u v y z a0 a1 a2 a3=>ob (HD w a b c d e f g h o p q r s t u v) λa4=>bif a4 then ob (sE w i y) λa5=>bif a5 then ob (sE w j z) λa6=>bif a6 then bif aj k a0 then bif aj l a1 then bif aj m a2 then ob (OZ w n a3) λa7=>some a7 else some false else some false else some false else some false else some false else some false
def NJ(w:Nat):Value->Value->Option (Bool):=λa b=>au a λc=>au b λd=>bif !aj (Int.ofNat c) (Int.ofNat d) then some false else au a λe=>lp (α:=Value->Value->Int->Int->Option Bool) (λ_ _ _ _=>none) (λj k l m n=>bif ak n m then aA n λo=>aI 14 o l λp=>af p λq r=>ar .i64 q λs=>af r λt u=>af u λv y=>af y λz a0=>af a0 λa1 a2=>af a2 λa3 a4=>af a4 λa5 a6=>af a6 λa7 a8=>af a8 λa9 b0=>af b0 λb1 b2=>af b2 λb3 b4=>ar .i64 b3 λb5=>af b4 λb6 b7=>ar .i64 b6 λb8=>af b7 λb9 c0=>ar .i64 b9 λc1=>af c0 λc2 c3=>aA n λc4=>aI 14 c4 k λc5=>af c5 λc6 c7=>ar .i64 c6 λc8=>af c7 λc9 d0=>af d0 λd1 d2=>af d2 λd3 d4=>af d4 λd5 d6=>af d6 λd7 d8=>af d8 λd9 e0=>af e0 λe1 e2=>af e2 λe3 e4=>af e4 λe5 e6=>af e6 λe7 e8=>ar .i64 e7 λe9=>af e8 λf0 f1=>ar .i64 f0 λf2=>af f1 λf3 f4=>ar .i64 f3 λf5=>af f4 λf6 f7=>ob (Gh w s t v z a1 a3 a5 a7 a9 b1 b5 b8 c1 c2 c8 c9 d1 d3 d5 d7 d9 e1 e3 e5 e9 f2 f5 f6) λf8=>bif !f8 then some false else j k l m (ag .i64 (n.add 1)) else some true) w b a (Int.ofNat e) 0
def Ga(w:Nat):Value->Value->Option (Bool):=λa b=>ob (NJ w a b) λc=>some c
end
theorem agw{t:aK}{m:Nat}(h:er t.ty t.az t.data=true)(hd:t.data.length<=m):bO t.ty t.az<=m:=by
 have:=xO h
 grind
theorem zX{m:Nat}:∀(l:List aK)(e:Nat),(∀t∈l,er t.ty t.az t.data=true/\t.data.length<=m)->cf e l<=e+l.length*(m+1)
 |[],e,_=>by simp[cf]
 |t::l,e,h=>by
  have h1:=h t (by simp);have ho:=agw h1.1 h1.2;have ih:=λe=>zX l e λt ht=>h t (by grind);have hev:=uT e;rw[bX,QY]
  grind
theorem alf(no:Nat)(l:List aK)(e:Nat):(cW no e l).length<=l.length:=Pm no l e
mutual
theorem QV{sh:List bc}{m B:Nat}(hB:24*m+40+m*(m+1)+m<=B):∀(d:aU)(s e:Nat),cK sh s d=true->iw m d->bB e d<=e+dD d*B
 | .mk tags subs blob,s,e,hh,hd=>by
  have hd:tags.length<=m/\cd subs<=m/\blob.length<=m/\(∀t∈tags,t.data.length<=m)/\iy m subs:=hd;simp[cK] at hh;obtain⟨⟨n1,n2⟩,ht,hbl,hr,hss⟩:=hh;have htg:∀t∈tags,er t.ty t.az t.data=true/\t.data.length<=m:=λt h=>by simp[kh] at ht;simp_all
  have hN:bH (.mk tags subs blob)<=2*m+2:=by
   show tags.length+cd subs+(if blob.length=0 then 0 else 2)<=2*m+2
   grind
  have h1:=zX tags (aJ e+(6+12*bH (.mk tags subs blob))) htg;have h2:=QX hB subs (aO sh s) (cf (aJ e+(6+12*bH (.mk tags subs blob))) tags) hss hd.2.2.2.2;have h3:=uT e;have h4:=uT (ej (cf (aJ e+(6+12*bH (.mk tags subs blob))) tags) subs);have h5:tags.length*(m+1)<=m*(m+1):=wF _ hd.1;rw[dD,lP,bB]
  grind
theorem QX{sh:List bc}{m B:Nat}(hB:24*m+40+m*(m+1)+m<=B):∀(r:cI)(S:bc)(e:Nat),jc sh S r=true->iy m r->ej e r<=e+ib r*B
 | .nil,S,e,_,_=>by unfold ej;omega
 | .cons t d r,S,e,hh,hd=>by simp[jc] at hh;have h1:=QV hB d _ e hh.2.1 hd.1;have h2:=QX hB r S (bB e d) hh.2.2 hd.2;rw[ej,ib,lP];omega
end
mutual
theorem Yz{m:Nat}:∀(d:aU)(no e:Nat),iw m d->(fW no e d).length<=dD d*(m+2)
 | .mk tags subs blob,no,e,hd=>by
  have hd:tags.length<=m/\cd subs<=m/\blob.length<=m/\(∀t∈tags,t.data.length<=m)/\iy m subs:=hd;have h1:=alf no tags (aJ e+(6+12*bH (.mk tags subs blob)));have h2:=YB subs (no+1) (cf (aJ e+(6+12*bH (.mk tags subs blob))) tags) hd.2.2.2.2;rw[dD,fW]
  grind
theorem YB{m:Nat}:∀(r:cI)(no e:Nat),iy m r->(kI no e r).length<=ib r*(m+2)
 | .nil,no,e,_=>by unfold kI;simp
 | .cons t d r,no,e,hd=>by have h1:=Yz d no e hd.1;have h2:=YB r (no+dD d) (bB e d) hd.2;rw[kI,ib,lP,aS];omega
end
theorem QU{sh:List bc}{m B:Nat}(hB:24*m+40+m*(m+1)+m<=B):∀(ds:List aU)(s:Int)(e:Nat),gx sh s ds=true->oe m ds->ef e ds<=e+gX ds*B
 |[],s,e,_,_=>by simp[ef]
 |d::ds,s,e,hh,hd=>by simp[gx] at hh;have h1:=QV hB d _ e hh.2.1 (hd d (by simp));have h2:=QU hB ds _ (bB e d) hh.2.2 λd h=>hd d (by grind);rw[ef,gX,lP];omega
theorem CA{m:Nat}:∀(ds:List aU)(no e:Nat),oe m ds->(jz no e ds).length<=gX ds*(m+2)
 |[],no,e,_=>by simp[jz]
 |d::ds,no,e,hd=>by have h1:=Yz d no e (hd d (by simp));have h2:=CA ds (no+dD d) (bB e d) λd h=>hd d (by grind);rw[jz,gX,lP,aS];omega
theorem Km{sh:List bc}:∀{ds:List aU}{s:Int},gx sh s ds=true->∀d∈ds,∃s,cK sh s d=true
 |[],_,_,d,h=>by grind
 |a::ds,s,hh,d,h=>by
  simp[gx] at hh;rcases cQ.1 h with rfl|h
  ·grind
  ·exact Km hh.2.2 d h
structure dC(w:Nat):Prop where
 hand:Hand w
 ku:200000<=w
theorem Py{w:Nat}(W:dC w){sh:List bc}{o:Int}{ds:List aU}(ok:iZ sh)(tz:re w (cq sh)=some true)(s0:0<sh.length)(bN:∀s,s<sh.length->(aO sh s).bN.length<=10000)(ho:o=1\/o=2)(cF:ds≠[])(iD:ds.length<=10000)(hd:oe 10000 ds)(jX:kO ds<=10)(hc:gX ds<=8)(hh:gx sh 0 ds=true):oT w 10000 sh o ds:=by have hb:=W.ku;have h1:=QU (B:=100360040) (by simp) ds 0 8 hh hd;have h2:=CA ds 0 8 hd;have h5:(ff ⟨o,ds⟩).length=(jz 0 8 ds).length+1:=rfl;exact⟨(by simp),(by omega),(by omega),ok,tz,s0,bN,ho,cF,iD,hd,by omega,hh,by omega,by omega,by omega,by omega,(W.hand.may o ds (by omega) (λd hd=>by obtain⟨s,h⟩:=Km hh d hd;exact⟨sh,s,h⟩) (by omega))⟩
theorem Ro(s:Nat)(hs:s<db.length):(aO db s).bN.length<=10000:=by
 have:s=0\/s=1\/s=2\/s=3\/s=4:=by simp[db] at hs;omega
 rcases this with rfl|rfl|rfl|rfl|rfl<;>decide
theorem aiw{m:Nat}{l:List aK}{x:aK}(h:∀t∈l,t.data.length<=m)(hx:x.data.length<=m):∀t∈kc l x,t.data.length<=m:=by intro t ht;rcases Xq ht with rfl|ht<;>grind
theorem alK{x:dr}{m:Nat}(h:jC x m)(h1:1<=m):iw (m+1) (jP x)/\dD (jP x)<=2/\fR (jP x)<=2:=by
 obtain⟨⟨r0,r2,r3,r4,r1⟩,d0,d2,d3,d4,d1,hmk,hth⟩:=h;unfold jP;have hl:=Xp x.bD (jJ x.bC);have hsub:iy (m+1) (if x.bm.length=0 then .nil else .cons 40965 (.mk x.bm .nil []) .nil)/\cd (if x.bm.length=0 then .nil else .cons 40965 (.mk x.bm .nil []) .nil)<=1/\ib (if x.bm.length=0 then .nil else .cons 40965 (.mk x.bm .nil []) .nil)<=1/\jU (if x.bm.length=0 then .nil else .cons 40965 (.mk x.bm .nil []) .nil)<=1:=by
  split
  ·exact⟨trivial,by decide,by decide,by decide⟩
  ·refine⟨⟨⟨by omega,by show 0<=_;omega,by show 0<=_;omega,λt ht=>by have:=d4 t ht;omega,trivial⟩,trivial⟩,by simp[cd],by simp[ib,dD],by simp[jU,fR]⟩
 refine⟨⟨?_,by omega,by show 0<=_;omega,?_,hsub.1⟩,by rw[dD];omega,by rw[fR];omega⟩
 ·grind
 ·split
  ·grind
  ·exact aiw (λt ht=>by have:=d2 t ht;omega) (by show x.bC.length<=_;omega)
theorem YX{x:dr}{m:Nat}(h:jC x m)(h1:2<=m):oe (m+1) (eS x).dG/\gX (eS x).dG<=5/\kO (eS x).dG<=3/\(eS x).dG.length<=2:=by
 obtain⟨t1,t2,t3⟩:=alK h (by omega);obtain⟨⟨r0,r2,r3,r4,r1⟩,d0,d2,d3,d4,d1,hmk,hth⟩:=h;have hg:iy (m+1) (nC x)/\cd (nC x)<=1/\ib (nC x)<=1/\jU (nC x)<=1:=by
  unfold nC;split
  ·exact⟨trivial,by decide,by decide,by decide⟩
  ·exact⟨⟨⟨by omega,by show 0<=_;omega,by show 0<=_;omega,λt ht=>by have:=d3 t ht;omega,trivial⟩,trivial⟩,by simp[cd],by simp[ib,dD],by simp[jU,fR]⟩
 have hs:iy (m+1) (jN x)/\cd (jN x)<=2/\ib (jN x)<=3/\jU (jN x)<=2:=by
  unfold jN;split
  ·exact⟨hg.1,by omega,by omega,by omega⟩
  ·refine⟨⟨t1,hg.1⟩,by rw[cd];omega,by rw[ib];omega,by rw[jU];omega⟩
 have h0:iw (m+1) (.mk x.cn (jN x) []):=⟨by omega,by omega,by show 0<=_;omega,λt ht=>by have:=d0 t ht;omega,hs.1⟩;unfold eS;by_cases c:x.first.length=0/\x.cH.length=0
 ·simp only[ay c];refine⟨λd hd=>?_,by simp only[gX,dD];omega,by simp only[kO,fR];omega,by simp⟩;rw[nV.1 hd];exact h0
 ·simp only[aq c];refine⟨λd hd=>?_,by simp only[gX,dD,ib];omega,by simp only[kO,fR,jU];omega,by simp⟩;simp_all;rcases hd with rfl|rfl
  ·exact h0
  ·exact(⟨by omega,by show 0<=_;omega,by omega,λt ht=>by have:=d1 t ht;omega,trivial⟩)
theorem iw.mono{m m':Nat}(h:m<=m'):∀{d:aU},iw m d->iw m' d:=by
 have key:(∀d:aU,iw m d->iw m' d)/\∀r:cI,iy m r->iy m' r:=by
  refine⟨λd=>?_,λr=>?_⟩
  ·exact aU.rec (motive_2:=λr=>iy m r->iy m' r) (λtags subs blob ih hd=>by have hd:tags.length<=m/\cd subs<=m/\blob.length<=m/\(∀t∈tags,t.data.length<=m)/\iy m subs:=hd;exact⟨by omega,by omega,by omega,λt ht=>by have:=hd.2.2.2.1 t ht;omega,ih hd.2.2.2.2⟩) (λ_=>trivial) (λt d r i1 i2 hd=>⟨i1 hd.1,i2 hd.2⟩) d
  ·exact cI.rec (motive_1:=λd=>iw m d->iw m' d) (λtags subs blob ih hd=>by have hd:tags.length<=m/\cd subs<=m/\blob.length<=m/\(∀t∈tags,t.data.length<=m)/\iy m subs:=hd;exact⟨by omega,by omega,by omega,λt ht=>by have:=hd.2.2.2.1 t ht;omega,ih hd.2.2.2.2⟩) (λ_=>trivial) (λt d r i1 i2 hd=>⟨i1 hd.1,i2 hd.2⟩) r
 grind
theorem DN{w:Nat}(W:dC w){x:dr}(h:jC x 9000)(hc:iM x=0):oT w 10000 db x.order (eS x).dG:=by obtain⟨a,b,c,d⟩:=YX h (by simp);have hr:=h.rows;refine Py W JT (aj1 (by have:=W.ku;omega)) (by decide) Ro (s8 hc).1 (by simp[eS]) (by omega) (λd hd=>(a d hd).mono (by simp)) (by omega) (by omega) (YY hc ?_);unfold qX at hr⊢;omega
theorem alP(x:dr):(⟨x.order,(eS x).dG⟩:mC)=eS x:=rfl
theorem NZ(w:Nat):BX w=some (cq db):=rfl
theorem ak3{w:Nat}(W:dC w){x:dr}(h:jC x 9000):HU w x.order (aw x.cn) (aw x.bD) (aw x.bM) (aw x.bm) (aw x.first) (ah x.bC) (ah x.cH)=some (if iM x=0 then(ah (eC (eS x) db),0) else(ae 0 [],iM x)):=by
 have hb:=W.ku;unfold HU;rw[XF W.hand h (by simp) (by omega)];by_cases hc:iM x=0
 ·rw[ay hc,ay hc];rw[NZ];simp;rw[XG (DN W h hc)];rfl
 simp_all
theorem ak2{w:Nat}(W:dC w){x:dr}(h:jC x 9000):HM w x.order (aw x.cn) (aw x.bD) (aw x.bM) (aw x.bm) (aw x.first) (ah x.bC) (ah x.cH)=some (if iM x=0 then(65527 -(gP (eS x):Int),0) else(0,iM x)):=by
 have hb:=W.ku;unfold HM;rw[XF W.hand h (by simp) (by omega)];simp;by_cases hc:iM x=0
 ·rw[ay hc,ay hc];have T:=DN W h hc;have:=T.he;rw[T.cC];simp;rw[aN (by omega) (by omega)];rfl
 grind
theorem Qw(a:List Int)(b:List UInt8)(h:a=b.map λc=>(c.toNat:Int)):bk a=b.map bg:=by subst h;unfold bk;rw[List.map_map];rfl
theorem OQ{w:Nat}(W:dC w){x:dr}(h:jC x 9000):Cg w x.order (aw x.cn) (aw x.bD) (aw x.bM) (aw x.bm) (aw x.first) (ah x.bC) (ah x.cH)=some (match iK x with| .ok b=>(ah b,0)| .error e=>(ae 0 [],e)):=by
 unfold Cg zG iK;rw[ak2 W h,ak3 W h];by_cases hc:iM x=0
 case neg=>simp_all
 rw[ay hc,ay hc,aq (by omega)];simp only[aB,aV];by_cases h2:65533<6+gP (eS x)
 ·have:(65527:Int) -(gP (eS x):Int)<0:=by omega
  simp_all
 ·have h3:¬((65527:Int) -(gP (eS x):Int)<0):=by omega
  simp only[h3,bF,aq h2];unfold uL;have hl:=wm (DN W h hc).hh;have hpos:8<=gP (eS x):=qc _ _;simp only[show aj 0 0=true from rfl];rw[sY];have r2:((eC (eS x) db).map λb=>(b.toNat:Int)).isEmpty=false:=by
   cases q:eC (eS x) db with
   |nil=>rw[q] at hl;simp at hl;omega
   |cons _ _=>rfl
  simp only[(show aE ((eC (eS x) db).map λb=>(b.toNat:Int)).length=true from by simp;omega),r2,aD,aF];rw[Qw _ (nA++eC (eS x) db) (by rw[gV];rfl),uN _ _ (by simp[nA];omega)]
theorem XR{w:Nat}{sh:List bc}{o:Int}{ds:List aU}(T:oT w 10000 sh o ds):vL w o (cR ds) (cq sh)=some (if 65533<4+gP ⟨o,ds⟩ then(ae 0 [],7) else(ah (gz++eC ⟨o,ds⟩ sh),0)):=by
 unfold vL tG;rw[XG T];have hl:(eC ⟨o,ds⟩ sh).length=gP ⟨o,ds⟩:=wm T.hh;have he:gP ⟨o,ds⟩<=1000000000:=T.he;have hpos:8<=gP ⟨o,ds⟩:=qc _ _;simp only[aB,show aj 0 0=true from rfl];rw[sY];have r2:((eC ⟨o,ds⟩ sh).map λb=>(b.toNat:Int)).isEmpty=false:=by
  cases q:eC ⟨o,ds⟩ sh with
  |nil=>grind
  |cons _ _=>rfl
 simp only[cZ,hl,(show aE (gP ⟨o,ds⟩)=true from by simp;omega),r2,aD,aF,mE,qH];split
 ·rfl
 ·rw[Qw _ (gz++eC ⟨o,ds⟩ sh) (by rw[gV];rfl),uN _ _ (by simp[gz];omega)]
theorem NK(w:Nat)(m:Int):yn w m=some (ja m):=by
 unfold yn ja;simp
 grind
theorem X0(w:Nat)(m:Int):yE w m=some (oF m):=by
 unfold yE oF;by_cases h1:m<208
 ·have:¬(208<=m/\m<=215):=by omega
  simp_all
 ·by_cases h2:m<216
  ·have:(208<=m/\m<=215):=by omega
   simp_all
  ·have:¬(208<=m/\m<=215):=by omega
   simp[h2,this]
theorem XT(w:Nat)(m:Int):B4 w m=some (lI m):=by
 unfold B4 lI;rw[NK,X0];simp
 grind
theorem IT{b:UInt8}:ag IntKind.i64 (b.toNat:Int)=(b.toNat:Int):=by have:=b.toNat_lt;exact aN (by simp) (by omega)
theorem alO{w:Nat}(l:List UInt8)(hl:l.length<2^60):Ca w (ah l)=some (match l.getLast? with|some b=>if b=255 then 1 else 0|none=>0):=by
 unfold Ca;by_cases h:l.length=0
 ·rw[mH h];rfl
 ·have e1:((0:Int)<(l.length:Int)):=by omega
  simp_all;rw[aN (by omega) (by omega),lU (by omega),show((l.length:Int) -1).toNat=l.length -1 by omega,oA (show l.length -1<l.length by omega)];simp;have hg:l.getLast? =some l[l.length -1]:=by rw[List.getLast?_eq_getElem?,cu (by omega)]
  rw[hg];simp only;by_cases h5:l[l.length -1]=255
  ·rw[ay h5,ay (by rw[h5];rfl)]
  ·rw[aq h5,aq (by intro q;exact h5 (nX.1 (by have:(255:UInt8).toNat=255:=rfl;omega)))]
theorem XS{w:Nat}(l:List UInt8)(hl:l.length<2^60)(hw:l.length<w):yy w (ah l)=some (fU l:Int):=by
 have key:∀(z:Value->Int->Option Int)(F:(Value->Int->Option Int)->Value->Int->Option Int)(hF:F=λ(x3:Value->Int->Option Int)(x4:Value)(x5:Int)=>au x4 λ(x6:Nat)=>bif ak (ag IntKind.i64 (x5.add 1)) (Int.ofNat x6) then aA x5 λ(x7:Nat)=>aI 1 x7 x4 λ(x8:List Value)=>af x8 λ(x9:Value)(x10:List Value)=>ar IntKind.u8 x9 λ(x11:Int)=>bif aj x11 255 then aA (ag IntKind.i64 (x5.add 1)) λ(x12:Nat)=>aI 1 x12 x4 λ(x13:List Value)=>af x13 λ(x14:Value)(x15:List Value)=>ar IntKind.u8 x14 λ(x16:Int)=>bif !aj x16 0 then aA (ag IntKind.i64 (x5.add 1)) λ(x17:Nat)=>aI 1 x17 x4 λ(x18:List Value)=>af x18 λ(x19:Value)(x20:List Value)=>ar IntKind.u8 x19 λ(x21:Int)=>ob (yE w (ag IntKind.i64 x21)) λ(x22:Bool)=>bif !x22 then some x5 else x3 x4 (ag IntKind.i64 (x5.add 1)) else x3 x4 (ag IntKind.i64 (x5.add 1)) else x3 x4 (ag IntKind.i64 (x5.add 1)) else au x4 λ(x23:Nat)=>ob (Ca w x4) λ(x24:Int)=>some (ag IntKind.i64 ((Int.ofNat x23).sub x24))),
  ∀(d i v:Nat),i+d+1=l.length->d<v->lp z F v (ah l) (i:Int)=some ((i+fU (l.drop i):Nat):Int):=by
  intro z F hF d;induction d with
  |zero=>
   intro i v hi hv;rw[eG z F (by omega),hF];simp only[cN,cc];rw[aN (by omega) (by omega)];have e1:¬((i:Int)+1<(l.length:Int)):=by omega
   have hlt:i<l.length:=by omega
   have hll:l.drop i=[l[i]]:=by rw[dw hlt,wA (by omega)]
   have hg:l.getLast? =some l[i]:=by rw[List.getLast?_eq_getElem?,show l.length -1=i by omega,cu hlt]
   simp only[aV,bU,e1,bF,aF];rw[alO l hl,hll,hg];simp only[aB,jd];by_cases h5:l[i]=255
   ·rw[ay h5,h5,air,aN (by omega) (by omega)]
    congr 1;omega
   ·rw[aq h5,Bz h5,aN (by omega) (by omega)]
    congr 1
    show(l.length:Int) -0=((i+(0+1):Nat):Int);omega
  |succ d ih=>
   intro i v hi hv;have hlt:i<l.length:=by omega
   have hlt2:i+1<l.length:=by omega
   have hll:l.drop i=l[i]::l[i+1]::l.drop (i+2):=by rw[dw hlt,dw hlt2]
   have hll2:l.drop (i+1)=l[i+1]::l.drop (i+2):=dw hlt2;have ih:=ih (i+1) (v -1) (by omega) (by omega);rw[hll2] at ih;rw[hll,eG z F (by omega)];generalize lp z F (v -1)=g at ih⊢;rw[hF];have e1:((i:Int)+1<(l.length:Int)):=by omega
   simp only[cN,cc];rw[aN (by omega) (by omega)];simp only[aV,bU,e1,aW,aD,bR];rw[show(i:Int)+1=((i+1:Nat):Int) by omega];simp only[bR];rw[oA hlt,oA hlt2];simp only[aZ,pW,cg,X0,IT,aB];by_cases h5:l[i]=255
   ·have e5:((l[i].toNat:Int)=255):=by rw[h5];rfl
    rw[h5,Nt] at*;simp only[show(((255:UInt8).toNat:Int)=255) from rfl,aW,aD];by_cases h6:l[i+1]=0
    ·have e6:((l[i+1].toNat:Int)=0):=by rw[h6];rfl
     have:¬(l[i+1]≠0/\oF (l[i+1].toNat:Int)=false):=λq=>q.1 h6;rw[aq this];simp only[e6,aW,bJ,aF];rw[ih]
     congr 2;omega
    ·have e6:¬((l[i+1].toNat:Int)=0):=by
      intro q;exact h6 (nX.1 (by have:(0:UInt8).toNat=0:=rfl;omega))
     simp only[e6,bF,gh,aD];rw[oA hlt2];simp only[aZ,pW,IT];cases hr:oF (l[i+1].toNat:Int) with
     |true=>
      have:¬(l[i+1]≠0/\true=false):=λq=>by cases q.2
      rw[aq this];simp only[bJ,aF];rw[ih]
      congr 2;omega
     |false=>rw[ay ⟨h6,rfl⟩];rfl
   ·have e5:¬((l[i].toNat:Int)=255):=by
     intro q;exact h5 (nX.1 (by have:(255:UInt8).toNat=255:=rfl;omega))
    rw[Bz h5];simp only[e5,bF,aF];rw[ih]
    congr 2;omega
 by_cases h0:l.length=0
 ·rw[mH h0];unfold yy;rw[eG _ _ (by omega)];rfl
 ·unfold yy;refine Eq.trans (key _ _ rfl (l.length -1) 0 w (by omega) (by omega)) ?_;rw[eu,gj]
def cO(s:bK):List Value:=[.int .i64 s.bW,ah s.data,ah s.scan]
theorem jL(s:bK):(cO s).length=3:=rfl
def dJ(l:List bK):Value:=aC cO l
theorem Ep(w:Nat)(n:Int)(b:List UInt8)(p:Nat)(hb:b.length<2^60)(hp:p<=b.length):vM w n (ah b) (p:Int)=some (if((b.length -p:Nat):Int)<n then .inr ((b.length:Int),3,ah b,(p:Int)) else .inl (ah b,(p:Int))):=by
 unfold vM;simp only[cN,jd,bU];rw[aN (by omega) (by omega)];simp
 grind
theorem aiT(w:Nat)(b:List UInt8)(p:Nat)(hb:b.length<2^60)(hp:p<=b.length):tV w (ah b) (p:Int)=some (match b.drop p with
 |[]=>.inr ((b.length:Int),3,ah b,(p:Int))
 |[x]=>if x=255 then .inr ((b.length:Int),3,ah b,(p:Int)) else .inr ((p:Int),2,ah b,(p:Int))
 |x::m::_=>if x≠255 then .inr ((p:Int),2,ah b,(p:Int)) else if((decide (p=0)!=decide (m=216))||!(ja m.toNat||lI m.toNat))=true then .inr ((p:Int),2,ah b,(p:Int)) else .inl ((m.toNat:Int),ah b,((p+2:Nat):Int))):=by
 unfold tV FZ;rw[Ep w 1 b p hb hp];simp only[aB];by_cases h1:p<b.length
 case neg=>rw[ay (by omega),wA (by omega)];rfl
 rw[aq (by omega),dw h1];simp only[iG,bR];rw[oA h1];simp only[aZ,pW,cg];by_cases h2:b[p]=255
 case neg=>
  have e2:¬((b[p].toNat:Int)=255):=by intro q;exact h2 (nX.1 (by have:(255:UInt8).toNat=255:=rfl;omega))
  simp only[e2,bF,gh,aD];generalize b.drop (p+1)=r;cases r with
  |nil=>simp only;rw[aq h2]
  |cons m r=>simp only;rw[ay h2]
 have e2:((b[p].toNat:Int)=255):=by rw[h2];rfl
 simp only[e2,aW,aF];rw[Ep w 2 b p hb hp];simp only[aB];by_cases h3:p+1<b.length
 case neg=>rw[ay (by omega),wA (show b.length<=p+1 by omega),h2];simp
 rw[aq (by omega),dw h3,h2];simp only[iG,cc,ne_eq,gQ];rw[aN (by omega) (by omega),show(p:Int)+1=((p+1:Nat):Int) by omega];simp only[bR];rw[oA h3];simp only[aZ,pW,IT,XT];generalize b[p+1]=m;have hp0:decide ((p:Int)=0)=decide (p=0):=by rw[ir,bZ,bZ];omega
 have h216:decide ((m.toNat:Int)=216)=decide (m=216):=by
  rw[ir,bZ,bZ];constructor
  ·intro q;exact nX.1 (by have:(216:UInt8).toNat=216:=rfl;omega)
  ·rintro rfl;rfl
 have h217:decide ((m.toNat:Int)=217)=decide (m=217):=by
  rw[ir,bZ,bZ];constructor
  ·intro q;exact nX.1 (by have:(217:UInt8).toNat=217:=rfl;omega)
  ·rintro rfl;rfl
 have hal:ja (m.toNat:Int)=(decide (m=216)||decide (m=217)):=by rw[<-h216,<-h217];unfold ja;simp
 rw[hp0,h216,h217,hal,aN (by omega) (by omega)];by_cases c0:p=0
 ·by_cases c1:m=216
  ·subst c1;simp[c0]
  ·simp[c0,c1]
 ·by_cases c1:m=216
  ·subst c1;simp[c0]
  ·by_cases c2:m=217
   ·subst c2;simp[c0]
   ·cases lI (m.toNat:Int)<;>simp[c0,c1,c2]
theorem ac3(b:List UInt8)(p:Nat)(h:p+1<b.length):o6 b p 2 2=some ((b[p].toNat*256+b[p+1].toNat:Nat):Int):=by
 have:=xm (l:=b) (p:=p) (.inr (.inl rfl)) (.inr rfl) (by omega);rw[show((2:Nat):Int)=2 from rfl] at this;rw[this];have:gN b p 2 2=[b[p],b[p+1]]:=by unfold gN;rw[dw (by omega),dw (show p+1<b.length by omega)];rfl
 rw[this];unfold hU;simp
theorem aiR{w:Nat}(m:Int)(b:List UInt8)(p:Nat)(hb:b.length<2^29)(hp:p<=b.length)(hw:b.length+10<w):tU w m (ah b) (p:Int)=some (if ja m=true then .inl (m,ah [],ah [],ah b,(p:Int)) else match b.drop p with
 |x::y::t=>if x.toNat*256+y.toNat<2 then .inr ((p:Int),2,ah b,(p:Int)) else if b.length -p<x.toNat*256+y.toNat then .inr ((b.length:Int),3,ah b,(p:Int)) else
  .inl (m,ah ((b.drop (p+2)).take (x.toNat*256+y.toNat -2)),ah ((b.drop (p+(x.toNat*256+y.toNat))).take (if m=218 then fU (b.drop (p+(x.toNat*256+y.toNat))) else 0)),ah b,((p+(x.toNat*256+y.toNat)+(if m=218 then fU (b.drop (p+(x.toNat*256+y.toNat))) else 0):Nat):Int))
 |_=>.inr ((b.length:Int),3,ah b,(p:Int))):=by
 unfold tU;rw[NK];simp only[aB];cases ha:ja m with
 |true=>rfl
 |false=>
 simp only[aF,kJ,gQ];rw[Ep w 2 b p (by omega) hp];simp only[aB];by_cases h3:p+1<b.length
 case neg=>
  rw[ay (by omega)];have hl:(b.drop p).length<=1:=by rw[eU];omega
  split
  ·rename_i q;rw[q] at hl;simp at hl
  ·rfl
 rw[aq (by omega),dw (show p<b.length by omega),dw h3];simp only[iG];rw[BP (by omega) b (by omega) _ _ _ (by omega),ac3 b p h3];simp only[aB,aV];have hx:=b[p].toNat_lt;have hy:=b[p+1].toNat_lt;generalize hn:b[p].toNat*256+b[p+1].toNat=n;by_cases c1:n<2
 ·have:((n:Int)<2):=by omega
  simp_all
 have e4:¬((n:Int)<2):=by omega
 simp only[e4,bF,aF,aq c1];rw[Ep w (n:Int) b p (by omega) hp];simp only[aB];by_cases c2:b.length -p<n
 ·have:((b.length -p:Nat):Int)<(n:Int):=by omega
  rw[ay this,ay c2];rfl
 rw[aq (by omega),aq c2];simp only[iG,cc,cN];rw[aN (n:=(p:Int)+(n:Int)) (by omega) (by omega),aN (n:=(p:Int)+2) (by omega) (by omega),show(p:Int)+(n:Int)=((p+n:Nat):Int) by omega,show(p:Int)+2=((p+2:Nat):Int) by omega];have e6:p+n<=b.length:=by omega
 have e7:p+2<=p+n:=by omega
 simp only[bR,gq,e6,e7,aM,aW,jA,aD];rw[nv b e6,show p+n -(p+2)=n -2 by omega,rK w _ (by rw[dk,eU];omega)];simp only[aB,cg];by_cases c3:m=218
 ·simp only[c3,aW,aD,dM];rw[nv b (aM _),fg (by rw[eU];omega),XS _ (by rw[eU];omega) (by rw[eU];omega)];simp only[aB];have hs:=F0 (b.drop (p+n));rw[eU] at hs;rw[aN (by omega) (by omega),show((p+n:Nat):Int)+(fU (b.drop (p+n)):Int)=((p+n+fU (b.drop (p+n)):Nat):Int) by omega];have e8:p+n+fU (b.drop (p+n))<=b.length:=by omega
  have e9:p+n<=p+n+fU (b.drop (p+n)):=by omega
  simp only[bR,e8,e9,aW,jA,aD];rw[nv b e8,Ix,rK w _ (by rw[dk,eU];omega)];simp only[aB]
 ·simp_all;rfl
theorem step_eq{β:Type}{w:Nat}(b:List UInt8)(p:Nat)(hb:b.length<2^29)(hp:p<=b.length)(hw:b.length+10<w)(G:Int×Value×Value×Value×Int->Option β)(E:Int×Int×Value×Int->Option β):
 match kX (decide (p=0)) (b.drop p) with
 | .short=>∃q,(ob (tV w (ah b) (p:Int)) λx14=>dt x14 (λx15=>ob (tU w x15.fst x15.snd.fst x15.snd.snd) λx16=>dt x16 G E) E)=E ((b.length:Int),3,ah b,q)
 | .form k=>∃q,(ob (tV w (ah b) (p:Int)) λx14=>dt x14 (λx15=>ob (tU w x15.fst x15.snd.fst x15.snd.snd) λx16=>dt x16 G E) E)=E (((p+k:Nat):Int),2,ah b,q)
 | .last s t=>∃q:Nat,(ob (tV w (ah b) (p:Int)) λx14=>dt x14 (λx15=>ob (tU w x15.fst x15.snd.fst x15.snd.snd) λx16=>dt x16 G E) E)=G (s.bW,ah s.data,ah s.scan,ah b,(q:Int))/\b.drop q=t/\p+2<=q/\q<=b.length/\s.bW=217
 | .more s t=>∃q:Nat,(ob (tV w (ah b) (p:Int)) λx14=>dt x14 (λx15=>ob (tU w x15.fst x15.snd.fst x15.snd.snd) λx16=>dt x16 G E) E)=G (s.bW,ah s.data,ah s.scan,ah b,(q:Int))/\b.drop q=t/\p+2<=q/\q<=b.length/\s.bW≠217:=by
 rw[aiT w b p (by omega) hp];have hlen:(b.drop p).length=b.length -p:=eU;have hd2:b.drop (p+2)=(b.drop p).drop 2:=by rw[List.drop_drop]
 generalize hr:b.drop p=r at hlen hd2;cases r with
 |nil=>exact⟨_,rfl⟩
 |cons x r=>
  cases r with
  |nil=>
   dsimp only[kX];by_cases h1:x=255
   ·simp_all;exact⟨_,rfl⟩
   ·simp_all;exact⟨_,rfl⟩
  |cons m t=>
   have h2:p+2<=b.length:=by simp at hlen;omega
   dsimp only[kX];by_cases h1:x=255
   case neg=>have h1':x≠255:=h1;simp_all;exact⟨_,rfl⟩
   have h1':¬(x≠255):=λq=>q h1;simp only[aq h1'];by_cases h3:((decide (p=0)!=decide (m=216))||!(ja m.toNat||lI m.toNat))=true
   ·simp_all;exact⟨_,rfl⟩
   simp only[aq h3,aB,iG];have hdt:b.drop (p+2)=t:=hd2;by_cases h4:m=217
   ·subst h4;have:ja ((217:UInt8).toNat:Int)=true:=rfl;exact⟨p+2,rfl,hdt,aM _,h2,by first|rfl|trivial⟩
   simp only[aq h4];by_cases h5:m=216
   ·subst h5;have:ja ((216:UInt8).toNat:Int)=true:=rfl;exact⟨p+2,rfl,hdt,aM _,h2,by decide⟩
   simp only[aq h5];have hal:ja (m.toNat:Int)=false:=by
    unfold ja;rw[gk]
    rintro (e|e)
    ·exact h5 (nX.1 (by have:(216:UInt8).toNat=216:=rfl;omega))
    ·exact h4 (nX.1 (by have:(217:UInt8).toNat=217:=rfl;omega))
   have h218:((m.toNat:Int)=218)=(m=218):=by
    apply propext;constructor
    ·intro q;exact nX.1 (by have:(218:UInt8).toNat=218:=rfl;omega)
    ·rintro rfl;rfl
   have hm217:(m.toNat:Int)≠217:=by intro q;exact h4 (nX.1 (by have:(217:UInt8).toNat=217:=rfl;omega))
   rw[aiR _ b (p+2) hb h2 hw,hdt];simp only[hal,kJ,gQ,h218,aB];have htl:t.length=b.length -(p+2):=by rw[<-hdt,eU]
   cases t with
   |nil=>simp only[Ic];exact⟨_,rfl⟩
   |cons a t=>
    cases t with
    |nil=>simp only[Ic];exact⟨_,rfl⟩
    |cons c t=>
     simp only;generalize a.toNat*256+c.toNat=n;by_cases c1:n<2
     ·simp only[ay c1,Ic];exact⟨_,rfl⟩
     simp only[aq c1];by_cases c2:(a::c::t).length<n
     ·have c2':b.length -(p+2)<n:=by omega
      simp_all;exact⟨_,rfl⟩
     have c2':¬(b.length -(p+2)<n):=by omega
     simp only[aq c2,aq c2',iG];have e1:b.drop (p+2+n)=(a::c::t).drop n:=by rw[<-hdt,List.drop_drop]
     have e2:b.drop (p+2+2)=(a::c::t).drop 2:=by rw[<-hdt,List.drop_drop]
     rw[e1,e2];have hk:(if m=218 then fU ((a::c::t).drop n) else 0)<=b.length -(p+2+n):=by have:=F0 ((a::c::t).drop n);rw[<-e1,eU] at this;rw[<-e1];split<;>omega
     refine⟨_,rfl,?_,by omega,by omega,hm217⟩;rw[<-List.drop_drop,e1]
theorem O2{w:Nat}(b:List UInt8)(hb:b.length<2^28)(hw:b.length+10<w):yP w (ah b)=some (match ofM b with| .ok l e=>(dJ l,(e:Int),0,0)| .bad a e=>(ae 0 [],0,(a:Int),e)):=by
 have key:∀(f:Nat)(l:List bK)(p v:Nat),(b.drop p).length<f->p<=b.length->f+1<v->(p=0↔l=[])->(∀s,l.getLast? =some s->s.bW≠217)->l.length<=p->
  ∀(z:Int->Int->Int->Value->Int->List Value->R6)(F:(Int->Int->Int->Value->Int->List Value->R6)->Int->Int->Int->Value->Int->List Value->R6),(∀g a c d e k x,F g a c d e k x=(bif aj (Int.ofNat (x.length/3)) 0 then si w e k x g a c d else aA (ag .i64 ((Int.ofNat (x.length/3)).sub 1)) λo=>bif Nat.beq 3 3&&(o*3).blt x.length then af (List.drop (0+o*3+0) x) λp q=>ar .i64 p λr=>bif !aj r 217 then si w e k x g a c d else bif aj k k then some (ae (x.length/3) x,k,0,0) else none else none))->
  lp z F v 0 0 0 (ah b) (p:Int) (l.flatMap cO)=some (match mh b.length f (decide (p=0)) (b.drop p) with| .ok l' e=>(dJ (l++l'),(e:Int),0,0)| .bad a e=>(ae 0 [],0,(a:Int),e)):=by
  intro f;induction f with
  |zero=>intro l p v h;omega
  |succ f ih=>
   intro l p v h hp hv h0 hlast hlp z F hF;have iD:(b.drop p).length=b.length -p:=eU;have hfl:(l.flatMap cO).length=l.length*3:=cS jL l;have hr:aE (l.length*3)=true:=by simp;omega
   have hrefl:∀n:Int,aj n n=true:=λn=>by simp
   rw[eG z F (by omega),hF];have hst:=step_eq (w:=w) b p (by omega) hp hw (λk=>bif aE (l.flatMap cO).length&&(aE 1&&(List.take 3 (List.drop 0 [Value.int .i64 k.1,k.2.1,k.2.2.1])).length.beq 3) then lp z F (v -1) 0 0 0 k.2.2.2.1 k.2.2.2.2 (l.flatMap cO++List.take 3 (List.drop 0 [Value.int .i64 k.1,k.2.1,k.2.2.1])) else none) yd;have red:(bif aj (Int.ofNat ((l.flatMap cO).length/3)) 0 then si w (ah b) p (l.flatMap cO) (lp z F (v -1)) 0 0 0 else aA (ag .i64 ((Int.ofNat ((l.flatMap cO).length/3)).sub 1)) λo=>bif Nat.beq 3 3&&(o*3).blt (l.flatMap cO).length then af (List.drop (0+o*3+0) (l.flatMap cO)) λs q=>ar .i64 s λr=>bif !aj r 217 then si w (ah b) p (l.flatMap cO) (lp z F (v -1)) 0 0 0 else bif aj p p then some (ae ((l.flatMap cO).length/3) (l.flatMap cO),p,0,0) else none else none)=si w (ah b) p (l.flatMap cO) (lp z F (v -1)) 0 0 0:=by
    rw[hfl,iW _ (show 0<3 by decide)];by_cases q:l=[]
    ·subst q;rfl
    ·have hpos:0<l.length:=List.length_pos_iff.2 q;have e1:aj (Int.ofNat l.length) 0=false:=by simp;omega
     rw[e1,aF,jd,bU,aN (by omega) (by omega),lU (by omega),show((l.length:Int) -1).toNat=l.length -1 by omega];have e2:(Nat.beq 3 3&&((l.length -1)*3).blt (l.length*3))=true:=by simp;omega
     rw[e2,aD,show 0+(l.length -1)*3+0=(l.length -1)*3 by omega,nB jL,dw (show l.length -1<l.length by omega),dK];have tg:∀(s:bK)(r:List Value),cO s++r=.int .i64 s.bW::ah s.data::ah s.scan::r:=λ_ _=>rfl;simp only[tg,aZ,bE];have hm:l[l.length -1].bW≠217:=hlast _ (by rw[List.getLast?_eq_getElem?,cu (by omega)]);have e3:(!aj l[l.length -1].bW 217)=true:=by simp[hm]
     rw[e3,aD]
   refine Eq.trans red ?_;clear red;unfold si;unfold mh;generalize hs:kX (decide (p=0)) (b.drop p)=sr at hst;cases sr with
   |short=>obtain⟨q,e⟩:=hst;rw[e];unfold yd;simp only[hrefl,aD]
   |form k=>obtain⟨q,e⟩:=hst;rw[e];unfold yd;simp only[hrefl,aD];rw[iD,show b.length -(b.length -p)+k=p+k by omega]
   |last s t=>
    obtain⟨q,e,e1,e2,e3,e4⟩:=hst;rw[e];rw[hfl] at*;simp only[hr,show aE 1=true from rfl,eu,nW,pP,bX,List.length_nil,eJ];rw[show Nat.beq (0+1+1+1) 3=true from rfl,aD,eG z F (by omega),hF];have hfl2:(l.flatMap cO++[Value.int .i64 s.bW,ah s.data,ah s.scan])=(l++[s]).flatMap cO:=by rw[ft,dK];rfl
    rw[hfl2];have hfl3:((l++[s]).flatMap cO).length=(l.length+1)*3:=by rw[cS jL,aS];rfl
    rw[hfl3,iW _ (show 0<3 by decide)];have e5:aj (Int.ofNat (l.length+1)) 0=false:=by simp;omega
    rw[e5,aF,jd,bU,aN (by omega) (by omega),lU (by omega),show(((l.length+1:Nat):Int) -1).toNat=l.length by omega];have e6:(Nat.beq 3 3&&(l.length*3).blt ((l.length+1)*3))=true:=by simp
    rw[e6,aD,show 0+l.length*3+0=l.length*3 by omega,nB jL,List.drop_left];have tg:∀(s:bK)(r:List Value),cO s++r=.int .i64 s.bW::ah s.data::ah s.scan::r:=λ_ _=>rfl;simp only[dK,tg,aZ,bE,e4];rw[show(!aj 217 217)=false from rfl,aF,hrefl,aD];have e7:b.length -t.length=q:=by rw[<-e1,eU];omega
    rw[e7]
    congr 1
    unfold dJ aC;rw[aS];rfl
   |more s t=>
    obtain⟨q,e,e1,e2,e3,e4⟩:=hst;rw[e];rw[hfl] at*;simp only[hr,show aE 1=true from rfl,eu,nW,pP,bX,List.length_nil,eJ];rw[show Nat.beq (0+1+1+1) 3=true from rfl,aD];have hfl2:(l.flatMap cO++[Value.int .i64 s.bW,ah s.data,ah s.scan])=(l++[s]).flatMap cO:=by rw[ft,dK];rfl
    have hdq:(b.drop q).length=b.length -q:=eU;have:=ih (l++[s]) q (v -1) (by omega) e3 (by omega) (by constructor;intro;omega;intro q;simp at q) (λs' h'=>by simp at h';rw[<-h'];exact e4) (by rw[aS];simp;omega) z F hF;rw[hfl2,this,e1];have hq0:decide (q=0)=false:=by simp;omega
    rw[hq0];cases mh b.length f false t with
    |ok l' e=>simp
    |bad a e=>rfl
 unfold yP ofM si yd;refine Eq.trans (key (b.length+1) [] 0 w (by simp) (by omega) (by omega) (by simp) (λs h=>by simp at h) (by simp) _ _ (λ_ _ _ _ _ _ _=>rfl)) ?_;rfl
theorem Nz{w:Nat}(l:List bK)(p:bK->Bool)(P:Int->Value->Value->Option Bool)(hP:∀s∈l,P s.bW (ah s.data) (ah s.scan)=some (p s))(hl:l.length<2^40)(hw:l.length<w):
 (au (dJ l) λx1=>lp (λx2 (x3 x4:Int)=>none) (λx5 (x6:Value) (x7 x8:Int)=>bif ak x8 x7 then aA x8 λx9=>aI 3 x9 x6 λx10=>af x10 λx11 (x12:List Value)=>ar .i64 x11 λx13=>af x12 λx14 (x15:List Value)=>af x15 λx16 (x17:List Value)=>ob (P x13 x14 x16) λx18=>bif x18 then some x8 else x5 x6 x7 (ag .i64 (x8.add 1)) else some (-1)) w (dJ l) (Int.ofNat x1) 0)=some (dc p l):=by
 refine mJ l p (ev:=λi (g:Value->Int->Int->Option Int)=>g (aC cO l) l.length i) ?_ ?_ hw
 ·intro i g h;simp_all;rw[bt jL h];simp[(show∀(s:bK)(r:List Value),cO s++r=.int .i64 s.bW::ah s.data::ah s.scan::r fromλ_ _=>rfl)];rw[hP _ (cy h),aN (by omega) (by omega)];simp
 simp
theorem Kr{α:Type}(p:α->Bool)(l:List α):(!decide (dc p l<0))=l.any p:=by
 have:=xr p l;cases h:l.any p with
 |true=>grind
 |false=>grind
theorem aiG{w:Nat}(l:List bK)(hl:l.length<2^40)(hw:l.length<w):F6 w (dJ l)=some (l.any λs=>s.bW==218):=by unfold F6 N4;rw[Nz l (λs=>s.bW==218) (GJ w) (λs _=>by unfold GJ;rw[cg];rfl) hl hw];simp[Kr]
theorem aiJ(w:Nat)(m:Int)(a b:Value):BE w m a b=some (pV m):=by
 unfold BE N7 pV;by_cases h1:m<224
 ·have:¬(224<=m/\m<=239):=by omega
  simp_all
 ·by_cases h2:m<240
  ·have:(224<=m/\m<=239):=by omega
   simp[h1,h2,this]
  ·have:¬(224<=m/\m<=239):=by omega
   simp[h2,this]
theorem aiF{w:Nat}(l:List bK)(hl:l.length<2^40)(hw:l.length<w):F8 w (dJ l)=some (l.any λs=>pV s.bW):=by unfold F8 N5;rw[Nz l (λs=>pV s.bW) (BE w) (λs _=>aiJ w _ _ _) hl hw];simp[Kr]
theorem Ey(L:Nat):∀(f:Nat)(first:Bool)(r:List UInt8)(l:List bK)(e:Nat),mh L f first r=.ok l e->l.length<=f
 |0,_,_,_,_,h=>by cases h
 |f+1,first,r,l,e,h=>by
  unfold mh at h;split at h
  ·grind
  ·grind
  ·grind
  ·split at h
   ·rename_i q;cases h;have:=Ey L f _ _ _ _ q;simp_all
   grind
theorem O0{w:Nat}(b:List UInt8)(hb:b.length<2^28)(hw:b.length+10<w):yO w (ah b)=some (nu b):=by
 unfold yO ND nu;rw[O2 b hb hw];cases h:ofM b with
 |bad a e=>
  have he:e≠0:=by
   have:∀(L f:Nat)(first:Bool)(r:List UInt8)(a:Nat)(e:Int),r.length<f->mh L f first r=.bad a e->e≠0:=by
    intro L f;induction f with
    |zero=>omega
    |succ f ih=>
     intro first r a e hr h
     unfold mh at h;split at h
     ·cases h;decide
     ·cases h;decide
     ·cases h
     ·rename_i s t hs;split at h
      ·cases h
      ·refine ih false t a e ?_ h;cases first with
       |true=>
        obtain⟨h1,h2⟩:=Xi hs;have hs2:2<=(cV s).length:=by unfold cV;split<;>simp<;>omega
        have:=bT List.length h2;rw[aS] at this;omega
       |false=>
        obtain⟨h1,h2⟩:=Xj hs;have hs2:2<=(cV s).length:=by unfold cV;split<;>simp<;>omega
        have:=bT List.length h2;rw[aS] at this;omega
   exact this _ _ _ _ _ _ (by omega) h
  simp_all
 |ok l e=>
  have hl:=Ey _ _ _ _ _ _ h;have he:=(TP h).2.1;simp only[aB,aF,cN,aV,bU];by_cases h1:e=b.length
  ·have e1:¬((b.length:Int)<(b.length:Int)):=by omega
   simp_all;rw[aiG l (by omega) (by omega)];cases l.any (λs=>s.bW==218) with
   |false=>rfl
   |true=>
    simp;rw[aiF l (by omega) (by omega)];simp only[aB]
    congr 1
    rw[List.not_any_eq_all_not]
  ·have e1:((e:Int)<(b.length:Int)):=by omega
   simp only[e1,aW,aD,h1,aB];rfl
theorem CO:∀l:List UInt8,pH (l.map bg)=some (l.map λb=>(b.toNat:Int))
 |[]=>rfl
 |b::l=>by show ob (pH (l.map bg)) _=_;rw[CO l];rfl
theorem En(l:List UInt8):(mkStr (l.map λb=>(b.toNat:Int))).data.toList=l:=by
 unfold mkStr;simp
 conv=>rhs;rw[<-List.map_id l]
 apply List.map_congr_left;simp
theorem yM(w:Nat)(a b:List UInt8):sE w (ah a) (ah b)=some (decide (a=b)):=by
 unfold sE;rw[iC,iL,CO];simp;rw[iC,iL,CO];simp;rw[En,En,Dk]
 grind
theorem BF(w:Nat)(a p:List UInt8):yj w (ah a) (ah p)=some (p.isPrefixOf a):=by
 unfold yj;simp only[cN,aV,bU];by_cases h:p.length<=a.length
 ·have e1:¬((a.length:Int)<(p.length:Int)):=by omega
  simp only[e1,aD,gq,h];rw[nv a h,yM];simp
  congr 1
  rw[ir,bZ,qB];constructor
  ·intro q;rw[<-q];exact List.take_prefix _ _
  ·intro q;exact(List.prefix_iff_eq_take.1 q).symm
 ·have e1:((a.length:Int)<(p.length:Int)):=by omega
  simp only[e1,aW,bJ,aF]
  congr 1
  rw[eq_comm,Bool.eq_false_iff];intro q;exact h (List.IsPrefix.length_le (qB.1 q))
theorem O1(w:Nat)(a:List UInt8):Cq w (ah a)=some (gz.isPrefixOf a):=by unfold Cq Bu;have:ae 4 (List.drop 0 [Value.int IntKind.u8 77,Value.int IntKind.u8 80,Value.int IntKind.u8 70,Value.int IntKind.u8 0])=ah gz:=rfl;rw[this,BF];rfl
theorem ajJ{w:Nat}(s:bK)(h1:s.scan.length<2^60)(hw:s.scan.length<w):GL w s.bW (ah s.data) (ah s.scan)=some (mP s):=by
 unfold GL mP;rw[XT,XS _ h1 hw];simp only[aB,cN,aV,bU,cg];cases lI s.bW with
 |false=>rfl
 |true=>
  by_cases c1:s.data.length<=65533
  ·have e1:¬((65533:Int)<(s.data.length:Int)):=by omega
   simp only[e1,bF,gh,aD,c1];by_cases c2:s.scan.length=0
   ·have e2:((s.scan.length:Int)=0):=by omega
    rw[mH c2];rfl
   ·have e2:¬((s.scan.length:Int)=0):=by omega
    have e3:s.scan.isEmpty=false:=by
     cases q:s.scan with
     |nil=>rw[q] at c2;exact absurd rfl c2
     |cons _ _=>rfl
    simp only[e2,bF,aF,e3,zn];by_cases c3:s.bW=218
    ·simp only[c3,aW,aD,eJ]
     congr 1
     rw[ir,bZ,bZ];omega
    ·simp_all
  ·have e1:((65533:Int)<(s.data.length:Int)):=by omega
   simp[e1,aW,bJ,aF,c1,bF]
theorem XU(w:Nat)(s:bK)(m:Int)(h1:s.data.length+s.scan.length<2^60):B5 w s.bW (ah s.data) (ah s.scan) m=some (lW s m):=by
 unfold B5 lW;simp_all;rw[aN (by omega) (by omega)];by_cases c1:s.bW=m
 ·simp_all
  congr 1
  rw[ir,bZ,bu,List.isEmpty_iff,List.isEmpty_iff];constructor
  ·intro q;exact⟨mH (by omega),mH (by omega)⟩
  grind
 grind
theorem KQ:∀(t:List bK),ju t=true↔∃(h:t≠[]),lW (t.getLast h) 217=true/\∀s∈t.dropLast,mP s=true
 |[]=>by simp[ju]
 |[s]=>by simp[ju]
 |s::s'::t=>by
  simp only[ju,bu,(KQ (s'::t))]
  grind
def wO(l:List bK)(m:Nat):Prop:=∀s∈l,s.data.length+s.scan.length<=m
theorem aiW{w m:Nat}(l:List bK)(hm:m<2^59)(hs:wO l m)(hl:l.length<2^40)(hw:l.length<w/\m<w)(h:mL l=true):Gf w (dJ l)=some true:=by
 cases l with
 |nil=>cases h
 |cons s t=>
  simp[mL] at h;obtain⟨h1,h2⟩:=h;obtain⟨cF,h3,h4⟩:=(KQ t).1 h2;have hpos:=List.length_pos_iff.2 cF;have hlr:∀K:Nat->Option Bool,au (dJ (s::t)) K=K (t.length+1):=λK=>cw cO (s::t) K;have tg:∀(s:bK)(r:List Value),cO s++r=.int .i64 s.bW::ah s.data::ah s.scan::r:=λ_ _=>rfl;unfold Gf;simp at hl hw;simp only[hlr,jd,bU];rw[aN (by omega) (by omega)];have e1:¬((t.length:Int)<1):=by omega
  simp[e1];unfold dJ;rw[bt jL (show 0<(s::t).length by simp)];simp_all;have b1:=hs s (by simp);rw[XU w s 216 (by omega)];rw[bt jL (show t.length<(s::t).length by simp)];have e2:(s::t)[t.length]=t.getLast cF:=by rw[List.getLast_eq_getElem];simp only[List.getElem_cons];rw[dif_neg (by omega)]
  simp_all;have b2:=hs (t.getLast cF) (by simp);rw[XU w _ 217 (by omega)];have e4:1<=t.length:=hpos;simp_all;rw[uR jL (s::t) (show t.length<=(s::t).length by simp)];have e5:((s::t).drop 1).take (t.length -1)=t.dropLast:=by rw[List.drop_one,List.tail_cons,List.dropLast_eq_take]
  rw[e5];unfold NG N6;have:=Nz (w:=w) t.dropLast (λs=>!mP s) (GK w) (λx hx=>by unfold GK;have b3:=hs x (by simp[(λx hx=>List.dropLast_subset t hx) x hx]);rw[ajJ x (by omega) (by omega)];rfl) (by rw[List.length_dropLast];omega) (by rw[List.length_dropLast];omega);unfold dJ at this;rw[this];simp only[aB,aV,Kr];have:(t.dropLast.any λs=>!mP s)=false:=by rw[List.any_eq_false];intro x hx;rw[h4 x hx];simp
  rw[this];rfl
theorem PH{l:List bK}(h:mL l=true){s:bK}(hs:s∈l):0<=s.bW/\s.bW<256/\(ja s.bW=true->s.data=[]/\s.scan=[])/\s.data.length<=65533:=by
 cases l with
 |nil=>grind
 |cons a t=>
  simp[mL] at h;obtain⟨h1,h2⟩:=h;obtain⟨cF,h3,h4⟩:=(KQ t).1 h2;have bare:∀(x:bK)(m:Int),lW x m=true->x.bW=m/\x.data=[]/\x.scan=[]:=λx m q=>by unfold lW at q;simp_all
  rcases cQ.1 hs with rfl|hs
  ·grind
  ·have:=List.dropLast_concat_getLast cF;rw[<-this] at hs;rcases fI.1 hs with hs|hs
   ·have q:=h4 s hs;unfold mP lI at q
    grind
   grind
theorem agv(n:Nat):aY n 2 2=[UInt8.ofNat (n/256%256),UInt8.ofNat (n%256)]:=rfl
theorem Yo{w m:Nat}(A:Hand w)(l:List bK)(hm:m<2^27)(hs:wO l m)(hl:l.length<2^27)(hw:l.length<w/\m<w/\20<=w)(h:mL l=true)(hb:(cX l).length<2^28):vZ w (dJ l)=some (ah (cX l),0):=by
 unfold vZ;rw[aiW l (by omega) hs (by omega) ⟨hw.1,hw.2.1⟩ h];have hlr:∀K:Nat->Option (Value×Int),au (dJ l) K=K l.length:=λK=>cw cO l K;rw[hlr];unfold dJ;refine nG (σ:=List UInt8) (ev:=λi s (g:Value->Int->Int->List Value->Option (Value×Int))=>g (aC cO l) l.length i (s.map bg)) (Inv:=λi s=>s++cX (l.drop i)=cX l) l.length [] ?_ ?_ ?_ (by omega)
 ·rfl
 ·rintro i g s hi hI
  rw[dw hi,mw] at hI;refine⟨s++cV l[i],by rw[<-hI,dV],?_⟩;have hmem:=cy hi;obtain⟨m1,m2,m3,m4⟩:=PH h hmem;have hsz:=hs _ hmem;have e1:((i:Int)<(l.length:Int)):=by omega
  have hlen:=bT List.length hI;simp only[aS] at hlen;simp only[aV,e1,aW,aD,bR];rw[bt jL hi];have tg:∀(s:bK)(r:List Value),cO s++r=.int .i64 s.bW::ah s.data::ah s.scan::r:=λ_ _=>rfl;simp only[tg,aZ,bE];have hw8:ag IntKind.u8 l[i].bW=((UInt8.ofNat l[i].bW.toNat).toNat:Int):=by rw[oV,IntKind.wrap_u8,wG];omega
  have e2:Value.int IntKind.u8 255=bg 255:=rfl;have e3:Value.int IntKind.u8 ((UInt8.ofNat l[i].bW.toNat).toNat:Int)=bg (UInt8.ofNat l[i].bW.toNat):=rfl;have r1:aE s.length=true:=by simp;omega
  simp only[hw8,e2,e3,cZ,r1,show aE 2=true from rfl,eu,nW,pP,bX,List.length_nil,eJ];rw[show Nat.beq (0+1+1) 2=true from rfl,aD,NK];simp only[aB,cN,cc,bU];rw[aN (n:=(i:Int)+1) (by omega) (by omega)];cases ha:ja l[i].bW with
  |true=>
   simp only[aD];have:cV l[i]=[255,UInt8.ofNat l[i].bW.toNat]:=by unfold cV;rw[ay ha]
   rw[this,gV];rfl
  |false=>
   simp only[aF];have hsb:cV l[i]=[255,UInt8.ofNat l[i].bW.toNat]++(aY (l[i].data.length+2) 2 2++(l[i].data++l[i].scan)):=by unfold cV;rw[ha,agv,pR (show(l[i].data.length+2)/256<256 by omega)];simp
   rw[aN (n:=(l[i].data.length:Int)+2) (by omega) (by omega),su (by omega),ay (show fT 2 2=true from rfl)];have hp:pA ((l[i].data.length:Int)+2) (2:Int).toNat 2=some (aY (l[i].data.length+2) 2 2):=by
    unfold pA;rw[ay ⟨by omega,by show _<((256^2:Nat):Int);omega⟩]
    congr 1
   rw[hp];simp only[aB];have hc:=A.cat (aY (l[i].data.length+2) 2 2) l[i].data l[i].scan (s++[255,UInt8.ofNat l[i].bW.toNat]) (by rw[eB];omega) (by rw[eB,aS];simp only[bX,List.length_nil];omega);rw[gV] at hc;have hc:tW w (ah (aY (l[i].data.length+2) 2 2)) (ah l[i].data) (ah l[i].scan) (s.map bg++[bg 255,bg (UInt8.ofNat l[i].bW.toNat)])=_:=hc;rw[hc];simp only[aB];rw[hsb];simp only[dV];rfl
 ·rintro g s hI
  rw[rB] at hI;simp only[cX,lu,dW] at hI;subst hI;have e1:¬((l.length:Int)<(l.length:Int)):=by omega
  simp only[aV,e1,bF,aF];rw[uN _ _ (by rw[lA,cZ])];rfl
noncomputable def TB(w:Nat)(rest ch:Value)(cs:List Value):Option (Value×Int):=
 au ch λ(x31:Nat)=>lp (λ(x32 x33:Value)(x34 x35:Int)(x36:List Value)=>none) (λ(x37:Value->Value->Int->Int->List Value->Option (Value×Int))(x38 x39:Value)(x40 x41:Int)(x42:List Value)=>bif ak x41 x40 then aA x41 λ(x43:Nat)=>aI 1 x43 x39 λ(x44:List Value)=>af x44 λ(x45:Value)(x46:List Value)=>ob (yQ w 226 x45 x42) λ(x47:List Value)=>x37 x38 x39 x40 (ag .i64 (x41.add 1)) x47 else au x38 λ(x48:Nat)=>bif x48.ble x48&&Nat.ble 1 x48 then gR 3 1 x48 x38 λ(x49:Value)=>ed 3 x49 λ(x50:Nat)(x51:List Value)=>bif aE x42.length&&(aE x50&&x51.length.beq (x50*3)) then ob (vZ w (ae ((x42++x51).length/3) (x42++x51))) λ(x52:Value×Int)=>some (x52.fst,x52.snd) else none else none) w rest ch (Int.ofNat x31) 0 cs
theorem ZN(l:List UInt8):(fw l).length=1:=rfl
theorem Xk(l:List bK):ae ((l.flatMap cO).length/3) (l.flatMap cO)=dJ l:=by unfold dJ aC;rw[cS jL,iW _ (show 0<3 by decide)]
theorem Yn(w:Nat)(m:Int)(d:List UInt8)(P:List bK)(h:P.length<300000000):yQ w m (ah d) (P.flatMap cO)=some ((P++([⟨m,d,[]⟩]:List bK)).flatMap cO):=by unfold yQ Bw;simp only[(cS jL P),(show aE (P.length*3)=true from by simp;omega)];rw[ft];rfl
theorem acW{w m:Nat}(A:Hand w)(s0:bK)(r P:List bK)(ch:List (List UInt8))(L:List bK)(hL:L=P++(ch.map (λc=>⟨226,c,[]⟩)++r))(hm:m<2^27)(hs:wO L m)(hl:L.length<2^27)(hw:L.length<w/\m<w/\20<=w)(h:mL L=true)(hb:(cX L).length<2^28):TB w (dJ (s0::r)) (aC fw ch) (P.flatMap cO)=some (ah (cX L),0):=by
 have hLl:L.length=P.length+(ch.length+r.length):=by rw[hL];simp
 unfold TB;refine nG (σ:=List bK) (ev:=λi s (g:Value->Value->Int->Int->List Value->Option (Value×Int))=>g (dJ (s0::r)) (aC fw ch) ch.length i (s.flatMap cO)) (Inv:=λi s=>s++((ch.drop i).map (λc=>⟨226,c,[]⟩)++r)=L) ch.length P ?_ ?_ ?_ (by omega)
 ·rw[eu,<-hL]
 ·rintro i g s hi hI
  rw[dw hi,iH] at hI;refine⟨s++[⟨226,ch[i],[]⟩],by rw[<-hI];simp,?_⟩;have hlen:=bT List.length hI;simp at hlen;have e1:((i:Int)<(ch.length:Int)):=by omega
  simp only[aV,e1,aD,bR];rw[bt ZN hi];have tg:∀(b:List UInt8)(r:List Value),fw b++r=ah b::r:=λ_ _=>rfl;simp only[tg,aZ];rw[Yn w 226 ch[i] s (by omega)];simp only[cc];rw[aN (by omega) (by omega)];rfl
 ·rintro g s hI
  simp at hI;have hlen:=bT List.length hI;simp at hlen;have e1:¬((ch.length:Int)<(ch.length:Int)):=by omega
  simp only[aV,e1,aF];have hlr:∀K:Nat->Option (Value×Int),au (dJ (s0::r)) K=K (r.length+1):=λK=>cw cO (s0::r) K;simp only[hlr,gq,(by omega),aM,aW,jA,aD];unfold dJ;rw[uR jL (s0::r) (show r.length+1<=(s0::r).length by simp)];have e3:((s0::r).drop 1).take (r.length+1 -1)=r:=by simp
  rw[e3,Al jL];have hf2:(r.flatMap cO).length=r.length*3:=cS jL r;have r1:aE (s.length*3)=true:=by simp;omega
  have r2:aE r.length=true:=by simp;omega
  rw[(cS jL s),hf2,r1,r2,mX];rw[<-ft,hI,Xk,Yo A L hm hs hl hw h hb];rfl
theorem NA:∀{r:List bK}{s:bK},s∈r->(cV s).length<=(cX r).length
 |[],s,h=>by grind
 |a::r,s,h=>by
  rw[mw,aS];rcases cQ.1 h with rfl|h
  ·simp
  ·have:=NA h;omega
theorem X4{w m:Nat}(W:dC w){x:oS}{aT:List UInt8}(h:zt x aT)(hx:jC x.aG 9000)(hm:m<2^24)(hc:x.core.length<=m/\x.cj.length<=m/\x.cM.length<=m)(hw:2*m+200000<w)(a b:Int):
 yF w x.aG.order (aw x.aG.cn) (aw x.aG.bD) (aw x.aG.bM) (aw x.aG.bm) (aw x.aG.first) (ah x.aG.bC) (ah x.aG.cH) (ah x.cj) (ah x.core) (ah x.cM) a b=some (ah (fm x aT),0):=by
 have hb:=W.ku;have hA:=W.hand;obtain⟨-,hp1,hp2,hp3,-⟩:=Dh h.app h.rows;obtain⟨r,c1,c2,c3,c4,c5,c6⟩:=Dw h.core;have hmayL:=Sa h.core hp2 h.cj (by rcases h.cM with q|q;omega;exact q.2);have hcl:(⟨216,[],[]⟩::r:List bK).length<=x.core.length+1:=Ey _ _ _ _ _ _ c1;have hrl:r.length<=x.core.length:=by simpa using hcl
 have hchl:(gw x.cj).length<=1:=by unfold gw;split<;>simp
 have hLdef:ky x aT=[⟨216,[],[]⟩,⟨225,aT,[]⟩]++((if x.cM.length=0 then[] else[⟨226,x.cM,[]⟩])++((gw x.cj).map (λc=>⟨226,c,[]⟩)++r)):=by unfold ky;rw[c2];rfl
 have hLl:(ky x aT).length<=x.core.length+4:=by rw[hLdef];simp only[aS,cZ,bX,List.length_nil];split<;>simp<;>omega
 have hwr:∀s∈r,(cV s).length<=x.core.length:=by intro s hs;have:=bT List.length c4;rw[mw,aS] at this;have hle:=NA hs;omega
 have hmayC:mL (⟨216,[],[]⟩::r)=true:=by show(true&&ju r)=true;rw[c3];rfl
 have hsegs:wO (ky x aT) (m+70000):=by
  intro s hs;rw[hLdef] at hs;rcases fI.1 hs with hs|hs
  ·simp only[cQ,mV,mZ] at hs;rcases hs with rfl|rfl
   ·simp
   ·simp only[List.length_nil];omega
  ·rcases fI.1 hs with hs|hs
   ·split at hs
    ·cases hs
    ·rw[nV.1 hs];simp only[List.length_nil];omega
   ·rcases fI.1 hs with hs|hs
    ·obtain⟨c,hc',rfl⟩:=List.mem_map.1 hs;have:=QH h.cj hc';simp only[List.length_nil];omega
    ·have h1:=hwr s hs;by_cases ha:ja s.bW=true
     ·obtain⟨-,-,q,-⟩:=PH hmayC (mU _ hs);obtain⟨q1,q2⟩:=q ha;rw[q1,q2];simp
     ·unfold cV at h1;rw[aq ha] at h1;simp at h1;omega
 have hwl:(cX (ky x aT)).length<2^28:=by
  have e:cX (ky x aT)=cV ⟨216,[],[]⟩++(cV ⟨225,aT,[]⟩++(cX (if x.cM.length=0 then[] else[⟨226,x.cM,[]⟩])++(cX ((gw x.cj).map (λc=>⟨226,c,[]⟩))++cX r))):=by rw[hLdef];simp[cX]
  have k1:(cV ⟨216,[],[]⟩).length=2:=rfl;have k2:(cV ⟨225,aT,[]⟩).length<=aT.length+4:=by unfold cV;split<;>simp<;>omega
  have k3:(cX (if x.cM.length=0 then[] else[⟨226,x.cM,[]⟩])).length<=x.cM.length+4:=by
   split
   ·simp[cX]
   ·simp only[cX,dK,lu,dW];unfold cV;split<;>simp<;>omega
  have k4:(cX ((gw x.cj).map (λc=>⟨226,c,[]⟩))).length<=x.cj.length+30:=by
   unfold gw;split
   ·simp[cX]
   ·simp[cX];unfold cV;split<;>simp[fL]<;>omega
  have k5:(cX r).length<=x.core.length:=by have:=bT List.length c4;rw[mw,aS] at this;omega
  rw[e];simp only[aS,k1];omega
 have hcut:=hA.cut x.cj h.cj;have h32:=OQ W hx;rw[h.app] at h32;have hmb:x.core.length<2^28:=by omega
 have h50:=O0 (w:=w) x.core hmb (by omega);rw[h.core] at h50;have h52:=O2 (w:=w) x.core hmb (by omega);rw[c1] at h52;have ix0:∀(K:List Value->Option (Value×Int)),aI 3 0 (dJ (⟨216,[],[]⟩::r)) K=K (.int .i64 216::ah []::ah []::r.flatMap cO):=by intro K;unfold dJ;rw[bt jL (show 0<(⟨216,[],[]⟩::r:List bK).length by simp)];rfl
 have h53:O3 w 225 (ah aT) [Value.int .i64 216,ah [],ah []]=some ([⟨216,[],[]⟩,⟨225,aT,[]⟩].flatMap cO):=rfl;have fin:=λP hL=>acW (m:=m+70000) hA ⟨216,[],[]⟩ r P (gw x.cj) (ky x aT) hL (by omega) hsegs (by omega) ⟨by omega,by omega,by omega⟩ hmayL hwl;unfold yF Ni Ns;rw[h32];simp only[aB,show aj 0 0=true from rfl,bJ,aF];rw[hcut];simp only[aB,show aj 0 0=true from rfl,bJ,aF];rw[h50];simp only[aB,bJ,aF,cN];by_cases hmp:x.cM.length=0
 ·have e1:ak 0 (Int.ofNat x.cM.length)=false:=by rw[hmp];rfl
  have e2:ak 65533 (Int.ofNat x.cM.length)=false:=by rw[hmp];rfl
  simp only[e1,e2,aF];rw[h52];simp only[aB,ix0,aZ,bE];rw[h53];simp only[aB];exact fin _ (by rw[hLdef,ay hmp];rfl)
 ·have e1:ak 0 (Int.ofNat x.cM.length)=true:=by simp;omega
  obtain⟨m1,m2⟩:=h.cM.resolve_left hmp;have e2:ak 65533 (Int.ofNat x.cM.length)=false:=by simp;omega
  simp only[e1,aD];rw[O1,m1];simp only[aB,bJ,aF,e2];rw[h52];simp only[aB,ix0,aZ,bE];rw[h53];simp only[aB];rw[Yn w 226 x.cM _ (by simp)];simp only[aB];exact fin _ (by rw[hLdef,aq hmp];simp)
def eD(T:List Nat):List Value:=T.map λn:Nat=>.int .u64 (n:Int)
theorem Zl{T:List Nat}{i:Nat}(h:i<T.length):(eD T).drop i=.int .u64 (T[i]:Int)::eD (T.drop (i+1)):=by unfold eD;rw[<-List.map_drop,dw h,iH]
def Dm(T:List Nat)(p:Nat):Bool:=((T[p/64]?).getD 0).testBit (p%64)
def gy(S:List bo)(p:Nat):Bool:=S.any λs=>decide (s.at_<=p/\p<s.at_+s.cC)
structure Tk(T:List Nat)(L:Nat)(P:Nat->Bool):Prop where
 len:T.length=L/64+1
 lt:∀n∈T,n<2^64
 bit:∀p,p<L->Dm T p=P p
theorem Tj(p:Nat)(hp:p<2^60):ag IntKind.u64 (((BitVec.ofInt 64 (ag IntKind.u64 (p:Int))&&&BitVec.ofInt 64 63).toNat:Nat):Int)=((p%64:Nat):Int):=by
 rw[sS (n:=(p:Int)) (by simp) (by omega)];have e:(BitVec.ofInt 64 (p:Int)&&&BitVec.ofInt 64 63).toNat=p%64:=by rw[BitVec.ofInt_natCast,BitVec.toNat_and,BitVec.toNat_ofNat,pR (by omega)];exact Nat.and_two_pow_sub_one_eq_mod p 6
 rw[e];exact sS (by omega) (by omega)
theorem ZH(n k:Nat)(hn:n<2^64)(hk:k<64):aj (((BitVec.ofInt 64 ((n:Int).fdiv (2^min ((k:Int)).toNat 64))&&&BitVec.ofInt 64 1).toNat:Nat):Int) 1=n.testBit k:=by
 rw[mT,lC (by omega)];have e:(n:Int).fdiv (2^k)=((n/2^k:Nat):Int):=by grind
 rw[e,BitVec.ofInt_natCast,cg]
 grind
theorem or_eq(n k:Nat)(hn:n<2^64)(hk:k<64):ag IntKind.u64 (((BitVec.ofInt 64 (n:Int)|||BitVec.ofInt 64 (ag IntKind.u64 (Int.mul 1 (2^min ((k:Int)).toNat 64)))).toNat:Nat):Int)=((n|||2^k:Nat):Int)/\n|||2^k<2^64:=by have hk2:2^k<2^64:=Nat.pow_lt_pow_right (by simp) hk;have hor:=Nat.or_lt_two_pow hn hk2;refine⟨?_,hor⟩;rw[mT,lC (by omega),o8,Int.one_mul,(show(2:Int)^k=((2^k:Nat):Int) from(Int.natCast_pow 2 k).symm),sS (n:=((2^k:Nat):Int)) (Int.natCast_nonneg _) (by grind),BitVec.ofInt_natCast,BitVec.ofInt_natCast,BitVec.toNat_or,BitVec.toNat_ofNat,BitVec.toNat_ofNat,pR hn,pR hk2];exact sS (by simp) (by omega)
theorem Jv(p:Nat)(hp:p<2^60):(p:Int).fdiv (2^6)=((p/64:Nat):Int):=by grind
theorem akz(w:Nat){T:List Nat}{L:Nat}{P:Nat->Bool}(H:Tk T L P)(hL:L<2^50)(p:Nat)(hp:p<L)(b:Value)(o:Int)(sh:Value)(c:Nat)(no so:Int)(S:List Value):
 Ho w (p:Int) b o sh T.length c no so (eD T) S=some (P p,b,o,sh,T.length,c,no,so,eD T,S):=by
 have hlt:p/64<T.length:=by rw[H.len];omega
 have hb:=H.bit p hp;unfold Dm at hb;rw[cu hlt,pS] at hb;unfold Ho yb;rw[Jv p (by omega)];simp only[bR,mE,hlt,aW,aD,gB,gj];rw[Zl hlt];simp only[aZ,bE];rw[(Tj p (by omega))];simp only[aV,(show¬(((p%64:Nat):Int)<0) from by omega),bF,aF];have hx:=ZH T[p/64] (p%64) (H.lt _ (cy hlt)) (by omega);rw[hb] at hx;have hle:(BitVec.ofInt 64 ((T[p/64]:Int).fdiv (2^min (((p%64:Nat):Int)).toNat 64))&&&BitVec.ofInt 64 1).toNat<=1:=by rw[BitVec.toNat_and];have:(BitVec.ofInt 64 1).toNat=1:=rfl;rw[this,Nat.and_one_is_mod];omega
 rw[(λz hz=>sS (by omega) (by omega)) _ hle,hx]
theorem aiv{T:List Nat}{L:Nat}{P:Nat->Bool}(H:Tk T L P){p:Nat}(hp:p<L):Tk (T.set (p/64) ((T[p/64]?).getD 0|||2^(p%64))) L (λq=>P q||decide (q=p)):=by
 have hlt:p/64<T.length:=by rw[H.len];omega
 have hw:(T[p/64]?).getD 0<2^64:=by rw[cu hlt];exact H.lt _ (cy hlt)
 refine⟨by rw[List.length_set,H.len],λn hn=>?_,λq hq=>?_⟩
 ·rcases List.mem_or_eq_of_mem_set hn with h|h
  ·exact H.lt n h
  ·rw[h];exact Nat.or_lt_two_pow hw (Nat.pow_lt_pow_right (by simp) (by omega))
 ·have hb:=H.bit q hq;unfold Dm at hb⊢
  grind
theorem Hd{w:Nat}{T:List Nat}{L:Nat}{S S':List bo}{x:bo}(H:Tk T L (gy S))(hL:L<2^50)(hw:L+2<w)(ht:lk L S x=.ok S')(hS:S.length<100000000)(b:List UInt8)(hb:b.length=L)(o:Int)(sh:Value)(c:Nat)(no so:Int):
 S'=S++[x]/\∃T',Tk T' L (gy S')/\T'.length=T.length/\rf w x.nS x.dir x.tag (x.at_:Int) (x.cC:Int) (ah b) o sh T.length c no so (eD T) (S.flatMap bY)=some (.inl (ah b,o,sh,T.length,c,no,so,eD T',S'.flatMap bY)):=by
 unfold lk at ht;split at ht
 case isFalse=>cases ht
 rename_i h1;split at ht
 ·cases ht
 rename_i h2;injection ht with ht;subst ht;refine⟨rfl,?_⟩;obtain⟨he,hr⟩:=h1;have hcl:∀q,x.at_<=q->q<x.at_+x.cC->gy S q=false:=by intro q q1 q2;unfold gy;rw[List.any_eq_false];intro s hs;simp only[bZ];intro hq;apply h2;unfold Dt;rw[List.any_eq_true];exact⟨s,hs,by simp only[bZ];omega⟩
 have hfin:∀q,(gy (S++[x]) q)=(gy S q||decide (x.at_<=q/\q<x.at_+x.cC)):=by intro q;unfold gy;rw[List.any_append];simp
 have H0:Tk T L (λq=>gy S q||decide (x.at_<=q/\q<x.at_+0)):=by
  refine⟨H.len,H.lt,λq hq=>?_⟩;rw[H.bit q hq];have:decide (x.at_<=q/\q<x.at_+0)=false:=by simp
  rw[this,Bool.or_false]
 unfold rf No Nr yb;have hmod:(x.at_:Int).tmod 2=0:=by rw[Int.tmod_eq_emod_of_nonneg (by omega)];omega
 rw[hmod];simp only[show aj 0 0=true from rfl,aD,cN];rw[Hn w ⟨by simp only[oM];omega,by simp only[oM];omega⟩ (by omega)];have hroom:(0<=(x.at_:Int)/\0<=(x.cC:Int)/\(x.at_:Int)<=Int.ofNat b.length/\(x.cC:Int)<=Int.ofNat b.length -(x.at_:Int)):=by simp only[oM];omega
 simp only[aB,hroom,and_self,aW];have h232:eW w true 4=some (.inl ()):=rfl;rw[h232];simp only[aB,iG];generalize hG:lp _ _=G;have hF:=acH hG;clear hG;have key:∀(d k v:Nat)(T:List Nat),k+d=x.cC->d<v->Tk T L (λq=>gy S q||decide (x.at_<=q/\q<x.at_+k))->
  ∃T',Tk T' L (gy (S++[x]))/\T'.length=T.length/\G v ((x.at_+k:Nat):Int) (ah b) o sh T.length c no so x.nS x.dir x.tag (x.at_:Int) (x.cC:Int) (eD T) (S.flatMap bY)=some (.inl (ah b,o,sh,T.length,c,no,so,eD T',(S++[x]).flatMap bY)):=by
  intro d;induction d with
  |zero=>
   intro k v T hk hv HT;obtain⟨u,rfl⟩:∃u,v=u+1:=⟨v -1,by omega⟩;refine⟨T,⟨HT.len,HT.lt,λq hq=>?_⟩,rfl,?_⟩
   ·rw[HT.bit q hq,hfin,show k=x.cC by omega]
   ·simp only[hF];rw[cc,aN (by omega) (by omega)];have e1:¬(((x.at_+k:Nat):Int)<(x.at_:Int)+(x.cC:Int)):=by omega
    have hr1:aE (S.length*5)=true:=by simp;omega
    simp only[aV,e1,bF,aF,wg,hr1,show aE 1=true from rfl,eu,nW,pP,bX,List.length_nil,eJ];rw[show Nat.beq (0+1+1+1+1+1) 5=true from rfl,aD,ft];rfl
  |succ d ih=>
   intro k v T hk hv HT;obtain⟨u,rfl⟩:∃u,v=u+1:=⟨v -1,by omega⟩;have hpL:x.at_+k<L:=by omega
   have hlt:(x.at_+k)/64<T.length:=by rw[HT.len];omega
   have H2:=aiv HT hpL;have H3:Tk (T.set ((x.at_+k)/64) ((T[(x.at_+k)/64]?).getD 0|||2^((x.at_+k)%64))) L (λq=>gy S q||decide (x.at_<=q/\q<x.at_+(k+1))):=by
    refine⟨H2.len,H2.lt,λq hq=>?_⟩;rw[H2.bit q hq,Bool.or_assoc]
    congr 1
    rw[ir,sI,bZ,bZ,bZ];omega
   obtain⟨T',t1,t2,t3⟩:=ih (k+1) u _ (by omega) (by omega) H3;refine⟨T',t1,by rw[t2,List.length_set],?_⟩;simp only[hF];rw[cc,aN (n:=(x.at_:Int)+(x.cC:Int)) (by omega) (by omega)];have e1:(((x.at_+k:Nat):Int)<(x.at_:Int)+(x.cC:Int)):=by omega
   simp only[aV,e1,aW,aD];have hno:(gy S (x.at_+k)||decide (x.at_<=x.at_+k/\x.at_+k<x.at_+k))=false:=by rw[hcl _ (by omega) (by omega)];simp
   rw[akz w HT hL (x.at_+k) hpL,hno];simp only[aB];have h232:eW w (!false) 5=some (.inl ()):=rfl;rw[h232];simp only[aB,iG];rw[Jv _ (by omega)];simp only[bR,mE,hlt,aW,aD,gB,gj];rw[Zl hlt];simp only[aZ,bE];rw[Tj _ (by omega)];have e2:¬((((x.at_+k)%64:Nat):Int)<0):=by omega
   simp only[e2,bF,aF];obtain⟨o1,o2⟩:=or_eq T[(x.at_+k)/64] ((x.at_+k)%64) (HT.lt _ (cy hlt)) (by omega);rw[o1];have e3:(x.at_+k)/64+1<=(eD T).length:=by unfold eD;rw[cZ];omega
   simp only[show∀n:Int,(SV.i IntKind.u64 n).cells.length.beq 1=true fromλ_=>rfl,eJ,gq,e3,aW,aD,Fb,cc];rw[aN (by omega) (by omega),show((x.at_+k:Nat):Int)+1=((x.at_+(k+1):Nat):Int) by omega];have hset:(eD T).set ((x.at_+k)/64) (Value.int IntKind.u64 ((T[(x.at_+k)/64]|||2^((x.at_+k)%64):Nat):Int))=eD (T.set ((x.at_+k)/64) ((T[(x.at_+k)/64]?).getD 0|||2^((x.at_+k)%64))):=by unfold eD;rw[cu hlt,pS,<-List.map_set]
   rw[hset];rw[List.length_set] at t3;exact t3
 exact key x.cC 0 w T (by omega) (by omega) H0
theorem Hc{w:Nat}(hw:5<=w)(b:List UInt8)(hb:b.length<2^50){o:Int}(ho:o=1\/o=2)(p s:Nat)(hs:s=2\/s=4)(hp:p+s<=b.length):mQ w (ah b) o (p:Int) (s:Int)=some (cm b p s o:Int):=by have:=xm (s:=s) (by omega) ho (by omega);unfold mQ cm;rw[BP hw b (by omega) _ _ _ (by omega),this];simp
structure qF(w L:Nat)(b:List UInt8)(o:Int):Prop where
 len:b.length=L
 small:L<2^29
 wide:L+200000<w
 ord:o=1\/o=2
theorem pF{L:Nat}{S S':List bo}{x:bo}(h:lk L S x=.ok S'):S'=S++[x]/\x.at_%2=0/\x.at_+x.cC<=L:=by
 unfold lk at h
 grind
theorem akr{w L:Nat}{b:List UInt8}{o:Int}(R:qF w L b o){T:List Nat}{S S':List bo}{x:bn}{t:aK}{dir:Nat}(H:Tk T L (gy S))(h:sd b o dir S x=.ok (t,S'))(hs:x.slot<4294967296)(hS:S'.length<100000000)(sh:Value)(c:Nat)(no so:Int):
 (∃u,S'=S++u)/\∃T' so',Tk T' L (gy S')/\T'.length=T.length/\
  Hg w x.tag x.ty x.az (x.slot:Int) (dir:Int) (ah b) o sh T.length c no so (eD T) (S.flatMap bY)=some (.inl (t.tag,t.ty,t.az,ah t.data,ah b,o,sh,T.length,c,no,so',eD T',S'.flatMap bY)):=by
 have hsm:=R.small;have hlen:=R.len;have hw:=R.wide;have h232:eW w true 6=some (.inl ()):=rfl;unfold sd at h;split at h
 ·cases h
 rename_i h1;have hk:=Au x.ty;have e1:0<(kindOf x.ty).1 :=by omega
 have e2:¬(x.az<1):=by omega
 have e3:¬(65536<x.az):=by omega
 unfold Hg FK;rw[Yg];simp only[aB,aV,e1,e2,e3,aW,bF,gh,aD];rw[h232];rw[Yh];simp only[aB];split at h
 ·rename_i h0;have e4:¬(0<((bO x.ty x.az:Nat):Int)):=by omega
  simp only[e4,bF,aF];rw[akD (by omega) _ _ _ _ _ R.ord];have hl:0<jf x.ty x.az/\jf x.ty x.az<=4:=by
   unfold bO at h0;have hpos:0<jf x.ty x.az:=by unfold jf;rw[aq (by omega)];exact Int.mul_pos (by omega) e1
   split at h0<;>omega
  have hv:Ik x.ty x.az (x.slot:Int) o=(py x.ty x.az (aY x.slot 4 o) o).map λd=>(d,((aY x.slot 4 o).drop d.length).all (·==0)):=by unfold Ik;rw[ay ⟨by omega,by omega,hl.1,hl.2⟩,mT]
  rw[hv];split at h
  case h_2=>cases h
  rename_i d hd;injection h with h;cases h;rw[hd];simp only[rD,aB];rw[h232];refine⟨⟨[],(dW _).symm⟩,?_⟩;cases((aY x.slot 4 o).drop d.length).all (·==0)<;>exact⟨T,_,H,rfl,rfl⟩
 ·rename_i h0;have e4:(0<((bO x.ty x.az:Nat):Int)):=by omega
  simp only[e4,aW,aD];split at h
  ·cases h
  rename_i S2 ht;split at h
  case h_2=>cases h
  rename_i d hd;injection h with h;cases h;obtain⟨a1,a2,a3⟩:=pF ht;obtain⟨_,T',t1,t2,t3⟩:=Hd (w:=w) H (by omega) (by omega) (by rw[<-hlen];exact ht) (by rw[a1,aS] at hS;omega) b hlen o sh c no so;refine⟨⟨_,a1⟩,T',so,t1,t2,?_⟩;dsimp only at t3 a3;rw[t3];simp only[aB,iG,cN,bR,gq,aM,aW,eJ];have e5:x.slot<=b.length:=by omega
  simp[e5];rw[nv _ (aM _),fg (by rw[eU];omega),Yi _ _ _ (by rw[eU];omega) (by rw[eU];omega) _ R.ord,hd];simp;rw[h232];simp
theorem aj2{w L:Nat}{b:List UInt8}{o:Int}(R:qF w L b o)(hL:8<=L)(ho:lM b=o)(h42:cm b 2 2 o=42){T:List Nat}(H:Tk T L (gy []))(sh:Value)(c:Nat)(no so:Int):
 ∃T',Tk T' L (gy [⟨1,-1,0,0,8⟩])/\T'.length=T.length/\
  G0 w (ah b) 0 sh T.length c no so (eD T) []=some (.inl ((cm b 4 4 o:Int),ah b,o,sh,T.length,c,no,so,eD T',[⟨1,-1,0,0,8⟩].flatMap bY)):=by
 have hsm:=R.small;have hlen:=R.len;have hw:=R.wide;have ht:lk L [] ⟨1,-1,0,0,8⟩=.ok [⟨1,-1,0,0,8⟩]:=by unfold lk;rw[ay ⟨rfl,by show 0+8<=L;omega⟩];rfl
 obtain⟨_,T',t1,t2,t3⟩:=Hd (w:=w) H (by omega) (by omega) ht (by decide) b hlen o sh c no so;refine⟨T',t1,t2,?_⟩;have h288:=Hc (w:=w) (by omega) b (by omega) R.ord 2 2 (.inl rfl) (by omega);have h4:=Hc (w:=w) (by omega) b (by omega) R.ord 4 4 (.inr rfl) (by omega);have e1:¬(Int.ofNat b.length<8):=by simp;omega
 have e2:2<=b.length:=by omega
 have h232:∀n,eW w true n=some (.inl ()):=λ_=>rfl;unfold G0 Bx;simp only[cN,aV,e1,bF,gh,h232,aB,iG,gq,e2,aW,eJ,aD];rw[show decide (0<=2)=true from rfl,nv _ e2,iC,iL,CO];simp only[aB];rw[En,eu];have hor:(b.take 2=[73,73]/\o=1)\/(b.take 2=[77,77]/\o=2):=by
  unfold lM at ho;split at ho
  ·rename_i q;exact .inl ⟨q,ho.symm⟩
  ·split at ho
   ·rename_i q;exact .inr ⟨q,ho.symm⟩
   ·have:=R.ord;omega
 have h42b:aj ((cm b 2 2 o:Nat):Int) 42=true:=by rw[h42];rfl
 rcases hor with⟨q,rfl⟩|⟨q,rfl⟩
 ·rw[q,show mD [73,73] (ByteArray.mk #[73,73]).data.toList=true from rfl];rw[show(2:Int)=((2:Nat):Int) from rfl,h288];simp only[aB];rw[h42b,h232];simp;refine Eq.trans (bT (λz=>ob z _) t3) ?_;simp;rw[show(4:Int)=((4:Nat):Int) from rfl,h4];rfl
 ·rw[q,show mD [77,77] (ByteArray.mk #[73,73]).data.toList=false from rfl,show mD [77,77] (ByteArray.mk #[77,77]).data.toList=true from rfl,aD];rw[(show mQ w (ah b) 2 2 2=some (cm b 2 2 2:Int) from h288)];simp only[aB];rw[h42b,h232];simp;refine Eq.trans (bT (λz=>ob z _) t3) ?_;simp;rw[(show mQ w (ah b) 2 4 4=some (cm b 4 4 2:Int) from h4)];rfl
theorem JH(b:List UInt8)(o:Int):∀(n p:Nat),(jW b o p n).length=n
 |0,_=>rfl
 |n+1,p=>by show(jW b o (p+12) n).length+1=n+1;rw[JH]
theorem Q8(b:List UInt8)(o:Int):∀(n p i:Nat)(h:i<(jW b o p n).length),(jW b o p n)[i]=Aa b (p+12*i) o
 |0,_,i,h=>absurd h (Nat.not_lt_zero _)
 |n+1,p,0,h=>rfl
 |n+1,p,i+1,h=>by
  show(jW b o (p+12) n)[i]'(by simpa[jW] using h)=_
  rw[Q8 b o n (p+12) i]
  grind
theorem Wl:∀{l:List bn},eR l=true->∀{i:Nat}(h:i+1<l.length),l[i].tag<l[i+1].tag
 |[],_,i,h=>by grind
 |[_],_,i,h=>by grind
 |a::b::l,hr,i,h=>by
  simp[eR] at hr;cases i with
  |zero=>grind
  |succ i=>exact Wl hr.2 (by grind)
theorem DL(l:List bn){c:List Value}(h:c=l.flatMap bP):ae (c.length/4) c=aC bP l:=by rw[h,cS kT,iW _ (by simp)];rfl
theorem aaP{l:List bn}{i:Nat}(h:i<l.length):(l.take (i+1)).flatMap bP=(l.take i).flatMap bP++bP l[i]:=by rw[iI h,ft];simp
theorem TI(b:List UInt8)(p s:Nat)(o:Int):cm b p s o<256^s:=by
 unfold cm o6;split
 ·rw[pS];have hl:(gN b p s o).length<=s:=by
   unfold gN;split<;>simp<;>omega
  exact oQ (K0 (gN b p s o)) (Nat.pow_le_pow_right (by simp) hl)
 grind
theorem TJ(b:List UInt8)(p:Nat){o:Int}(h:o=1\/o=2):cm b p 2 o<65536:=TI b p 2 o
theorem Et(b:List UInt8)(p:Nat)(o:Int):cm b p 4 o<4294967296:=TI b p 4 o
theorem akp{w L:Nat}{b:List UInt8}{o:Int}(R:qF w L b o){T:List Nat}{S S':List bo}{at_ dir:Nat}(H:Tk T L (gy S))(h0:at_%2=0)(h1:at_+2<=L)(hn:cm b at_ 2 o≠0)(ht:lk L S ⟨2,dir,0,at_,6+12*cm b at_ 2 o⟩=.ok S')
 (hr:eR (jW b o (at_+2) (cm b at_ 2 o))=true) (hS:S.length<100000000) (hd:dir<2^40) (sh:Value) (c:Nat) (no so:Int):
 ∃T',Tk T' L (gy S')/\T'.length=T.length/\
  He w (at_:Int) (dir:Int) (ah b) o sh T.length c no so (eD T) (S.flatMap bY)=some (.inl (aC bP (jW b o (at_+2) (cm b at_ 2 o)),ah b,o,sh,T.length,c,no,so,eD T',S'.flatMap bY)):=by
 have hsm:=R.small;have hlen:=R.len;have hw:=R.wide;obtain⟨a1,a2,a3⟩:=pF ht;obtain⟨n,hnn⟩:∃n,cm b at_ 2 o=n:=⟨_,rfl⟩;have hn2:n<65536:=by rw[<-hnn];exact TJ b at_ R.ord
 obtain⟨_,T',t1,t2,t3⟩:=Hd (w:=w) H (by omega) (by omega) ht hS b hlen o sh c no so;refine⟨T',t1,t2,?_⟩;have h288:=Hc (w:=w) (by omega) b (by omega) R.ord at_ 2 (.inl rfl) (by omega);have h232:∀k,eW w true k=some (.inl ()):=λ_=>rfl;have hmod:(at_:Int).tmod 2=0:=by rw[Int.tmod_eq_emod_of_nonneg (by omega)];omega
 rw[hnn] at hn t3 h288 hr a3⊢;dsimp only at t3 a3;unfold He Ng Bp;rw[hmod,show aj 0 0=true from rfl,aD,cN,Hn w ⟨by simp only[oM];omega,by simp only[oM];omega⟩ (by omega)];have hroom:(0<=(at_:Int)/\(0:Int)<=2/\(at_:Int)<=Int.ofNat b.length/\(2:Int)<=Int.ofNat b.length -(at_:Int)):=by simp only[oM];omega
 rw[fC hroom];simp only[aB];rw[h232];simp only[aB,iG];have h288':mQ w (ah b) o (at_:Int) 2=some (n:Int):=h288;rw[h288'];simp only[aB];rw[show ak 0 (n:Int)=true by rw[aV,bZ];omega,h232];simp only[aB,iG];rw[o8,aN (n:=(12:Int)*(n:Int)) (by omega) (by omega),cc,aN (n:=(6:Int)+12*(n:Int)) (by omega) (by omega),show(6:Int)+12*(n:Int)=((6+12*n:Nat):Int) by omega,t3];simp only[aB,iG];obtain⟨E,hE⟩:∃E,E=jW b o (at_+2) n:=⟨_,rfl⟩;rw[<-hE] at hr⊢;have hat:at_+6+12*n<=L:=by omega
 have h232:eW w true 2=some (.inl ()):=rfl;generalize eD T'=U;generalize S'.flatMap bY=V;generalize T.length=tl;have hEl:E.length=n:=by rw[hE,JH]
 refine gS (ev:=λi (g:Int->Int->Int->Value->Int->Value->Nat->Nat->Int->Int->List Value->List Value->List Value->Option (Value×Value×Int×Value×Nat×Nat×Int×Int×List Value×List Value⊕Int×Value×Int×Value×Nat×Nat×Int×Int×List Value×List Value))=>g at_ n i (ah b) o sh tl c no so U V ((E.take i).flatMap bP)) n ?_ ?_ (by omega)
 ·intro i g hi;have e1:((i:Int)<(n:Int)):=by omega
  simp only[aV,e1,aW,aD,cc,o8];have hat2:at_<2^30:=by omega
  rw[aN (n:=(at_:Int)+2) (by omega) (by omega),aN (n:=(12:Int)*(i:Int)) (by omega) (by omega),aN (n:=(at_:Int)+2+12*(i:Int)) (by omega) (by omega),show(at_:Int)+2+12*(i:Int)=((at_+2+12*i:Nat):Int) by omega,akA (by omega) b (by omega) _ o R.ord,ay (by omega)];simp only[aB];have hgi:E[i]'(by omega)=Aa b (at_+2+12*i) o:=by subst hE;exact Q8 b o n (at_+2) i _
  have hiE:i<E.length:=by omega
  have hci:bP E[i]=[.int .i64 (cm b (at_+2+12*i) 2 o:Int),.int .i64 (cm b (at_+2+12*i+2) 2 o:Int),.int .i64 (cm b (at_+2+12*i+4) 4 o:Int),.int .i64 (cm b (at_+2+12*i+8) 4 o:Int)]:=by rw[hgi];rfl
  have hcl:((E.take i).flatMap bP).length=i*4:=by rw[cS kT,dk,lC (by omega)]
  have hr1:aE (i*4)=true:=by simp;omega
  have hfin:∀(A:Option (Value×Value×Int×Value×Nat×Nat×Int×Int×List Value×List Value⊕Int×Value×Int×Value×Nat×Nat×Int×Int×List Value×List Value)),(bif aE ((E.take i).flatMap bP).length&&(aE 1&&(List.take 4 (List.drop 0 [Value.int IntKind.i64 (cm b (at_+2+12*i) 2 o:Int),Value.int IntKind.i64 (cm b (at_+2+12*i+2) 2 o:Int),Value.int IntKind.i64 (cm b (at_+2+12*i+4) 4 o:Int),Value.int IntKind.i64 (cm b (at_+2+12*i+8) 4 o:Int)])).length.beq 4) then g at_ n (ag IntKind.i64 ((i:Int)+1)) (ah b) o sh tl c no so U V ((E.take i).flatMap bP++List.take 4 (List.drop 0 [Value.int IntKind.i64 (cm b (at_+2+12*i) 2 o:Int),Value.int IntKind.i64 (cm b (at_+2+12*i+2) 2 o:Int),Value.int IntKind.i64 (cm b (at_+2+12*i+4) 4 o:Int),Value.int IntKind.i64 (cm b (at_+2+12*i+8) 4 o:Int)])) else A)=g at_ n ((i+1:Nat):Int) (ah b) o sh tl c no so U V ((E.take (i+1)).flatMap bP):=by intro A;rw[hcl,hr1,show aE 1=true from rfl,aaP hiE,hci,aN (by omega) (by omega)];rfl
  rcases i with _|i
  ·have e0:aj ((0:Nat):Int) 0=true:=rfl;rw[e0,aD];exact hfin none
  ·have e0:aj ((i+1:Nat):Int) 0=false:=by rw[cg,gM];omega
   rw[e0,aF,jd,aN (by omega) (by omega),show((i+1:Nat):Int) -1=(i:Int) by omega,bR,hcl];have e2:i*4<(i+1)*4:=by omega
   have hpi:i<E.length:=by omega
   have htk:List.drop (0+i*4+0) ((E.take (i+1)).flatMap bP)=bP E[i]:=by rw[show 0+i*4+0=i*4 by omega,nB kT,List.drop_take,show i+1 -i=1 by omega,dw hpi,nW,pP];simp
   have hlt:=Wl hr (i:=i) (by omega);have hg1:(E[i+1]'(by omega)).tag=(cm b (at_+2+12*(i+1)) 2 o:Int):=by rw[hgi];rfl
   rw[hg1] at hlt;simp only[mE,e2,aW,kj,show Nat.beq 4 4=true from rfl,aD];rw[htk];unfold bP;simp only[aZ,bE,hlt,aW];rw[h232];simp only[aB,iG];rw[hcl] at hfin;exact hfin none
 ·intro g;have e1:¬((n:Int)<(n:Int)):=by omega
  simp only[aV,e1,bF,aF];rw[fg (by omega),DL E rfl]
theorem aki{w:Nat}(l:List iv)(n a b c:Int)(hl:l.length<2^40)(hw:l.length<w):OB w (gG l) n a b c=some (dc (λx=>x.tag==n) l):=by
 refine mJ l (λx=>x.tag==n) (ev:=λi (g:Value->List Value->Int->Int->Option Int)=>g (aC mc l) [.int .i64 n,.int .i64 a,.int .i64 b,.int .i64 c] l.length i) ?_ ?_ hw
 ·intro i g h;simp_all;rw[bt tE h];unfold mc OR;simp only[eE,aZ,bE,aB,cg];rw[aN (by omega) (by omega)];by_cases e2:l[i].tag=n<;>grind
 ·intro g;simp
theorem akj{w:Nat}(l:List iv)(n a b c:Int)(hl:l.length<2^40)(hw:l.length<w):OC w (gG l) n a b c=some (dc (λx=>x.tag==n) l):=by
 refine mJ l (λx=>x.tag==n) (ev:=λi (g:Value->List Value->Int->Int->Option Int)=>g (aC mc l) [.int .i64 n,.int .i64 a,.int .i64 b,.int .i64 c] l.length i) ?_ ?_ hw
 ·intro i g h;simp_all;rw[bt tE h];unfold mc OF;simp only[eE,aZ,bE,aB,cg];rw[aN (by omega) (by omega)];by_cases e2:l[i].tag=n<;>grind
 ·intro g;simp
theorem akB{w:Nat}(l:List iv)(n a b c:Int)(hl:l.length<2^40)(hw:l.length<w):Hq w (gG l) n a b c=some (l.any λx=>x.tag==n):=by
 unfold Hq;rw[aki l n a b c hl hw];simp;have:=xr (λx:iv=>x.tag==n) l
 grind
theorem JW{α:Type}(p:α->Bool){l:List α}{i:Nat}(h:i<l.length):(l.take (i+1)).filter p=(l.take i).filter p++(if p l[i]=true then[l[i]] else[]):=by
 rw[iI h]
 grind
theorem aaW{α:Type}(p:α->Bool)(l:List α)(i:Nat):((l.take i).filter p).length<=l.length:=by grind
theorem akq{w:Nat}(E:List bn)(S:bc)(hS:uD S)(hl:S.bN.length<2^40)(hw:S.bN.length<w)(hE:E.length<100000000)(hEw:E.length<w):
 Hf w (aC bP E) (gG S.bN) S.at_ S.cC S.next=some (aC bP (E.filter λx=>fo S x.tag),aC bP (E.filter λx=>fy S x.tag),aC bP (E.filter λx=>!eH S x.tag)):=by
 unfold Hf yf vE;rw[cw];refine gS (ev:=λi (g:Value->Int->Int->Value->Int->Int->Int->List Value->List Value->List Value->Option (Value×Value×Value))=>g (aC bP E) E.length i (gG S.bN) S.at_ S.cC S.next (((E.take i).filter λx=>fo S x.tag).flatMap bP) (((E.take i).filter λx=>fy S x.tag).flatMap bP) (((E.take i).filter λx=>!eH S x.tag).flatMap bP)) E.length ?_ ?_ hEw
 ·intro i g hi;have e1:((i:Int)<(E.length:Int)):=by omega
  simp only[aV,e1,aW,aD,bR];rw[bt kT hi];unfold bP;simp only[eE,aZ,bE];rw[akB S.bN _ _ _ _ hl hw];simp only[aB];have hlk:(S.bN.any λx=>x.tag==E[i].tag)=fo S E[i].tag:=rfl;rw[hlk,JW _ hi,JW _ hi,JW _ hi];have hr1:∀p:bn->Bool,aE (List.flatMap bP ((E.take i).filter p)).length=true:=by intro p;have:=aaW p E i;rw[cS kT];simp;omega
  have hr1':∀p:bn->Bool,aE (List.flatMap (λx:bn=>[Value.int .i64 x.tag,Value.int .i64 x.ty,Value.int .i64 x.az,Value.int .i64 (x.slot:Int)]) ((E.take i).filter p)).length=true:=hr1;simp only[hr1',show aE 1=true from rfl,eJ,eu,nW,pP,bX,List.length_nil,aD,cc];rw[aN (by omega) (by omega)];have hp:=hS.pair;cases hk:fo S E[i].tag with
  |true=>
   have hnp:fy S E[i].tag=false:=by unfold fo at hk;rw[List.any_eq_true] at hk;obtain⟨x,hx,he⟩:=hk;rw[<-eq_of_beq he];exact(hS.bN x hx).2.2
   have hno:eH S E[i].tag=true:=by unfold eH;rw[hk];rfl
   simp[hnp,hno]
  |false=>
   have hno:eH S E[i].tag=fy S E[i].tag:=by unfold eH;rw[hk];rfl
   rw[hno];by_cases h1:(0:Int)<S.at_
   ·have hb:fy S E[i].tag=(decide (E[i].tag=S.at_)||decide (E[i].tag=S.cC)):=by
     unfold fy;rw[fC (by omega:S.at_≠0)];rfl
    rw[hb];simp only[cg];by_cases h2:E[i].tag=S.at_
    ·simp[h1,h2]
    ·by_cases h3:E[i].tag=S.cC
     ·simp[h1,h2,h3]
     ·simp[h1,h2,h3]
   ·have hb:fy S E[i].tag=false:=by
     unfold fy;have:¬(S.at_≠0):=λq=>by have:=hp q;omega
     rw[gk this];rfl
    rw[hb];simp[h1]
 ·intro g;have e1:¬((E.length:Int)<(E.length:Int)):=by omega
  simp only[aV,e1,bF,aF,mW];rw[DL _ rfl,DL _ rfl,DL _ rfl]
def wK(sh:List bc)(b:List UInt8)(o:Int)(L:Nat)(f:Nat)(rec:rH):Prop:=
 ∀(at_ s no:Nat)(Sp:List bo)(d:aU)(next no':Nat)(S':List bo)(T:List Nat)(so:Int)(c:Nat),
  kE b o sh f at_ s no Sp=.ok (d,next,no',S')->s<sh.length->at_<4294967296->S'.length<100000000->no'<2^40->Tk T L (gy Sp)->
  ∃T' so',Tk T' L (gy S')/\T'.length=T.length/\
   rec at_ s (ah b) o (cq sh) T.length c no so (eD T) (Sp.flatMap bY)=some (.inl (dT d,dS d,dB d,(next:Int),ah b,o,cq sh,T.length,c,(no':Int),so',eD T',S'.flatMap bY))
theorem ahD{b:List UInt8}{o:Int}{no:Nat}{S S':List bo}{x:bn}{t:aK}(h:sd b o no S x=.ok (t,S')):∃u,S'=S++u:=by
 unfold sd at h;split at h
 ·grind
 split at h
 ·split at h
  ·simp_all
  grind
 ·split at h
  ·grind
  rename_i S2 ht;split at h
  ·cases h;exact⟨_,(pF ht).1⟩
  grind
theorem xS{own:Int->Bool}{b:List UInt8}{o:Int}{no:Nat}:∀{E:List bn}{S S':List bo}{ts:List aK},kb own b o no E S=.ok (ts,S')->∃u,S'=S++u
 |[],S,S',ts,h=>by rw[kb] at h;cases h;exact⟨[],(dW _).symm⟩
 |x::E,S,S',ts,h=>by
  rw[kb] at h;split at h
  ·split at h
   ·exact xS h
   grind
  split at h
  ·grind
  rename_i hv;split at h
  ·grind
  rename_i ht;injection h with h;cases h;obtain⟨u,rfl⟩:=ahD hv;obtain⟨v,rfl⟩:=xS ht;simp
theorem Be{rd:Nat->Nat->Nat->List bo->Except Int (aU×Nat×Nat×List bo)}(hrd:∀a s no S d n no' S',rd a s no S=.ok (d,n,no',S')->no<=no'/\∃u,S'=S++u){Sh:bc}:∀{K:List bn}{no no':Nat}{S S':List bo}{r:cI},mm rd Sh K no S=.ok (r,no',S')->no<=no'/\∃u,S'=S++u
 |[],no,no',S,S',r,h=>by rw[mm] at h;cases h;exact⟨aM _,[],(dW _).symm⟩
 |x::K,no,no',S,S',r,h=>by
  rw[mm] at h;split at h
  ·grind
  split at h
  ·grind
  split at h
  ·grind
  rename_i hr;injection h with h;cases h;obtain⟨a2,v,rfl⟩:=Be hrd hr
  grind
theorem Bd{b:List UInt8}{o:Int}{sh:List bc}:∀(f a s no:Nat)(S:List bo)(d:aU)(n no':Nat)(S':List bo),kE b o sh f a s no S=.ok (d,n,no',S')->no<=no'/\∃u,S'=S++u
 |0,a,s,no,S,d,n,no',S',h=>by rw[kE] at h;cases h
 |f+1,a,s,no,S,d,n,no',S',h=>by
  rw[kE] at h;split at h
  case isFalse=>cases h
  split at h
  ·cases h
  split at h
  ·cases h
  rename_i S1 h1;split at h
  case isFalse=>cases h
  split at h
  ·cases h
  rename_i h2;split at h
  ·cases h
  split at h
  ·cases h
  rename_i S3 h3;obtain⟨u1,e1⟩:∃u,S1=S++u:=⟨_,(pF h1).1⟩;obtain⟨u2,e2⟩:=xS h2;obtain⟨k,u3,e3⟩:=Be (Bd f) h3;split at h
  ·split at h
   ·cases h
   split at h
   ·cases h
   rename_i h4;injection h with h;cases h;obtain⟨u4,e4⟩:∃u,S'=S3++u:=⟨_,(pF h4).1⟩;refine⟨by omega,u1++u2++u3++u4,?_⟩;rw[e4,e3,e2,e1];simp
  ·injection h with h;cases h;refine⟨by omega,u1++u2++u3,?_⟩;rw[e3,e2,e1];simp
theorem alD(l:List (Int×aU))(r:cI)(h:l=aP r):ae ((l.flatMap fZ).length/4) (l.flatMap fZ)=ae (cd r) (gK r):=by rw[h,cS uh,iW _ (by simp),uj,Pq]
theorem acE{w L:Nat}{b:List UInt8}{o:Int}(R:qF w L b o){sh:List bc}(hsh:iZ sh){s:Nat}(hs:s<sh.length)(hlk:(aO sh s).bN.length<100000){f:Nat}{rec:rH}(hrec:wK sh b o L f rec){at_ dir no no':Nat}{E P K:List bn}{S S3 S4:List bo}{subs:cI}{blob:List UInt8}{T:List Nat}
 (hK:∀x∈K,fo (aO sh s) x.tag=true/\x.slot<4294967296) (hKl:K.length<70000) (hat:at_+6+12*E.length<=L)
 (h3:mm (kE b o sh f) (aO sh s) K no S=.ok (subs,no',S3))
 (hfin:(∃p q,P=[p,q]/\q.slot≠0/\p.slot<4294967296/\q.slot<4294967296/\lk L S3 ⟨4,dir,0,p.slot,q.slot⟩=.ok S4/\blob=(b.drop p.slot).take q.slot)\/(P.length≠2/\S4=S3/\blob=[]))
 (hS:S4.length<100000000) (hno:no'<2^40) (H:Tk T L (gy S)) (so:Int) (c:Nat) (tc:List Value):
 ∃T' so',Tk T' L (gy S4)/\T'.length=T.length/\
  Ta w rec at_ dir (aC bP E) (aC bP P) (aC bP K) K.length 0 (ah b) o (cq sh) T.length c no so (ae 0 []) (gG (aO sh s).bN) (aO sh s).at_ (aO sh s).cC (aO sh s).next (eD T) (S.flatMap bY) tc []=
   some (.inl (ae (tc.length/4) tc,ae (cd subs) (gK subs),ah blob,(cm b (at_+2+12*E.length) 4 o:Int),ah b,o,cq sh,T.length,c,(no':Int),so',eD T',S4.flatMap bY)):=by
 have hsm:=R.small;have hlen:=R.len;have hw:=R.wide;have h232:∀n,eW w true n=some (.inl ()):=λ_=>rfl;have hS34:S3.length<=S4.length:=by
  rcases hfin with⟨p,q,_,_,_,_,ht,_⟩|⟨_,e,_⟩
  ·rw[(pF ht).1,aS];omega
  ·rw[e];exact aM _
 obtain⟨tl,htl⟩:∃tl,T.length=tl:=⟨_,rfl⟩;rw[htl];have key:∀(k i v no:Nat)(S:List bo)(T:List Nat)(so:Int)(r:cI)(D:List (Int×aU)),i+k=K.length->k<v->D.length=i->mm (kE b o sh f) (aO sh s) (K.drop i) no S=.ok (r,no',S3)->D++aP r=aP subs->Tk T L (gy S)->T.length=tl->
  ∃T' so',Tk T' L (gy S4)/\T'.length=tl/\
   lp AB (vm w rec) v at_ dir (aC bP E) (aC bP P) (aC bP K) K.length i (ah b) o (cq sh) tl c no so (ae 0 []) (gG (aO sh s).bN) (aO sh s).at_ (aO sh s).cC (aO sh s).next (eD T) (S.flatMap bY) tc (D.flatMap fZ)=
    some (.inl (ae (tc.length/4) tc,ae (cd subs) (gK subs),ah blob,(cm b (at_+2+12*E.length) 4 o:Int),ah b,o,cq sh,tl,c,(no':Int),so',eD T',S4.flatMap bY)):=by
  intro k;induction k with
  |zero=>
   intro i v no S T so r D hi hv hD hr hDr HT hTl;rw[show K.drop i=[] from List.drop_of_length_le (by omega),mm] at hr;injection hr with hr;cases hr;rw[show aP cI.nil=[] from rfl,dW] at hDr;have e1:¬((i:Int)<(K.length:Int)):=by omega
   have hD2:=alD D subs hDr;rw[eG AB (vm w rec) (by omega)];unfold vm;simp only[aV,e1,bF,aF];rw[cw];have hnx:=Hc (w:=w) (by omega) b (by omega) R.ord (at_+2+12*E.length) 4 (.inr rfl) (by omega);have haw:ag IntKind.i64 ((ag IntKind.i64 ((at_:Int).add 2)).add (ag IntKind.i64 (Int.mul 12 (Int.ofNat E.length))))=((at_+2+12*E.length:Nat):Int):=by rw[cc,cc,o8,bU,aN (n:=(at_:Int)+2) (by omega) (by omega),aN (n:=(12:Int)*(E.length:Int)) (by omega) (by omega),aN (by omega) (by omega)];omega
   rcases hfin with⟨p,q,rfl,hq,hp4,hq4,ht,rfl⟩|⟨hP,rfl,rfl⟩
   ·rw[show aj (Int.ofNat [p,q].length) 2=true from rfl,aD];have x0:∀(K:List Value->sQ),aI 4 0 (aC bP [p,q]) K=K (bP p++([q].flatMap bP)):=λK=>bt kT (by show 0<2;omega) K;have x1:∀(K:List Value->sQ),aI 4 1 (aC bP [p,q]) K=K (bP q++([].flatMap bP)):=λK=>bt kT (by show 1<2;omega) K;have d0:∀(y:bn)(r:List Value),List.drop 3 (bP y++r)=Value.int .i64 (y.slot:Int)::r:=λ_ _=>rfl;rw[x0,d0];simp only[aZ,bE];rw[x1,d0];simp only[aZ,bE];rw[fC (show(0:Int)<(q.slot:Int) by omega),h232];simp only[aB,iG];obtain⟨a1,a2,a3⟩:=pF ht;obtain⟨_,T',t1,t2,t3⟩:=Hd (w:=w) HT (by omega) (by omega) ht (by rw[a1,aS] at hS;omega) b hlen o (cq sh) c (no':Int) so;dsimp only at t3 a3;refine⟨T',so,t1,by rw[t2,hTl],?_⟩;rw[hTl] at t3;rw[t3];simp only[aB,iG,cN];rw[cc,aN (n:=(p.slot:Int)+(q.slot:Int)) (by omega) (by omega),show(p.slot:Int)+(q.slot:Int)=((p.slot+q.slot:Nat):Int) by omega,bR,bR];have e3:p.slot+q.slot<=b.length:=by omega
    have e4:p.slot<=p.slot+q.slot:=by omega
    simp only[gq,e3,e4,aW,jA,aD];rw[nv _ e3,show p.slot+q.slot -p.slot=q.slot by omega,rK w _ (by rw[dk,eU];omega)];simp only[aB];rw[cw,haw];have hnx':mQ w (ah b) o ((at_+2+12*E.length:Nat):Int) 4=some (cm b (at_+2+12*E.length) 4 o:Int):=hnx;rw[hnx'];simp only[aB];rw[hD2]
   ·have e2:aj (Int.ofNat P.length) 2=false:=by rw[cg,gM,bU];omega
    rw[e2,aF,cw,haw];have hnx':mQ w (ah b) o ((at_+2+12*E.length:Nat):Int) 4=some (cm b (at_+2+12*E.length) 4 o:Int):=hnx;rw[hnx'];simp only[aB];rw[hD2];exact⟨T,so,HT,hTl,rfl⟩
  |succ k ih=>
   intro i v no S T so r D hi hv hD hr hDr HT hTl;have hiK:i<K.length:=by omega
   have hmem:=cy hiK;obtain⟨k1,k2⟩:=hK _ hmem;rw[dw hiK,mm] at hr;split at hr
   ·cases hr
   rename_i d next no1 S1 hd
   split at hr
   ·cases hr
   rename_i hnx;split at hr
   ·cases hr
   rename_i r2 no2 S2 hr2;injection hr with hr;cases hr;have hnx:next=0:=qA.1 hnx
   subst hnx;obtain⟨m1,u,m2⟩:=Be (Bd f) hr2;have e1:((i:Int)<(K.length:Int)):=by omega
   rw[eG AB (vm w rec) (by omega)];rcases KJ (aO sh s) K[i].tag with⟨_,q⟩|⟨j,hj,q1,_,q3⟩
   ·rw[k1] at q;cases q
   have hsx:=hsh.bN s hs _ (cy hj);rw[q3] at hd;have hsn:(((aO sh s).bN[j].shape.toNat:Nat):Int)=(aO sh s).bN[j].shape:=mz (by omega);obtain⟨T1,so1,t1,t2,t3⟩:=hrec K[i].slot _ no S d 0 no1 S1 T so c hd (by omega) k2 (by have:=bT List.length m2;rw[aS] at this;omega) (by omega) HT;rw[hTl] at t2 t3;obtain⟨T',so',v1,v2,v3⟩:=ih (i+1) (v -1) no1 S1 T1 so1 r2 (D++[(K[i].tag,d)]) (by omega) (by omega) (by rw[aS,hD];rfl) hr2 (by rw[<-hDr];simp[aP]) t1 t2;refine⟨T',so',v1,v2,?_⟩;rw[<-v3];generalize hg:lp AB (vm w rec) (v -1)=g;unfold vm;simp only[aV,e1,aW,aD,bR];rw[bt kT hiK];have tg:∀(y:bn)(r:List Value),bP y++r=Value.int .i64 y.tag::.int .i64 y.ty::.int .i64 y.az::.int .i64 (y.slot:Int)::r:=λ_ _=>rfl;rw[tg];simp only[aZ,bE];rw[akj _ _ _ _ _ (by omega) (by omega),q1];simp only[aB,bR];rw[show gG (aO sh s).bN=aC mc (aO sh s).bN from rfl,bt tE hj];have dl:∀(y:iv)(r:List Value),List.drop 1 (mc y++r)=Value.int .i64 y.shape::r:=λ_ _=>rfl;rw[dl];simp only[aZ,bE];rw[<-hsn,t3];simp only[aB,iG];rw[show aj ((0:Nat):Int) 0=true from rfl,h232];simp only[aB,iG];have hr1:aE (D.flatMap fZ).length=true:=by rw[cS uh];simp;omega
   rw[hr1,cc,aN (by omega) (by omega),show(i:Int)+1=((i+1:Nat):Int) by omega,ft];have hsc:[(K[i].tag,d)].flatMap fZ=[Value.int .i64 K[i].tag,dT d,dS d,dB d]:=by show fZ (K[i].tag,d)++[]=_;unfold fZ;rw[qb];rfl
   rw[hsc];rfl
 exact key K.length 0 w no S T so subs [] (by omega) (by omega) rfl (by rw[eu];exact h3) rfl H htl
theorem alH{w L:Nat}{b:List UInt8}{o:Int}(R:qF w L b o){sh:List bc}(hsh:iZ sh){s:Nat}(hs:s<sh.length)(hlk:(aO sh s).bN.length<100000){f:Nat}{rec:rH}(hrec:wK sh b o L f rec){at_ dir no no':Nat}{E:List bn}{S S2 S3 S4:List bo}{tags:List aK}{subs:cI}{blob:List UInt8}{T:List Nat}
 (hE:∀x∈E,x.slot<4294967296) (hEl:E.length<65536) (hat:at_+6+12*E.length<=L)
 (h2:kb (eH (aO sh s)) b o dir E S=.ok (tags,S2))
 (hP1:(E.filter λx=>fy (aO sh s) x.tag).length≠1)
 (h3:mm (kE b o sh f) (aO sh s) (E.filter λx=>fo (aO sh s) x.tag) no S2=.ok (subs,no',S3))
 (hfin:(∃p q,(E.filter λx=>fy (aO sh s) x.tag)=[p,q]/\q.slot≠0/\p.slot<4294967296/\q.slot<4294967296/\lk L S3 ⟨4,dir,0,p.slot,q.slot⟩=.ok S4/\blob=(b.drop p.slot).take q.slot)\/((E.filter λx=>fy (aO sh s) x.tag).length≠2/\S4=S3/\blob=[]))
 (hS:S4.length<100000000) (hno:no'<2^40) (hdir:dir<2^40) (H:Tk T L (gy S)) (so:Int) (c:Nat):
 ∃T' so',Tk T' L (gy S4)/\T'.length=T.length/\
  YQ w rec at_ dir (aC bP E) (aC bP (E.filter λx=>fo (aO sh s) x.tag)) (aC bP (E.filter λx=>fy (aO sh s) x.tag)) (aC bP (E.filter λx=>!eH (aO sh s) x.tag)) (aC bP E) E.length 0 (ah b) o (cq sh) T.length c no so (ae 0 []) (gG (aO sh s).bN) (aO sh s).at_ (aO sh s).cC (aO sh s).next (eD T) (S.flatMap bY) [] []=
   some (.inl (aw tags,ae (cd subs) (gK subs),ah blob,(cm b (at_+2+12*E.length) 4 o:Int),ah b,o,cq sh,T.length,c,(no':Int),so',eD T',S4.flatMap bY)):=by
 have hsm:=R.small;have hlen:=R.len;have hw:=R.wide;have h232:∀n,eW w true n=some (.inl ()):=λ_=>rfl;obtain⟨tl,htl⟩:∃tl,T.length=tl:=⟨_,rfl⟩;rw[htl];have hS24:S2.length<=S4.length:=by
  obtain⟨_,u,e⟩:=Be (Bd f) h3;have e:=bT List.length e;rw[aS] at e;rcases hfin with⟨p,q,_,_,_,_,ht,_⟩|⟨_,e',_⟩
  ·rw[(pF ht).1,aS];omega
  ·rw[e'];omega
 have key:∀(k i v:Nat)(S:List bo)(T:List Nat)(so:Int)(ts D:List aK),i+k=E.length->k<v->D.length<=i->kb (eH (aO sh s)) b o dir (E.drop i) S=.ok (ts,S2)->D++ts=tags->Tk T L (gy S)->T.length=tl->
  ∃T' so',Tk T' L (gy S4)/\T'.length=tl/\
   lp zb (sH w rec) v at_ dir (aC bP E) (aC bP (E.filter λx=>fo (aO sh s) x.tag)) (aC bP (E.filter λx=>fy (aO sh s) x.tag)) (aC bP ((E.drop i).filter λx=>!eH (aO sh s) x.tag)) (aC bP E) E.length i (ah b) o (cq sh) tl c no so (ae 0 []) (gG (aO sh s).bN) (aO sh s).at_ (aO sh s).cC (aO sh s).next (eD T) (S.flatMap bY) (D.flatMap ct) []=
    some (.inl (aw tags,ae (cd subs) (gK subs),ah blob,(cm b (at_+2+12*E.length) 4 o:Int),ah b,o,cq sh,tl,c,(no':Int),so',eD T',S4.flatMap bY)):=by
  intro k;induction k with
  |zero=>
   intro i v S T so ts D hi hv hD hr hDr HT hTl;rw[show E.drop i=[] from List.drop_of_length_le (by omega),kb] at hr;injection hr with hr;cases hr;rw[dW] at hDr;subst hDr;have e1:¬((i:Int)<(E.length:Int)):=by omega
   rw[eG zb (sH w rec) (by omega)];unfold sH Bv;simp only[aV,e1,bF,aF];rw[cw];have e2:aj (Int.ofNat (E.filter λx=>fy (aO sh s) x.tag).length) 1=false:=by rw[cg,gM,bU];omega
   rw[e2,show(!false)=true from rfl,h232];simp only[aB,iG];rw[cw];have hKl:=List.length_filter_le (λx:bn=>fo (aO sh s) x.tag) E;obtain⟨T',so',t1,t2,t3⟩:=acE R hsh hs hlk hrec (at_:=at_) (dir:=dir) (E:=E) (P:=E.filter λx=>fy (aO sh s) x.tag) (K:=E.filter λx=>fo (aO sh s) x.tag) (T:=T)
    (λx hx=>⟨(oO.1 hx).2,hE x (oO.1 hx).1⟩) (by omega) hat h3 hfin hS hno HT so c (D.flatMap ct)
   rw[hTl] at t2 t3;refine⟨T',so',t1,t2,?_⟩;have htg:ae ((D.flatMap ct).length/4) (D.flatMap ct)=aw D:=by rw[cS gO,iW _ (by decide)];rfl
   rw[htg] at t3;exact t3
  |succ k ih=>
   intro i v S T so ts D hi hv hD hr hDr HT hTl;have hiE:i<E.length:=by omega
   have hmem:=cy hiE;have e1:((i:Int)<(E.length:Int)):=by omega
   have tg:∀(y:bn)(r:List Value),bP y++r=Value.int .i64 y.tag::.int .i64 y.ty::.int .i64 y.az::.int .i64 (y.slot:Int)::r:=λ_ _=>rfl;rw[dw hiE,kb] at hr;rw[eG zb (sH w rec) (by omega)];by_cases ho:eH (aO sh s) E[i].tag=true
   ·rw[ay ho] at hr;split at hr
    case isFalse=>cases hr
    rename_i h41;obtain⟨T',so',v1,v2,v3⟩:=ih (i+1) (v -1) S T so ts D (by omega) (by omega) (by omega) hr hDr HT hTl;refine⟨T',so',v1,v2,?_⟩;rw[<-v3];generalize hg:lp zb (sH w rec) (v -1)=g;have hfl:(E.drop i).filter (λx=>!eH (aO sh s) x.tag)=(E.drop (i+1)).filter (λx=>!eH (aO sh s) x.tag):=by rw[dw hiE,km,ho];rfl
    rw[hfl];generalize hX:(E.drop (i+1)).filter (λx=>!eH (aO sh s) x.tag)=X;unfold sH Bv;simp only[aV,e1,aW,aD,bR];rw[bt kT hiE,tg];simp only[aZ,bE];rw[cw,h41.1,h41.2];have hnx:ag IntKind.i64 ((i:Int).add 1)=((i+1:Nat):Int):=by rw[cc,aN (by omega) (by omega)];rfl
    have hend:(bif aj 4 4 then ob (eW w (aj 1 1) 6) λ(x112:PUnit⊕Int)=>dt x112 (λ(x113:PUnit)=>g (at_:Int) (dir:Int) (aC bP E) (aC bP (E.filter λx=>fo (aO sh s) x.tag)) (aC bP (E.filter λx=>fy (aO sh s) x.tag)) (aC bP X) (aC bP E) (E.length:Int) (ag IntKind.i64 ((i:Int).add 1)) (ah b) o (cq sh) tl c no so (ae 0 []) (gG (aO sh s).bN) (aO sh s).at_ (aO sh s).cC (aO sh s).next (eD T) (S.flatMap bY) (D.flatMap ct) []) λ(x114:Int)=>some (Sum.inr (x114,ah b,o,cq sh,tl,c,(no:Int),so,eD T,S.flatMap bY)) else(none:sQ))=g (at_:Int) (dir:Int) (aC bP E) (aC bP (E.filter λx=>fo (aO sh s) x.tag)) (aC bP (E.filter λx=>fy (aO sh s) x.tag)) (aC bP X) (aC bP E) (E.length:Int) ((i+1:Nat):Int) (ah b) o (cq sh) tl c no so (ae 0 []) (gG (aO sh s).bN) (aO sh s).at_ (aO sh s).cC (aO sh s).next (eD T) (S.flatMap bY) (D.flatMap ct) []:=by rw[hnx];rfl
    rcases X with _|⟨y,X⟩
    ·have e5:decide ((0:Int)<Int.ofNat ([]:List bn).length)=false:=rfl;rw[e5,aF];exact hend
    ·have e5:decide ((0:Int)<Int.ofNat (y::X).length)=true:=by rw[bZ,bU,bX];omega
     have hy:eH (aO sh s) y.tag=false:=by have:=(oO.1 (show y∈(E.drop (i+1)).filter (λx=>!eH (aO sh s) x.tag) by rw[hX];exact nT)).2;simpa using this
     have cF:¬(E[i].tag=y.tag):=λq=>by rw[q,hy] at ho;cases ho
     have x0:∀(K:List Value->sQ),aI 4 0 (aC bP (y::X)) K=K (bP y++(X.flatMap bP)):=λK=>bt kT (l:=y::X) (m:=0) (by rw[bX];omega) K;rw[e5,aD,x0,tg];simp only[aZ,bE,cg,cF,bF,aF];have hend2:=hend;simp only[cg] at hend2;exact hend2
   ·rw[aq ho] at hr;split at hr
    ·cases hr
    rename_i t S1 hv1;split at hr
    ·cases hr
    rename_i ts2 S2' ht;injection hr with hr;cases hr;obtain⟨u,hu⟩:=xS ht;obtain⟨_,T1,so1,t1,t2,t3⟩:=akr (w:=w) (dir:=dir) R HT hv1 (hE _ hmem) (by have:=bT List.length hu;rw[aS] at this;omega) (cq sh) c (no:Int) so;rw[hTl] at t2 t3;obtain⟨T',so',v1,v2,v3⟩:=ih (i+1) (v -1) S1 T1 so1 ts2 (D++[t]) (by omega) (by omega) (by rw[aS,wD];omega) ht (by rw[<-hDr];simp) t1 t2;refine⟨T',so',v1,v2,?_⟩;rw[<-v3];generalize hg:lp zb (sH w rec) (v -1)=g;have ho':eH (aO sh s) E[i].tag=false:=by simpa using ho
    have hfl:(E.drop i).filter (λx=>!eH (aO sh s) x.tag)=E[i]::(E.drop (i+1)).filter (λx=>!eH (aO sh s) x.tag):=by rw[dw hiE,km,ho'];rfl
    rw[hfl];generalize hX:(E.drop (i+1)).filter (λx=>!eH (aO sh s) x.tag)=X;unfold sH Bv;simp only[aV,e1,aW,aD,bR];rw[bt kT hiE,tg];simp only[aZ,bE];rw[cw];have e5:decide ((0:Int)<Int.ofNat (E[i]::X).length)=true:=by rw[bZ,bU,bX];omega
    have x0:∀(K:List Value->sQ),aI 4 0 (aC bP (E[i]::X)) K=K (bP E[i]++(X.flatMap bP)):=λK=>bt kT (l:=E[i]::X) (m:=0) (by rw[bX];omega) K;rw[e5,aD,x0,tg];simp only[aZ,bE,cg,aW,aD];rw[t3];simp only[aB,iG];have hr1:aE (D.flatMap ct).length=true:=by rw[cS gO];simp;omega
    rw[hr1,cw];have e6:1<=(E[i]::X).length:=by rw[bX];omega
    simp only[show aE 1=true from rfl,eJ,eu,nW,pP,bX,List.length_nil,gq,aM,aW,show Nat.beq (0+1+1+1+1) 4=true from rfl,aD,cc];have e7:1<=X.length+1:=by omega
    have e8:decide (1<=X.length+1)=true:=fC e7;rw[e8,aD,uR kT (E[i]::X) (a:=1) (b:=X.length+1) (by rw[bX];omega),show X.length+1 -1=X.length by omega,List.drop_succ_cons,eu,fg (aM _),aN (n:=(i:Int)+1) (by omega) (by omega),show(i:Int)+1=((i+1:Nat):Int) by omega,ft];have htc:[t].flatMap ct=[Value.int .i64 t.tag,.int .i64 t.ty,.int .i64 t.az,ah t.data]:=rfl;rw[htc]
 have hfin0:=key E.length 0 w S T so tags [] (by omega) (by omega) (aM _) (by rw[eu];exact h2) rfl H htl;rw[eu] at hfin0;exact hfin0
theorem Q9(b:List UInt8)(o:Int):∀(n p:Nat),∀x∈jW b o p n,x.slot<4294967296
 |0,_,x,h=>by cases h
 |n+1,p,x,h=>by
  rcases cQ.1 (h) with rfl|h
  ·exact Et b (p+8) o
  ·exact Q9 b o n (p+12) x h
theorem alp{w L:Nat}{b:List UInt8}{o:Int}(R:qF w L b o){sh:List bc}(hsh:iZ sh)(hlk:∀s,s<sh.length->(aO sh s).bN.length<100000){f:Nat}{rec:rH}(hrec:wK sh b o L f rec):wK sh b o L (f+1) (H6 w rec):=by
 have hsm:=R.small;have hlen:=R.len;have hw:=R.wide;intro at_ s no Sp d next no' S' T so c h hs hat hS hno HT
 rw[kE] at h;split at h
 case isFalse=>cases h
 rename_i h0;split at h
 ·cases h
 rename_i hn;split at h
 ·cases h
 rename_i S1 h1;split at h
 case isFalse=>cases h
 rename_i hr;split at h
 ·cases h
 rename_i tags S2 h2;split at h
 ·cases h
 rename_i hP1;split at h
 ·cases h
 rename_i subs no2 S3 h3;rw[hlen] at h0 h1;obtain⟨a1,_,a3⟩:=pF h1;obtain⟨u2,e2⟩:=xS h2;obtain⟨k,u3,e3⟩:=Be (Bd f) h3;obtain⟨n,hnn⟩:∃n,cm b at_ 2 o=n:=⟨_,rfl⟩;have hn2:n<65536:=by rw[<-hnn];exact TJ b at_ R.ord
 obtain⟨E,hE⟩:∃E,jW b o (at_+2) n=E:=⟨_,rfl⟩;have hEl:E.length=n:=by rw[<-hE,JH]
 have hEs:∀x∈E,x.slot<4294967296:=by rw[<-hE];exact Q9 b o n _
 rw[hnn,hE] at h;dsimp only at a3;have hS13:Sp.length<=S3.length:=by rw[e3,e2,a1];simp only[aS];omega
 have hend:∃S4 blob,((∃p q,(E.filter λx=>fy (aO sh s) x.tag)=[p,q]/\q.slot≠0/\p.slot<4294967296/\q.slot<4294967296/\lk L S3 ⟨4,(no:Int),0,p.slot,q.slot⟩=.ok S4/\blob=(b.drop p.slot).take q.slot)\/((E.filter λx=>fy (aO sh s) x.tag).length≠2/\S4=S3/\blob=[]))/\
  d=.mk tags subs blob/\next=cm b (at_+2+12*n) 4 o/\no'=no2/\S'=S4:=by
  split at h
  ·rename_i p q hpq;split at h
   ·cases h
   rename_i hq;split at h
   ·cases h
   rename_i S4 ht;injection h with h;cases h;refine⟨_,_,.inl ⟨p,q,hpq,hq,?_,?_,by rw[<-hlen];exact ht,rfl⟩,rfl,rfl,rfl,rfl⟩
   ·exact hEs p (oO.1 (show p∈E.filter λx=>fy (aO sh s) x.tag by rw[hpq];simp)).1
   ·exact hEs q (oO.1 (show q∈E.filter λx=>fy (aO sh s) x.tag by rw[hpq];simp)).1
  ·rename_i hno2;injection h with h;cases h;refine⟨_,_,.inr ⟨λq=>?_,rfl,rfl⟩,rfl,rfl,rfl,rfl⟩
   rcases hF:(E.filter λx=>fy (aO sh s) x.tag) with _|⟨x,_|⟨y,_|⟨z,l⟩⟩⟩<;>grind
 obtain⟨S4,blob,hfin,rfl,rfl,rfl,rfl⟩:=hend;have hS34:S3.length<=S'.length:=by
  rcases hfin with⟨p,q,_,_,_,_,ht,_⟩|⟨_,e',_⟩
  ·rw[(pF ht).1,aS];omega
  ·rw[e'];omega
 obtain⟨T1,t1,t2,t3⟩:=akp R HT h0.1 h0.2 hn h1 hr (by omega) (by omega) (cq sh) c (ag .i64 ((no:Int).add 1)) so;rw[hnn] at t3 hn h1 hr h2 hP1 h3;rw[hE] at t3 h2 hP1 h3;have haw:ag IntKind.i64 ((no:Int).add 1)=((no+1:Nat):Int):=by rw[cc,aN (by omega) (by omega)];rfl
 rw[haw] at t3;obtain⟨T',so',v1,v2,v3⟩:=alH R hsh hs (hlk s hs) hrec (at_:=at_) (dir:=no) hEs (by omega) (by omega) h2 hP1 h3 hfin hS hno (by omega) t1 so c;rw[t2] at v2 v3;refine⟨T',so',v1,v2,?_⟩;unfold H6;rw[bR,show cq sh=aC jy sh from rfl,bt yX hs];have hsg:sh[s]=aO sh s:=by unfold aO;rw[cu hs];rfl
 have tg:∀(S:bc)(r:List Value),jy S++r=gG S.bN::.int .i64 S.at_::.int .i64 S.cC::.int .i64 S.next::r:=λ_ _=>rfl;rw[hsg,tg];simp only[aZ,bE];rw[show aj (no:Int) (no:Int)=true by rw[cg,bZ],aD,haw,show aC jy sh=cq sh from rfl,t3];simp only[aB,iG];rw[akq E _ (hsh.ok s) (by have:=hlk s hs;omega) (by have:=hlk s hs;omega) (by omega) (by omega)];simp only[aB];rw[cw];rw[hEl] at v3;rw[hEl];exact v3
theorem QN{w L:Nat}{b:List UInt8}{o:Int}(R:qF w L b o){sh:List bc}(hsh:iZ sh)(hlk:∀s,s<sh.length->(aO sh s).bN.length<100000)(z:rH):
 ∀(f n:Nat),f<=n->wK sh b o L f (lZ z (H6 w) n)
 |0,n,_=>by
  intro at_ s no Sp d next no' S' T so c h
  cases h
 |f+1,n+1,h=>by exact alp R hsh hlk (QN R hsh hlk z f n (by omega))
theorem aj3{w L:Nat}{b:List UInt8}{o:Int}(R:qF w L b o){sh:List bc}(hsh:iZ sh)(hlk:∀s,s<sh.length->(aO sh s).bN.length<100000){f:Nat}(hf:f<=w):wK sh b o L f (G2 w):=QN R hsh hlk _ f w hf
theorem V5{rd:Nat->Nat->Nat->List bo->Except Int (aU×Nat×Nat×List bo)}(hrd:∀a s no S d n no' S',rd a s no S=.ok (d,n,no',S')->no'+S.length<=no+S'.length){Sh:bc}:∀{K:List bn}{no no':Nat}{S S':List bo}{r:cI},mm rd Sh K no S=.ok (r,no',S')->no'+S.length<=no+S'.length
 |[],no,no',S,S',r,h=>by rw[mm] at h;cases h;exact aM _
 |x::K,no,no',S,S',r,h=>by
  rw[mm] at h;split at h
  ·grind
  rename_i hd;split at h
  ·grind
  split at h
  ·grind
  rename_i hr;injection h with h;cases h;have a1:=hrd _ _ _ _ _ _ _ _ hd;have a2:=V5 hrd hr;omega
theorem V4{b:List UInt8}{o:Int}{sh:List bc}:∀(f a s no:Nat)(S:List bo)(d:aU)(n no':Nat)(S':List bo),kE b o sh f a s no S=.ok (d,n,no',S')->no'+S.length<=no+S'.length
 |0,a,s,no,S,d,n,no',S',h=>by rw[kE] at h;cases h
 |f+1,a,s,no,S,d,n,no',S',h=>by
  rw[kE] at h;split at h
  case isFalse=>cases h
  split at h
  ·cases h
  split at h
  ·cases h
  rename_i S1 h1;split at h
  case isFalse=>cases h
  split at h
  ·cases h
  rename_i h2;split at h
  ·cases h
  split at h
  ·cases h
  rename_i S3 h3;have e1:=bT List.length (pF h1).1;rw[aS,wD] at e1;obtain⟨u2,e2⟩:=xS h2;have e2:=bT List.length e2;rw[aS] at e2;have e3:=V5 (V4 f) h3;split at h
  ·split at h
   ·cases h
   split at h
   ·cases h
   rename_i h4;injection h with h;cases h;have e4:=bT List.length (pF h4).1;rw[aS] at e4;omega
  ·injection h with h;cases h;omega
theorem ahC{b:List UInt8}{o:Int}{sh:List bc}:∀(f a s no:Nat)(S:List bo)(d:aU)(n no':Nat)(S':List bo),kE b o sh f a s no S=.ok (d,n,no',S')->n<4294967296
 |0,a,s,no,S,d,n,no',S',h=>by rw[kE] at h;cases h
 |f+1,a,s,no,S,d,n,no',S',h=>by
  rw[kE] at h;split at h
  case isFalse=>cases h
  split at h
  ·cases h
  split at h
  ·cases h
  split at h
  case isFalse=>cases h
  split at h
  ·cases h
  split at h
  ·cases h
  split at h
  ·cases h
  split at h
  ·split at h
   ·cases h
   split at h
   ·cases h
   injection h with h;cases h;exact Et _ _ _
  ·injection h with h;cases h;exact Et _ _ _
theorem V3{b:List UInt8}{o:Int}{sh:List bc}:∀(f:Nat)(first:Bool)(a:Nat)(s:Int)(no:Nat)(S:List bo)(ds:List aU)(S':List bo),oE b o sh f first a s no S=.ok (ds,S')->∃u,S'=S++u
 |0,first,a,s,no,S,ds,S',h=>by rw[oE] at h;cases h
 |f+1,first,a,s,no,S,ds,S',h=>by
  rw[oE] at h;split at h
  ·simp_all
  split at h
  ·grind
  split at h
  ·grind
  rename_i hd;split at h
  ·grind
  rename_i hc;injection h with h;cases h;obtain⟨_,u,rfl⟩:=Bd _ _ _ _ _ _ _ _ _ hd;obtain⟨v,rfl⟩:=V3 f _ _ _ _ _ _ _ hc;simp
theorem Qx{w L:Nat}{b:List UInt8}{o:Int}(R:qF w L b o){sh:List bc}(hsh:iZ sh)(hlk:∀s,s<sh.length->(aO sh s).bN.length<100000)(hl:sh.length<100000){S':List bo}(hS:S'.length<100000000)(c:Nat)(tl:Nat):
 ∀(f v at_:Nat)(s:Int)(no:Nat)(Sp:List bo)(D ds:List aU)(T:List Nat)(so:Int),f<v->D.length+f<=sh.length+2->oE b o sh f D.isEmpty at_ s no Sp=.ok (ds,S')->at_<4294967296->s<sh.length->no<=Sp.length->Tk T L (gy Sp)->T.length=tl->
  ∃T' so' no',lp Dq (wZ w) v (at_:Int) s (ah b) o (cq sh) tl c (no:Int) so o 0 (eD T) (Sp.flatMap bY) (D.flatMap cU)=some (o,0,ah b,o,cq sh,tl,c,no',so',(D++ds).flatMap cU,eD T',S'.flatMap bY)
 |0,v,at_,s,no,Sp,D,ds,T,so,_,_,h,_,_,_,_,_=>by rw[oE] at h;cases h
 |f+1,v,at_,s,no,Sp,D,ds,T,so,hv,hD,h,hat,hs,hno,HT,hTl=>by
  have hw:=R.wide;have h232:∀n,eW w true n=some (.inl ()):=λ_=>rfl;rw[oE] at h;rw[eG Dq (wZ w) (by omega)];split at h
  ·rename_i h0;injection h with h;cases h;rw[h0.1];have hDe:D.length≠0:=by
    intro q;have:D=[]:=qC.1 q;rw[this] at h0;exact absurd h0.2 (by decide)
   refine⟨T,so,(no:Int),?_⟩;unfold wZ FM Br;have e1:ak 0 ((0:Nat):Int)=false:=rfl;have e2:aj (Int.ofNat ((D.flatMap cU).length/3)) 0=false:=by rw[cS kQ,cg,gM,bU];omega
   simp_all
  ·rename_i h0;split at h
   ·cases h
   rename_i hs0;split at h
   ·cases h
   rename_i d next no1 S1 hd
   split at h
   ·cases h
   rename_i ds2 S2 hc;injection h with h;cases h;have hst:(s.toNat:Int)=s:=mz (by omega);have hsl:s.toNat<sh.length:=by omega
   obtain⟨u,hu⟩:=V3 _ _ _ _ _ _ _ _ hc;have hu:=bT List.length hu;rw[aS] at hu;have hcn:=V4 _ _ _ _ _ _ _ _ _ hd;obtain⟨T1,so1,t1,t2,t3⟩:=aj3 R hsh hlk (f:=sh.length) (by omega) at_ s.toNat no Sp d next no1 S1 T so c hd hsl hat (by omega) (by omega) HT
   rw[hTl] at t2 t3;rw[hst] at t3;have hnx:=hsh.next s.toNat hsl;obtain⟨T',so',no',v3⟩:=Qx R hsh hlk hl hS c tl f (v -1) next (aO sh s.toNat).next no1 S1 (D++[d]) ds2 T1 so1 (by omega) (by rw[aS,wD];omega) (by
    have:(D++[d]).isEmpty=false:=by cases D<;>rfl
    rw[this];exact hc) (ahC _ _ _ _ _ _ _ _ _ hd) (by omega) (by omega) t1 t2
   refine⟨T',so',no',?_⟩;rw[dV] at v3;rw[show D++d::ds2=D++([d]++ds2) from rfl,<-v3];generalize hg:lp Dq (wZ w) (v -1)=g;have hsn:(!ak s 0)=true:=by rw[aV,gk (by omega:¬s<0)];rfl
   have hr1:aE (D.flatMap cU).length=true:=by rw[cS kQ];simp;omega
   have hsg:sh[s.toNat]=aO sh s.toNat:=by unfold aO;rw[cu hsl];rfl
   have tg:∀(S:bc)(r:List Value),(jy S++r).drop 3=.int .i64 S.next::r:=λ_ _=>rfl;have hdc:List.take 3 (List.drop 0 [dT d,dS d,dB d])=[d].flatMap cU:=by rw[dK,lu,dW,qb];rfl
   have x0:∀(K:List Value->Option (Int×Int×Value×Int×Value×Nat×Nat×Int×Int×List Value×List Value×List Value)),aA s (λx58=>aI 4 x58 (cq sh) K)=K (jy (aO sh s.toNat)++(sh.drop (s.toNat+1)).flatMap jy):=by intro K;rw[<-hst,bR,show cq sh=aC jy sh from rfl,mT,bt yX hsl,hsg]
   unfold wZ FM Br;have fin:∀(A:Int->Option (Int×Int×Value×Int×Value×Nat×Nat×Int×Int×List Value×List Value×List Value))(B:Int×Value×Int×Value×Nat×Nat×Int×Int×List Value×List Value->Option (Int×Int×Value×Int×Value×Nat×Nat×Int×Int×List Value×List Value×List Value)),
    (ob (eW w (!ak s 0) 2) λ(x43:PUnit⊕Int)=>dt x43 (λ(x44:PUnit)=>ob (G2 w (at_:Int) s (ah b) o (cq sh) tl c (no:Int) so (eD T) (Sp.flatMap bY)) λx45=>dt x45 (λ(x46:Value×Value×Value×Int×Value×Int×Value×Nat×Nat×Int×Int×List Value×List Value)=>bif aE (D.flatMap cU).length&&(aE 1&&(List.take 3 (List.drop 0 [x46.fst,x46.snd.fst,x46.snd.snd.fst])).length.beq 3) then aA s λ(x47:Nat)=>aI 4 x47 x46.snd.snd.snd.snd.snd.snd.fst λ(x48:List Value)=>af (List.drop 3 x48) λ(x49:Value)(x50:List Value)=>ar IntKind.i64 x49 λ(x51:Int)=>g x46.snd.snd.snd.fst x51 x46.snd.snd.snd.snd.fst x46.snd.snd.snd.snd.snd.fst x46.snd.snd.snd.snd.snd.snd.fst x46.snd.snd.snd.snd.snd.snd.snd.fst x46.snd.snd.snd.snd.snd.snd.snd.snd.fst x46.snd.snd.snd.snd.snd.snd.snd.snd.snd.fst x46.snd.snd.snd.snd.snd.snd.snd.snd.snd.snd.fst o 0 x46.snd.snd.snd.snd.snd.snd.snd.snd.snd.snd.snd.fst x46.snd.snd.snd.snd.snd.snd.snd.snd.snd.snd.snd.snd (D.flatMap cU++List.take 3 (List.drop 0 [x46.fst,x46.snd.fst,x46.snd.snd.fst])) else none) B) A)=g (next:Int) (aO sh s.toNat).next (ah b) o (cq sh) tl c (no1:Int) so1 o 0 (eD T1) (S1.flatMap bY) ((D++[d]).flatMap cU):=by
    intro A B;rw[hsn,h232];simp only[aB,iG];rw[t3];simp only[aB,iG];rw[hr1,hdc,x0,tg];simp only[aZ,bE];rw[ft,show[d].flatMap cU=cU d++[] from rfl,dW,kQ];rfl
   by_cases hp:0<at_
   ·have e1:ak 0 (at_:Int)=true:=by rw[aV,bZ];omega
    rw[e1,aD];exact fin _ _
   ·have e1:ak 0 (at_:Int)=false:=by rw[aV,gM];omega
    have hDe:D=[]:=by
     cases D with
     |nil=>rfl
     |cons a l=>exact absurd ⟨by omega,rfl⟩ h0
    have e2:aj (Int.ofNat ((D.flatMap cU).length/3)) 0=true:=by rw[hDe];rfl
    rw[e1,aF,e2,aD];exact fin _ _
theorem Wg:∀n:Nat,rep n (Value.int IntKind.u64 0).cells.toList=eD (List.replicate n 0)
 |0=>rfl
 |n+1=>by show _++rep n _=_;rw[Wg n];rfl
theorem amb(L:Nat):Tk (List.replicate (L/64+1) 0) L (gy []):=by
 refine⟨uu,λn hn=>(by grind),λp hp=>?_⟩
 ·unfold Dm gy
  grind
theorem NP{w:Nat}{b:List UInt8}{sh:List bc}(hb:b.length<2^29)(hw:b.length+200000<w)(hsh:iZ sh)(hlk:∀s,s<sh.length->(aO sh s).bN.length<100000)(hl:sh.length<100000)(h0:0<sh.length)(tz:re w (cq sh)=some true){o:Int}{ds:List aU}{S:List bo}(hS:S.length<100000000)(h:uo b sh=.ok (⟨o,ds⟩,S)):
 yv w (ah b) (cq sh)=some (o,cR ds,aC bY S,0):=by
 unfold uo at h;split at h
 ·cases h
 split at h
 ·cases h
 rename_i h42;split at h
 ·cases h
 rename_i ds1 Sx hc;injection h with h;injection h with h1 h2;injection h1 with h1 h3;subst h1 h2 h3;have ho:lM b=1\/lM b=2:=by
  have:lM b≠0:=λq=>h42 (.inl q);unfold lM at this⊢;split
  ·exact .inl rfl
  ·split
   ·exact .inr rfl
   ·rename_i a c;rw[aq a,aq c] at this;exact absurd rfl this
 have R:qF w b.length b (lM b):=⟨rfl,hb,hw,ho⟩;obtain⟨T1,t1,t2,t3⟩:=aj2 R (by omega) rfl (qA.1 λq=>h42 (.inr q)) (amb b.length) (cq sh) (b.length/64+1) 0 0;rw[uu] at t2 t3;obtain⟨T2,so2,no2,v3⟩:=Qx R hsh hlk hl hS (b.length/64+1) (b.length/64+1) (sh.length+2) w (cm b 4 4 (lM b)) 0 0 [⟨1,-1,0,0,8⟩] [] ds1 T1 0 (by omega) (by simp) hc (Et _ _ _) (by omega) (by omega) t1 t2;have h180:GO w (ah b) (cq sh)=some (ah b,0,cq sh,b.length/64+1,b.length/64+1,0,0,eD (List.replicate (b.length/64+1) 0),[]):=by
  unfold GO;rw[cN,bU,Jv _ (by omega),cc,aN (by omega) (by omega),show((b.length/64:Nat):Int)+1=((b.length/64+1:Nat):Int) by omega];simp only[bR];have e1:b.length/64+1<=1000000000:=by omega
  simp only[gq,aM,e1,aW,jA,kj];rw[Wg];rfl
 have h181:GP w (ah b) 0 (cq sh) (b.length/64+1) (b.length/64+1) 0 0 (eD (List.replicate (b.length/64+1) 0)) []=some (lM b,0,ah b,lM b,cq sh,b.length/64+1,b.length/64+1,no2,so2,ds1.flatMap cU,eD T2,Sx.flatMap bY):=by unfold GP Br;rw[tz];rw[t3];exact v3
 unfold yv;rw[h180];simp;rw[h181];simp only[aB];rw[YE Sx _ rfl,cS kQ,iW _ (by decide)];rfl
theorem X3(w:Nat)(a b c t:Int)(d:Value):vQ w a b c d t=some (if a<t then-1 else if t<a then 1 else 0):=by
 unfold vQ Oq Hh;by_cases h:a<t
 ·simp[h]
 ·by_cases h2:t<a
  ·simp[h,h2]
  ·simp[h,h2]
theorem Ob{w:Nat}(l:List aK)(t:Int)(hr:fH l=true)(hl:l.length<2^40)(hw:l.length+2<w):
 ∃i:Nat,yA w (aw l) t=some ((i:Int),(iB l t).isSome)/\i<=l.length/\(∀h:(iB l t).isSome=true,∃h':i<l.length,iB l t=some l[i])/\(∀x (h:x<l.length),x<i->l[x].tag<t)/\∀x (h:x<l.length),i<=x->t<=l[x].tag:=by
 have key:∀(k i j v:Nat),j=i+k->j<=l.length->k+1<v->(∀x (h:x<l.length),x<i->l[x].tag<t)->(∀x (h:x<l.length),j<=x->t<=l[x].tag)->
  ∀(z:Value->Int->Int->Int->Int->Option (Int×Bool))(F:(Value->Int->Int->Int->Int->Option (Int×Bool))->Value->Int->Int->Int->Int->Option (Int×Bool)),
  (∀(x8:Value->Int->Int->Int->Int->Option (Int×Bool))(x9:Value)(x10 x11 x12 x13:Int),F x8 x9 x10 x11 x12 x13=bif ak x12 x13 then aA (ag IntKind.i64 ((ag IntKind.u64 (ag IntKind.i64 (x12.add x13))).fdiv (2^1))) λ(x14:Nat)=>aI 4 x14 x9 λ(x15:List Value)=>af x15 λ(x16:Value)(x17:List Value)=>ar IntKind.i64 x16 λ(x18:Int)=>af x17 λ(x19:Value)(x20:List Value)=>ar IntKind.i64 x19 λ(x21:Int)=>af x20 λ(x22:Value)(x23:List Value)=>ar IntKind.i64 x22 λ(x24:Int)=>af x23 λ(x25:Value)(x26:List Value)=>ob (vQ w x18 x21 x24 x25 x10) λ(x27:Int)=>bif ak x27 0 then x8 x9 x10 x11 (ag IntKind.i64 ((ag IntKind.i64 ((ag IntKind.u64 (ag IntKind.i64 (x12.add x13))).fdiv (2^1))).add 1)) x13 else x8 x9 x10 x11 x12 (ag IntKind.i64 ((ag IntKind.u64 (ag IntKind.i64 (x12.add x13))).fdiv (2^1))) else bif ak x12 x11 then aA x12 λ(x28:Nat)=>aI 4 x28 x9 λ(x29:List Value)=>af x29 λ(x30:Value)(x31:List Value)=>ar IntKind.i64 x30 λ(x32:Int)=>af x31 λ(x33:Value)(x34:List Value)=>ar IntKind.i64 x33 λ(x35:Int)=>af x34 λ(x36:Value)(x37:List Value)=>ar IntKind.i64 x36 λ(x38:Int)=>af x37 λ(x39:Value)(x40:List Value)=>ob (vQ w x32 x35 x38 x39 x10) λ(x41:Int)=>some (x12,aj x41 0) else some (x12,false))->
  ∃i':Nat,lp z F v (aw l) t l.length i j=some ((i':Int),(iB l t).isSome)/\i'<=l.length/\(∀h:(iB l t).isSome=true,∃h':i'<l.length,iB l t=some l[i'])/\(∀x (h:x<l.length),x<i'->l[x].tag<t)/\∀x (h:x<l.length),i'<=x->t<=l[x].tag:=by
  intro k;induction k using Nat.strongRecOn with
  |ind k ih=>
   intro i j v hj hjl hv h1 h2 z F hF;have tg:∀(y:aK)(r:List Value),ct y++r=Value.int .i64 y.tag::.int .i64 y.ty::.int .i64 y.az::ah y.data::r:=λ_ _=>rfl;rw[eG z F (by omega),hF];by_cases hk:k=0
   ·subst hk;have e1:¬((i:Int)<(j:Int)):=by omega
    simp only[aV,e1,bF,aF];by_cases hi:i<l.length
    ·have e2:((i:Int)<(l.length:Int)):=by omega
     simp only[e2,aW,aD,bR];rw[show aw l=aC ct l from rfl,bt gO hi,tg];simp only[aZ,bE];rw[X3];simp only[aB];have hge:=h2 i hi (by omega);by_cases he:l[i].tag=t
     ·have hf:iB l t=some l[i]:=by
       unfold iB;rw[List.find?_eq_some_iff_getElem];refine⟨by simp[he],i,hi,rfl,λx hx=>?_⟩;have:=h1 x (by omega) hx;simp;omega
      refine⟨i,?_,by omega,λ_=>⟨hi,hf⟩,h1,λx h q=>h2 x h (by omega)⟩;rw[hf,aq (by omega),aq (by omega)];rfl
     ·have hf:iB l t=none:=by
       unfold iB;rw[List.find?_eq_none];intro y hy;obtain⟨x,hx,rfl⟩:=List.mem_iff_getElem.1 hy;have a:=λq=>h1 x hx q;have b:x=i\/x<i\/i<x:=by omega
       rcases b with rfl|b|b
       ·simpa using he
       ·have:=h1 x hx b;simp;omega
       ·have:=vC hr b hx;simp;omega
      refine⟨i,?_,by omega,(λh=>by rw[hf] at h;cases h),h1,λx h q=>h2 x h (by omega)⟩;rw[hf,aq (by omega),ay (by omega)];rfl
    ·have e2:¬((i:Int)<(l.length:Int)):=by omega
     simp only[e2,bF,aF];have hf:iB l t=none:=by unfold iB;rw[List.find?_eq_none];intro y hy;obtain⟨x,hx,rfl⟩:=List.mem_iff_getElem.1 hy;have:=h1 x hx (by omega);simp;omega
     exact⟨i,by rw[hf];rfl,by omega,(λh=>by rw[hf] at h;cases h),h1,λx h q=>h2 x h (by omega)⟩
   ·have e1:((i:Int)<(j:Int)):=by omega
    obtain⟨m,hm⟩:∃m,(i+j)/2=m:=⟨_,rfl⟩;have hmi:i<=m/\m<j:=by omega
    have haw:ag IntKind.i64 ((ag IntKind.u64 (ag IntKind.i64 ((i:Int).add (j:Int)))).fdiv (2^1))=(m:Int):=by rw[cc,aN (n:=(i:Int)+(j:Int)) (by omega) (by omega),sS (by omega) (by omega),show((2:Int)^1)=2 from rfl,Int.fdiv_eq_ediv_of_nonneg _ (by decide),show((i:Int)+(j:Int))/2=(m:Int) by omega,aN (by omega) (by omega)]
    simp only[aV,e1,aW,aD];rw[haw,bR,show aw l=aC ct l from rfl,bt gO (by omega:m<l.length),tg];simp only[aZ,bE];rw[X3];simp only[aB];by_cases hlt:l[m].tag<t
    ·rw[ay hlt,show decide ((-1:Int)<0)=true from rfl,aD,cc,aN (by omega) (by omega),show(m:Int)+1=((m+1:Nat):Int) by omega];refine ih (j -(m+1)) (by omega) (m+1) j (v -1) (by omega) hjl (by omega) (λx hx hxm=>?_) h2 z F hF;by_cases hxe:x=m
     ·subst hxe;exact hlt
     ·have:=vC hr (show x<m by omega) (show m<l.length by omega);omega
    ·rw[aq hlt];have e3:∀(A B:Option (Int×Bool)),(bif decide ((if t<l[m].tag then(1:Int) else 0)<0) then A else B)=B:=by
      intro A B;split<;>rfl
     rw[e3];refine ih (m -i) (by omega) i m (v -1) (by omega) (by omega) (by omega) h1 (λx hx hxm=>?_) z F hF;by_cases hxe:x=m
     ·subst hxe;omega
     ·have:=vC hr (show m<x by omega) hx;omega
 obtain⟨i,a,b,c⟩:=key l.length 0 l.length w (by omega) (aM _) (by omega) (λ_ _ h=>by omega) (λx h h'=>by omega) _ _ (λ_ _ _ _ _ _=>rfl);refine⟨i,?_,b,c⟩;unfold yA Oo FV;refine Eq.trans (bT (λz=>ob z _) a) rfl
theorem Gt{w:Nat}(l:List aK)(t:Int)(hr:fH l=true)(hl:l.length<2^40)(hw:l.length+2<w)(hd:∀t∈l,t.data.length<=1000000000):
 BM w (aw l) t=some (match iB l t with|some x=>(x.ty,x.az,ah x.data,true)|none=>(0,0,ae 0 [],false)):=by
 obtain⟨i,a,b,c,_⟩:=Ob l t hr hl hw;unfold BM;rw[a];simp only[aB];cases hf:iB l t with
 |none=>rfl
 |some x=>
  obtain⟨h',e⟩:=c (by grind);rw[hf] at e;injection e with e;rw[bR,show aw l=aC ct l from rfl,bt gO h',(show∀(y:aK)(r:List Value),List.drop 1 (ct y++r)=.int .i64 y.ty::.int .i64 y.az::ah y.data::r fromλ_ _=>rfl)]
  simp;unfold ua;rw[rK w _ (hd _ (cy h')),<-e];rfl
def xw(l:List aK):List (Int×aU)->List aK
 |[]=>l
 |(_,.mk tags _ _)::r=>xw tags r
theorem SX:∀(s:cI)(l:List aK),xx l s=xw l (aP s)
 | .nil,l=>rfl
 | .cons _ (.mk tags _ _) r,l=>by rw[xx,SX r tags];rfl
theorem s9(tags:List aK)(subs:cI)(blob:List UInt8):cU (.mk tags subs blob)=[aw tags,ae (cd subs) (gK subs),ah blob]:=by rw[cU]
def Zs(m:Nat)(l:List (Int×aU)):Prop:=∀p∈l,iw m p.2
theorem agL{w m:Nat}(hm:m<=1000000)(hw:m+20<w)(L:List (Int×aU))(hL:L.length<=m)(hS:Zs m L)(o:Int)(a b c e f g:Value)(i0:List aK):
 lp Vj (E7 w) w (aC fZ L) L.length 0 o a b c (aw i0) e f g=some (true,o,a,b,c,aw (xw i0 L),e,f,g):=by
 refine nG (ev:=λi s (k:C4)=>k (aC fZ L) L.length i o a b c (aw s) e f g) (Inv:=λi s=>xw s (L.drop i)=xw i0 L) L.length i0 (by rw[eu]) ?_ ?_ (by omega)
 ·intro i g s hi hI;have hsm:=hS _ (cy hi);rw[dw hi] at hI;have e1:((i:Int)<(L.length:Int)):=by omega
  have sg:∀(p:Int×aU)(r:List Value),fZ p++r=.int .i64 p.1 ::dT p.2 ::dS p.2 ::dB p.2 ::r:=by intro p r;unfold fZ;rw[qb];rfl
  obtain⟨⟨tags,subs,blob⟩,hd⟩:∃d,L[i].2 =d:=⟨_,rfl⟩;have hsm2:tags.length<=m/\cd subs<=m/\blob.length<=m/\(∀t∈tags,t.data.length<=m)/\iy m subs:=by rw[hd] at hsm;exact hsm
  refine⟨tags,?_,?_⟩
  ·rw[<-hI,show L[i]=(L[i].1,L[i].2) from rfl,hd];rfl
  ·unfold E7 Bt;simp only[aV,e1,bR];rw[bt uh hi,sg];simp only[aZ];rw[hd,show dT (.mk tags subs blob)=aw tags from rfl,r9 tags (by omega) (λt ht=>by have:=hsm2.2.2.2.1 t ht;omega) (by omega)];simp only[cc];rw[aN (by omega) (by omega)];rfl
 ·intro g s hI;rw[rB,xw] at hI;unfold E7 Bt;simp;rw[hI]
theorem aj0{w m:Nat}(A:Hand w)(hm:m<=1000000)(hw:m+20<w){r r':dr}{d:aU}(hd:iw m d)(hr:∀tags subs blob,d=.mk tags subs blob->fH tags=true)(h:qT r d=some r'):
 GZ w (dT d) (dS d) (dB d) r.order (aw r.cn) (aw r.bD) (aw r.bM) (aw r.bm) (aw r.first) (ah r.bC) (ah r.cH)=some (true,r'.order,aw r'.cn,aw r'.bD,aw r'.bM,aw r'.bm,aw r'.first,ah r'.bC,ah r'.cH):=by
 obtain⟨tags,subs,blob⟩:=d;have hsm2:tags.length<=m/\cd subs<=m/\blob.length<=m/\(∀t∈tags,t.data.length<=m)/\iy m subs:=hd;have hrt:=hr tags subs blob rfl;have hsl:=uj subs;have hdrop:=A.drop tags 37500 hrt (by omega) (by omega) (λt ht=>by have:=hsm2.2.2.2.1 t ht;omega);have hlp:=agL hm hw (aP subs) (by omega) (λp hp=>wP hsm2.2.2.2.2 p hp) r.order (aw r.cn) (aw (oY tags 37500)) (aw r.bM) (aw r.first);unfold GZ Bt;rw[show dT (.mk tags subs blob)=aw tags from rfl,show dS (.mk tags subs blob)=ae (cd subs) (gK subs) from rfl,(Gt tags 37500 hrt (by omega) (by omega) (λt ht=>by have:=hsm2.2.2.2.1 t ht;omega)),CG];simp only[qT,SX] at h;cases hf:iB tags 37500 with
 |some v=>
  rw[hf] at h;simp only at h;split at h
  case isFalse=>cases h
  rename_i h7;injection h with h;subst h;simp;rw[h7,hdrop];exact hlp _ _ _
 |none=>rw[hf] at h;injection h with h;subst h;rw[hdrop];simp only[aaR];exact hlp _ _ _
theorem ac5{w m:Nat}(hm:m<=1000000)(hw:m+20<w)(ds:List aU)(hl:ds.length<=m)(hS:oe m ds)(r x:dr)(hx:uY r ds=x)(hc:iM x=0)(hE:jC x m)(A B C D E F G:Value):
 lp TM (Ex w) w (aC cU ds) ds.length 0 0 A B C D E F G r.order (aw r.cn) (aw r.bD) (aw r.bM) (aw r.bm) (aw r.first) (ah r.bC) (ah r.cH)=some (x.order,aw x.cn,aw x.bD,aw x.bM,aw x.bm,aw x.first,ah x.bC,ah x.cH,0):=by
 refine nG (σ:=dr) (ev:=λi s (k:C1)=>k (aC cU ds) ds.length i 0 A B C D E F G s.order (aw s.cn) (aw s.bD) (aw s.bM) (aw s.bm) (aw s.first) (ah s.bC) (ah s.cH)) (Inv:=λi s=>uY s (ds.drop i)=x) ds.length r hx ?_ ?_ (by omega)
 ·intro i g s hi hI;have hsm:=hS _ (cy hi);rw[dw hi] at hI;obtain⟨⟨tags,subs,blob⟩,hd⟩:∃d,ds[i]=d:=⟨_,rfl⟩;rw[hd] at hI hsm;have hsm2:tags.length<=m/\cd subs<=m/\blob.length<=m/\(∀t∈tags,t.data.length<=m)/\iy m subs:=hsm;refine⟨_,hI,?_⟩;unfold Ex;simp_all;rw[bt kQ hi,hd,zT];simp;rw[show dT (.mk tags subs blob)=aw tags from rfl,show dB (.mk tags subs blob)=ah blob from rfl,r9 tags (by omega) (λt ht=>by have:=hsm2.2.2.2.1 t ht;omega) (by omega),rK w blob (by omega),aN (by omega) (by omega)];rfl
 ·intro g s hI;rw[rB,uY] at hI;subst hI;unfold Ex;simp;rw[XX hE (by omega) hw,hc];rfl
def rm(r:dr):List (Int×aU)->Option dr
 |[]=>some r
 |(tag,d)::s=>if tag=34853 then rm {r with bM:=(match d with| .mk tags _ _=>tags)} s else(qT r d).bind λr=>rm r s
theorem Pp:∀(s:cI)(r:dr),rl r s=rm r (aP s)
 | .nil,r=>rfl
 | .cons tag (.mk tags a b) s,r=>by
  show(if tag=34853 then rl {r with bM:=tags} s else(qT r (.mk tags a b)).bind λr=>rl r s)=(if tag=34853 then rm {r with bM:=tags} (aP s) else(qT r (.mk tags a b)).bind λr=>rm r (aP s))
  split
  ·exact Pp s _
  ·congr 1
   funext r
   exact Pp s r
theorem alC(r:dr)(tag:Int)(d:aU)(s:List (Int×aU)):rm r ((tag,d)::s)=if tag=34853 then rm {r with bM:=(match d with| .mk tags _ _=>tags)} s else(qT r d).bind λr=>rm r s:=by rfl
def Db(d:aU):Prop:=∀tags subs blob,d=.mk tags subs blob->fH tags=true
theorem ajN{w m:Nat}(A:Hand w)(hm:m<=1000000)(hw:m+20<w){o:Int}{ds:List aU}{x:dr}(h200:ub w o (cR ds) (cq db)=some 0)(h:xE ⟨o,ds⟩=some x)(hE:jC x m)(hl:ds.length<=m)(hS:oe m ds)(hr:∀d∈ds,∀tags subs blob,d=.mk tags subs blob->∀p∈aP subs,Db p.2):
 GN w o (cR ds)=some (x.order,aw x.cn,aw x.bD,aw x.bM,aw x.bm,aw x.first,ah x.bC,ah x.cH,0):=by
 unfold xE at h;rcases ds with _|⟨⟨tags,subs,blob⟩,ds⟩
 ·cases h
 simp only at h;rw[Pp] at h;obtain⟨r1,hr1,h⟩:=Option.bind_eq_some_iff.1 h;split at h
 case isFalse=>cases h
 rename_i hc;injection h with h;have hsm2:tags.length<=m/\cd subs<=m/\blob.length<=m/\(∀t∈tags,t.data.length<=m)/\iy m subs:=hS _ nT;have hrs:=hr _ nT tags subs blob rfl;have hsl:=uj subs;rw[bX] at hl;have e0:∀(K:List Value->Option (Int×Value×Value×Value×Value×Value×Value×Value×Int)),aI 3 0 (cR (.mk tags subs blob::ds)) K=K (cU (.mk tags subs blob)++ds.flatMap cU):=λK=>bt kQ (m:=0) (by rw[bX];omega) K
 have d0:∀r:List Value,List.drop 0 (cU (.mk tags subs blob)++r)=aw tags::ae (cd subs) (gK subs)::ah blob::r:=by intro r;rw[s9];rfl
 have d1:∀r:List Value,List.drop 1 (cU (.mk tags subs blob)++r)=ae (cd subs) (gK subs)::ah blob::r:=by intro r;rw[s9];rfl
 unfold GN;rw[NZ];simp only[aB];rw[h200];simp only[aB];rw[show(!aj 0 0)=false from rfl,aF,e0,d0];simp only[aZ];rw[r9 tags (by omega) (λt ht=>by have:=hsm2.2.2.2.1 t ht;omega) (by omega)];simp only[aB];rw[e0,d1];simp only[aZ];rw[CG,cw];have main:lp TL (Ew w) w (aC fZ (aP subs)) (aP subs).length 0 o (cR (.mk tags subs blob::ds)) 0 (ae 0 []) (ae 0 []) (ae 0 []) (ae 0 []) (ae 0 []) (ae 0 []) (ae 0 []) o (aw tags) (aw []) (aw []) (aw []) (aw []) (ah []) (ah [])=some (x.order,aw x.cn,aw x.bD,aw x.bM,aw x.bm,aw x.first,ah x.bC,ah x.cH,0):=by
  refine nG (σ:=dr) (ev:=λi s (k:C0)=>k (aC fZ (aP subs)) (aP subs).length i o (cR (.mk tags subs blob::ds)) 0 (ae 0 []) (ae 0 []) (ae 0 []) (ae 0 []) (ae 0 []) (ae 0 []) (ae 0 []) s.order (aw s.cn) (aw s.bD) (aw s.bM) (aw s.bm) (aw s.first) (ah s.bC) (ah s.cH)) (Inv:=λi s=>rm s ((aP subs).drop i)=some r1) (aP subs).length ⟨o,tags,[],[],[],[],[],[]⟩ ?_ ?_ ?_ (by omega)
  ·exact hr1
  ·intro i g s hi hI;have hmem:=cy hi;have hsm:=wP hsm2.2.2.2.2 _ hmem;have hri:=hrs _ hmem;rw[dw hi] at hI;have e1:((i:Int)<((aP subs).length:Int)):=by omega
   have sg:∀(p:Int×aU)(r:List Value),fZ p++r=.int .i64 p.1 ::dT p.2 ::dS p.2 ::dB p.2 ::r:=by intro p r;unfold fZ;rw[qb];rfl
   rw[alC] at hI;unfold Ew;simp_all;rw[bt uh hi,sg];simp;by_cases hg:(aP subs)[i].1 =34853
   ·rw[ay hg] at hI;simp_all;refine⟨_,hI,?_⟩;obtain⟨⟨tags2,subs2,blob2⟩,hd⟩:∃d,(aP subs)[i].2 =d:=⟨_,rfl⟩;rw[hd] at hsm⊢;have hsm3:tags2.length<=m/\cd subs2<=m/\blob2.length<=m/\(∀t∈tags2,t.data.length<=m)/\iy m subs2:=hsm;rw[show dT (.mk tags2 subs2 blob2)=aw tags2 from rfl,r9 tags2 (by omega) (λt ht=>by have:=hsm3.2.2.2.1 t ht;omega) (by omega)];rw[aN (by omega) (by omega)];rfl
   ·rw[aq hg] at hI;simp_all;obtain⟨s2,hs2,hI⟩:=Option.bind_eq_some_iff.1 hI;refine⟨s2,hI,?_⟩;rw[aj0 A hm hw hsm hri hs2];simp only[aB,bJ,aF,cc];rw[aN (by omega) (by omega)];rfl
  ·intro g s hI;rw[rB,rm] at hI;injection hI with hI;subst hI;have e1:¬(((aP subs).length:Int)<((aP subs).length:Int)):=by omega
   unfold Ew;simp;rw[show cR (.mk tags subs blob::ds)=aC cU (.mk tags subs blob::ds) from rfl,cw];have e2:1<=(aU.mk tags subs blob::ds).length:=by rw[bX];omega
   simp only[gq,aM,e2,aW,jA,aD];rw[uR kQ _ (aM _),List.drop_succ_cons,eu,fg (by rw[bX];omega),cw];exact ac5 hm hw ds (by omega) (λd hd=>hS d (mU _ hd)) s x h (by rw[<-h];exact hc) hE _ _ _ _ _ _ _
 exact main
theorem ajc{w m:Nat}(A:Hand w)(hm:m<=1000000)(hw:m+20<w){b:List UInt8}{o:Int}{ds:List aU}{S:List bo}{x:dr}(h117:yv w (ah b) (cq db)=some (o,cR ds,aC bY S,0))(h200:ub w o (cR ds) (cq db)=some 0)(h:xE ⟨o,ds⟩=some x)(hE:jC x m)(hl:ds.length<=m)(hS:oe m ds)(hr:∀d∈ds,∀tags subs blob,d=.mk tags subs blob->∀p∈aP subs,Db p.2):
 BL w (ah b)=some (x.order,aw x.cn,aw x.bD,aw x.bM,aw x.bm,aw x.first,ah x.bC,ah x.cH,0):=by
 unfold BL FU;rw[NZ];simp;rw[h117];simp;rw[ajN A hm hw h200 h hE hl hS hr];rfl
theorem Yp(w:Nat)(b:List UInt8):Cr w (ah b)=some (nA.isPrefixOf b):=by unfold Cr;have:ae 6 (List.drop 0 [Value.int IntKind.u8 69,Value.int IntKind.u8 120,Value.int IntKind.u8 105,Value.int IntKind.u8 102,Value.int IntKind.u8 0,Value.int IntKind.u8 0])=ah nA:=rfl;rw[this,BF];rfl
theorem NM(w:Nat)(b:List UInt8):BK w (ah b)=some (fL.isPrefixOf b):=by unfold BK;have:ae 12 (List.drop 0 [Value.int IntKind.u8 73,Value.int IntKind.u8 67,Value.int IntKind.u8 67,Value.int IntKind.u8 95,Value.int IntKind.u8 80,Value.int IntKind.u8 82,Value.int IntKind.u8 79,Value.int IntKind.u8 70,Value.int IntKind.u8 73,Value.int IntKind.u8 76,Value.int IntKind.u8 69,Value.int IntKind.u8 0])=ah fL:=rfl;rw[this,BF];rfl
theorem akX{w:Nat}{b k:List UInt8}(hk:b=nA++k)(hb:b.length<=65533){o:Int}{a1 a2 a3 a4 a5 a6 a7:Value}(h:BL w (ah k)=some (o,a1,a2,a3,a4,a5,a6,a7,0)):yT w (ah b)=some (o,a1,a2,a3,a4,a5,a6,a7,0):=by
 have hp:nA.isPrefixOf b=true:=by rw[hk,qB];exact sK _ _
 have hl:6<=b.length:=by rw[hk,aS];have:nA.length=6:=rfl;omega
 have e1:¬((65533:Int)<(b.length:Int)):=by omega
 have e2:¬((b.length:Int)<(6:Int)):=by omega
 unfold yT NN NO FU;rw[cN];simp[e1];simp[e2];rw[Yp,hp];simp[hl];rw[nv _ (aM _),fg (by rw[eU];omega),show b.drop 6=k by rw[hk];rfl,h];rfl
theorem ajd{w:Nat}{c:List UInt8}(h1:1<=c.length)(h2:c.length<=65519):Gq w (ah (fL++1::1::c)) ((0:Nat):Int) 1=some true:=by
 have hp:fL.isPrefixOf (fL++1::1::c)=true:=by rw[qB];exact sK _ _
 have hl:(fL++1::1::c).length=c.length+14:=by rw[aS];show 12+_=_;simp;omega
 have i12:(fL++1::1::c)[12]'(by omega)=1:=rfl
 have i13:(fL++1::1::c)[13]'(by omega)=1:=rfl
 unfold Gq;rw[cN,NM,hp];simp only[aB,aF];rw[oA (by omega:12<_),i12];unfold bg;simp only[aZ,bE];rw[show aj (ag IntKind.i64 ((1:UInt8).toNat:Int)) (ag IntKind.i64 (Int.add ((0:Nat):Int) 1))=true from rfl];rw[oA (by omega:13<_),i13];unfold bg;simp only[aZ,bE];rw[show aj (ag IntKind.i64 ((1:UInt8).toNat:Int)) 1=true from rfl];simp only[bJ];rw[hl,jd,bU,aN (by omega) (by omega),show((c.length+14:Nat):Int) -14=(c.length:Int) by omega];simp only[cg,aV];by_cases h:(c.length:Int)=65519
 ·simp[h]
 ·have e1:¬((c.length:Int)<1):=by omega
  have e3:(((0:Nat):Int)=ag IntKind.i64 (Int.sub 1 1)):=rfl;simp only[h,e1,(show((c.length:Int)<65519) from by omega),bF,aW,gh,aD,aF];rw[fC e3,aD]
theorem akY{w:Nat}(hw:20<w){b:List UInt8}(hb:b.length<=65519):HH w (aC fw (gw b))=some (ah b,0):=by
 have hbl:∀l:List (List UInt8),∀K:Nat->Option (Value×Int),au (aC fw l) K=K l.length:=λl K=>cw fw l K;unfold HH gw;by_cases h0:b.length=0
 ·rw[ay h0,hbl,hbl,eG _ _ (by omega)];have:b=[]:=qC.1 h0;subst this;rfl
 ·rw[aq h0,hbl,hbl,eG _ _ (by omega)];have x0:∀(K:List Value->Option (Value×Int)),aI 1 0 (aC fw [fL++1::1::b]) K=K (fw (fL++1::1::b)++([].flatMap fw)):=λK=>bt (k:=1) (λ_=>rfl) (m:=0) (by show 0<1;omega) K;have hl:(fL++1::1::b).length=b.length+14:=by rw[aS];show 12+_=_;simp;omega
  have e1:¬((Int.ofNat (fL++1::1::b).length)<14):=by rw[bU];omega
  have e14:14<=(fL++1::1::b).length:=by omega
  rw[show(0:Int)=((0:Nat):Int) from rfl,bR,x0];rw[show fw (fL++1::1::b)++([].flatMap fw)=[ah (fL++1::1::b)] from rfl];simp only[aZ];rw[cN];simp only[aV,e1,aF];rw[hbl,show Int.ofNat [fL++1::1::b].length=1 from rfl,ajd (by omega) hb];rw[cN];simp only[gq,e14,aW,aD];rw[nv _ (aM _),fg (by rw[eU];omega),show(fL++1::1::b).drop 14=b from rfl,iC,iL,gB];have hr1:aE b.length=true:=by simp;omega
  rw[hr1];rw[show ag IntKind.i64 (Int.add ((0:Nat):Int) 1)=1 from rfl,eG _ _ (by omega)];simp;rw[oo]
def zd(m:Int)(p:List UInt8->Bool):List bK->Bool
 |[]=>false
 |s::_=>decide (s.bW=m)&&p s.data
theorem oI{β:Type}(s:bK)(r:List bK)(K:List Value->Option β):aI 3 0 (dJ (s::r)) K=K (cO s++r.flatMap cO):=bt jL (by simp) K
theorem F1{β:Type}(s:bK)(r:List bK)(K:Value->Option β):gR 3 1 (s::r).length (dJ (s::r)) K=K (dJ r):=by rw[show dJ (s::r)=aC cO (s::r) from rfl,uR jL _ (aM _),fg (by simp)];rfl
theorem sk{β:Type}(l:List bK)(K:Nat->Option β):au (dJ l) K=K l.length:=cw cO l K
theorem akS{w:Nat}{m:Int}{s:bK}{r:List bK}(h1:s.bW=m)(h2:nA.isPrefixOf s.data=true)(x2:Int)(x3 x4 x5 x6 x7 x8 x9 x10 x11 x12:Value)(x13 x14:Int):HF w m (dJ (s::r)) x2 x3 x4 x5 x6 x7 x8 x9 x10 x11 x12 x13 x14=some (ah s.data,true,dJ r,x2,x3,x4,x5,x6,x7,x8,x9,x10,x11,x12,x13,x14):=by
 have e1:aj (Int.ofNat (s::r).length) 0=false:=by rw[cg,gM,bU,bX];omega
 have e2:1<=(s::r).length:=by rw[bX];omega
 have c2:∀q:List Value,cO s++q=.int .i64 s.bW::ah s.data::ah s.scan::q:=λ_=>rfl;unfold HF tS;rw[sk,e1,oI,(show∀q:List Value,List.drop 0 (cO s++q)=.int .i64 s.bW::ah s.data::ah s.scan::q fromλ_=>rfl)];simp only[aZ,bE];rw[h1,show aj m m=true by rw[cg,bZ],oI,(show∀q:List Value,List.drop 1 (cO s++q)=ah s.data::ah s.scan::q fromλ_=>rfl)];simp only[aZ];rw[Yp,h2];simp only[aB,bJ,aF];rw[oI,c2];simp only[aZ,bE];rw[sk];simp only[gq,aM,e2,aW,jA,aD];rw[F1]
theorem akP{w:Nat}{m:Int}{s:bK}{r:List bK}(h1:s.bW=m)(h2:gz.isPrefixOf s.data=true)(x2:Int)(x3 x4 x5 x6 x7 x8 x9 x10 x11 x12:Value)(x13 x14:Int):yR w m (dJ (s::r)) x2 x3 x4 x5 x6 x7 x8 x9 x10 x11 x12 x13 x14=some (ah s.data,true,dJ r,x2,x3,x4,x5,x6,x7,x8,x9,x10,x11,x12,x13,x14):=by
 have e1:aj (Int.ofNat (s::r).length) 0=false:=by rw[cg,gM,bU,bX];omega
 have e2:1<=(s::r).length:=by rw[bX];omega
 have c2:∀q:List Value,cO s++q=.int .i64 s.bW::ah s.data::ah s.scan::q:=λ_=>rfl;unfold yR tS;rw[sk,e1,oI,(show∀q:List Value,List.drop 0 (cO s++q)=.int .i64 s.bW::ah s.data::ah s.scan::q fromλ_=>rfl)];simp only[aZ,bE];rw[h1,show aj m m=true by rw[cg,bZ],oI,(show∀q:List Value,List.drop 1 (cO s++q)=ah s.data::ah s.scan::q fromλ_=>rfl)];simp only[aZ];rw[O1,h2];simp only[aB,bJ,aF];rw[oI,c2];simp only[aZ,bE];rw[sk];simp only[gq,aM,e2,aW,jA,aD];rw[F1]
theorem akO{w:Nat}{m:Int}{l:List bK}(h:zd m (λd=>gz.isPrefixOf d) l=false)(x2:Int)(x3 x4 x5 x6 x7 x8 x9 x10 x11 x12:Value)(x13 x14:Int):yR w m (dJ l) x2 x3 x4 x5 x6 x7 x8 x9 x10 x11 x12 x13 x14=some (ae 0 [],false,dJ l,x2,x3,x4,x5,x6,x7,x8,x9,x10,x11,x12,x13,x14):=by
 unfold yR tS;rw[sk];cases l with
 |nil=>rfl
 |cons s r=>
  have h:(decide (s.bW=m)&&gz.isPrefixOf s.data)=false:=h;rw[(show aj (Int.ofNat (s::r).length) 0=false from by rw[cg,gM,bU,bX];omega),aF,oI,(show∀q:List Value,List.drop 0 (cO s++q)=.int .i64 s.bW::ah s.data::ah s.scan::q fromλ_=>rfl)];simp only[aZ,bE,cg];by_cases hm:s.bW=m
  ·rw[fC hm,eJ] at h;rw[oI,(show∀q:List Value,List.drop 1 (cO s++q)=ah s.data::ah s.scan::q fromλ_=>rfl)];simp;rw[O1,h];simp
  ·rw[gk hm,gh,aD]
theorem akR{w:Nat}{m:Int}{s:bK}{r:List bK}(h1:s.bW=m)(h2:fL.isPrefixOf s.data=true)(x2:Int)(x3 x4 x5 x6 x7 x8 x9 x10 x11 x12:Value)(x13 x14:Int):uf w m (dJ (s::r)) x2 x3 x4 x5 x6 x7 x8 x9 x10 x11 x12 x13 x14=some (ah s.data,true,dJ r,x2,x3,x4,x5,x6,x7,x8,x9,x10,x11,x12,x13,x14):=by
 have e1:aj (Int.ofNat (s::r).length) 0=false:=by rw[cg,gM,bU,bX];omega
 have e2:1<=(s::r).length:=by rw[bX];omega
 have c2:∀q:List Value,cO s++q=.int .i64 s.bW::ah s.data::ah s.scan::q:=λ_=>rfl;unfold uf tS;rw[sk,e1,oI,(show∀q:List Value,List.drop 0 (cO s++q)=.int .i64 s.bW::ah s.data::ah s.scan::q fromλ_=>rfl)];simp only[aZ,bE];rw[h1,show aj m m=true by rw[cg,bZ],oI,(show∀q:List Value,List.drop 1 (cO s++q)=ah s.data::ah s.scan::q fromλ_=>rfl)];simp only[aZ];rw[NM,h2];simp only[aB,bJ,aF];rw[oI,c2];simp only[aZ,bE];rw[sk];simp only[gq,aM,e2,aW,jA,aD];rw[F1]
theorem akQ{w:Nat}{m:Int}{l:List bK}(h:zd m (λd=>fL.isPrefixOf d) l=false)(x2:Int)(x3 x4 x5 x6 x7 x8 x9 x10 x11 x12:Value)(x13 x14:Int):uf w m (dJ l) x2 x3 x4 x5 x6 x7 x8 x9 x10 x11 x12 x13 x14=some (ae 0 [],false,dJ l,x2,x3,x4,x5,x6,x7,x8,x9,x10,x11,x12,x13,x14):=by
 unfold uf tS;rw[sk];cases l with
 |nil=>rfl
 |cons s r=>
  have h:(decide (s.bW=m)&&fL.isPrefixOf s.data)=false:=h;rw[(show aj (Int.ofNat (s::r).length) 0=false from by rw[cg,gM,bU,bX];omega),aF,oI,(show∀q:List Value,List.drop 0 (cO s++q)=.int .i64 s.bW::ah s.data::ah s.scan::q fromλ_=>rfl)];simp only[aZ,bE,cg];by_cases hm:s.bW=m
  ·rw[fC hm,eJ] at h;rw[oI,(show∀q:List Value,List.drop 1 (cO s++q)=ah s.data::ah s.scan::q fromλ_=>rfl)];simp;rw[NM,h];simp
  grind
theorem akV{w:Nat}(cs:List (List UInt8))(hcs:∀c∈cs,fL.isPrefixOf c=true)(hl:cs.length<1000)(hw:2000<w){r:List bK}(h:zd 226 (λd=>fL.isPrefixOf d) r=false)(x1:Int)(x2 x3 x4 x5 x6 x7 x8 x9 x10 x11:Value)(x12 x13:Int):
 yS w (dJ (cs.map (λc=>⟨226,c,[]⟩)++r)) x1 x2 x3 x4 x5 x6 x7 x8 x9 x10 x11 x12 x13=some (dJ r,x1,x2,x3,x4,x5,x6,x7,x8,x9,x10,x11,x12,x13,cs.flatMap fw):=by
 obtain⟨tk,htk⟩:∃tk:List (List UInt8)->Value×Bool×Value×Int×Value×Value×Value×Value×Value×Value×Value×Value×Value×Value×Int×Int,tk=λl=>match l with
  |[]=>(ae 0 [],false,dJ r,x1,x2,x3,x4,x5,x6,x7,x8,x9,x10,x11,x12,x13)
  |c::l=>(ah c,true,dJ (l.map (λc=>(⟨226,c,[]⟩:bK))++r),x1,x2,x3,x4,x5,x6,x7,x8,x9,x10,x11,x12,x13):=⟨_,rfl⟩
 have ht:∀l:List (List UInt8),(∀c∈l,fL.isPrefixOf c=true)->uf w 226 (dJ (l.map (λc=>(⟨226,c,[]⟩:bK))++r)) x1 x2 x3 x4 x5 x6 x7 x8 x9 x10 x11 x12 x13=some (tk l):=by
  intro l hl;rw[htk];cases l with
  |nil=>exact akQ h _ _ _ _ _ _ _ _ _ _ _ _ _
  |cons c l=>have:=akR (w:=w) (s:=⟨226,c,[]⟩) (r:=l.map (λc=>(⟨226,c,[]⟩:bK))++r) rfl (hl c nT) x1 x2 x3 x4 x5 x6 x7 x8 x9 x10 x11 x12 x13;exact this
 unfold yS;rw[ht cs hcs];refine nG (ev:=λi _ (g:Value->Bool->Value->Int->Value->Value->Value->Value->Value->Value->Value->Value->Value->Value->Int->Int->List Value->Option (Value×Int×Value×Value×Value×Value×Value×Value×Value×Value×Value×Value×Int×Int×List Value))=>g (tk (cs.drop i)).1 (tk (cs.drop i)).2.1 (tk (cs.drop i)).2.2.1 (tk (cs.drop i)).2.2.2.1 (tk (cs.drop i)).2.2.2.2.1 (tk (cs.drop i)).2.2.2.2.2.1 (tk (cs.drop i)).2.2.2.2.2.2.1 (tk (cs.drop i)).2.2.2.2.2.2.2.1 (tk (cs.drop i)).2.2.2.2.2.2.2.2.1 (tk (cs.drop i)).2.2.2.2.2.2.2.2.2.1 (tk (cs.drop i)).2.2.2.2.2.2.2.2.2.2.1 (tk (cs.drop i)).2.2.2.2.2.2.2.2.2.2.2.1 (tk (cs.drop i)).2.2.2.2.2.2.2.2.2.2.2.2.1 (tk (cs.drop i)).2.2.2.2.2.2.2.2.2.2.2.2.2.1 (tk (cs.drop i)).2.2.2.2.2.2.2.2.2.2.2.2.2.2.1 (tk (cs.drop i)).2.2.2.2.2.2.2.2.2.2.2.2.2.2.2 ((cs.take i).flatMap fw)) (Inv:=λ_ _=>True) cs.length () trivial ?_ ?_ (by omega)
 ·intro i g _ hi _;refine⟨(),trivial,?_⟩;have hfl:((cs.take i).flatMap fw).length=i:=by
   rw[cS (k:=1) (λ_=>rfl),dk,lC (by omega),gB]
  simp only[(show tk (cs.drop i)=(ah cs[i],true,dJ ((cs.drop (i+1)).map (λc=>(⟨226,c,[]⟩:bK))++r),x1,x2,x3,x4,x5,x6,x7,x8,x9,x10,x11,x12,x13) from by rw[(dw hi),htk])];rw[hfl,(show aE i=true from by simp;omega),ht _ (λc hc=>hcs c (qD hc)),iI hi,ft];rfl
 ·intro g _ _;simp_all
theorem akW{w:Nat}(r:List bK)(hl:r.length<2^40)(hw:r.length<w)(h:∀s∈r,pV s.bW=false)(x1:Int)(x2 x3 x4 x5 x6 x7 x8 x9 x10 x11:Value)(x12 x13:Int):
 O5 w (dJ r) x1 x2 x3 x4 x5 x6 x7 x8 x9 x10 x11 x12 x13=some (false,dJ r,x1,x2,x3,x4,x5,x6,x7,x8,x9,x10,x11,x12,x13):=by
 refine gS (ev:=λi (g:Value->Int->Int->Value->Int->Value->Value->Value->Value->Value->Value->Value->Value->Value->Value->Int->Int->Option (Bool×Value×Int×Value×Value×Value×Value×Value×Value×Value×Value×Value×Value×Int×Int))=>g (dJ r) r.length i (dJ r) x1 x2 x3 x4 x5 x6 x7 x8 x9 x10 x11 x12 x13) r.length ?_ ?_ hw
 ·intro i g hi;have c2:∀(s:bK)(q:List Value),cO s++q=.int .i64 s.bW::ah s.data::ah s.scan::q:=λ_ _=>rfl;have ha:=h _ (cy hi);unfold pV at ha;simp;rw[show dJ r=aC cO r from rfl,bt jL hi,aN (by omega) (by omega)];simp_all
 simp
noncomputable def TA(w:Nat)(aT q:Value)(a1:Int)(a2 a3 a4 a5 a6 a7 a8 a9 a10 a11:Value)(a12 a13:Int):Option (Int×Value×Value×Value×Value×Value×Value×Value×Value×Value×Value×Int×Int×Int):=
 ob (yS w q a1 a2 a3 a4 a5 a6 a7 a8 a9 a10 a11 a12 a13) λx=>Bo w x (aT,true,q,0,q,q,q,q,q,q,q,q,q,q,0,0)
theorem acV{w m:Nat}(A:Hand w){aT:List UInt8}{cs:List (List UInt8)}{r:List bK}{core:List UInt8}{cj:List UInt8}(hcs:cs=gw cj)(hicc:cj.length<=65519)
 (hm:m<2^26) (hw:2*m+200000<w) (hr:∀s∈r,pV s.bW=false) (hr1:r.length≠0) (hcore:nu core=true) (hcw:cX (⟨216,[],[]⟩::r)=core) (hmay:mL (⟨216,[],[]⟩::r)=true) (hseg:wO (⟨216,[],[]⟩::r) m) (hlen:r.length<=m) (hcl:core.length<=m)
 {o:Int} {b1 b2 b3 b4 b5 b6 b7:Value} (h60:yT w (ah aT)=some (o,b1,b2,b3,b4,b5,b6,b7,0)) (a1:Int) (a2 a3 a4 a5 a6 a7 a8 a9 a10 a11:Value) (a12 a13:Int):
 TA w (ah aT) (dJ (cs.map (λc=>(⟨226,c,[]⟩:bK))++r)) a1 a2 a3 a4 a5 a6 a7 a8 a9 a10 a11 a12 a13=some (o,b1,b2,b3,b4,b5,b6,b7,ah cj,ah core,a11,a12,a13,0):=by
 have hq:zd 226 (λd=>fL.isPrefixOf d) r=false:=by
  cases r with
  |nil=>rfl
  |cons s r=>have:=hr s nT;unfold pV at this;rw[gM] at this;show(decide (s.bW=226)&&_)=false;rw[gk (by omega)];rfl
 have hpre:∀c∈cs,fL.isPrefixOf c=true:=by
  intro c hc;rw[hcs] at hc;unfold gw at hc;split at hc
  ·cases hc
  ·rw[nV.1 hc,qB];exact sK _ _
 have hchl:cs.length<=1:=by rw[hcs];unfold gw;split<;>simp
 have e0:aj 0 0=true:=rfl;unfold TA Bo yc FN;rw[akV cs hpre (by omega) (by omega) hq];simp only[aB];rw[akW r (by omega) (by omega) hr];rw[h60];have hcv:ae ((cs.flatMap fw).length/1) (cs.flatMap fw)=aC fw (gw cj):=by rw[cS (k:=1) (λ_=>rfl),lA,gB,hcs];rfl
 rw[hcv,akY (by omega) hicc];simp only[aB,e0,bJ,aF];rw[show dJ r=aC cO r from rfl,Al jL,cS jL];have e1:(1+r.length).ble 1=false:=by rw[gq,gM];omega
 have r2:aE r.length=true:=by simp;omega
 have hn:=nextslicecap_le (need:=1+r.length) (old:=1) (by omega);have r3:(Builtin.nextslicecap (1+r.length) 1).ble 5000000000=true:=by rw[iV];omega
 rw[e1,r2,r3];rw[show List.take 3 (List.drop 0 [Value.int IntKind.i64 216,ae 0 [],ae 0 []])++r.flatMap cO=(⟨216,[],[]⟩::r:List bK).flatMap cO from rfl,Xk,Yo A _ (by omega) hseg (by rw[bX];omega) ⟨by rw[bX];omega,by omega,by omega⟩ hmay (by rw[hcw];omega),hcw];simp;rw[O0 core (by omega) (by omega),hcore];rfl
theorem ahQ{sh:List bc}{s:Nat}{d:aU}(h:cK sh s d=true):Db d:=by
 rintro tags subs blob rfl
 simp only[cK,kh] at h
 grind
theorem ahR{sh:List bc}{s:Nat}{tags:List aK}{subs:cI}{blob:List UInt8}(h:cK sh s (.mk tags subs blob)=true):∀p∈aP subs,Db p.2 :=by simp[cK] at h;intro p hp;exact ahQ (Ko h.2.2.2.2 p hp).2
theorem jC.more{x:dr}{m k:Nat}(h:jC x m)(hk:m<=k):jC x k:=by obtain⟨⟨r0,r2,r3,r4,r1⟩,d0,d2,d3,d4,d1,hmk,hth⟩:=h;exact⟨⟨by omega,by omega,by omega,by omega,by omega⟩,λt ht=>by have:=d0 t ht;omega,λt ht=>by have:=d2 t ht;omega,λt ht=>by have:=d3 t ht;omega,λt ht=>by have:=d4 t ht;omega,λt ht=>by have:=d1 t ht;omega,by omega,by omega⟩
theorem ZA{w:Nat}(W:dC w){x:dr}{b:List UInt8}(h:iK x=.ok b)(hx:jC x 9000)(hw:800000<w):yT w (ah b)=some (x.order,aw x.cn,aw x.bD,aw x.bM,aw x.bm,aw x.first,ah x.bC,ah x.cH,0):=by
 have hr:=hx.rows;obtain⟨-,-,hp2,hp3,hp4⟩:=Dh h (by unfold qX at hr⊢;omega);have hce:iM x=0:=by unfold iK at h;split at h<;>grind
 have TR:=DN W hx hce;have hl:(eC (eS x) db).length<=65533:=by rw[hp3,aS] at hp2;omega
 obtain⟨-,k1,k2,-⟩:=YX hx (by decide);have hsp:=CA (eS x).dG 0 8 TR.hd;have hsp3:(ff (eS x)).length=(jz 0 8 (eS x).dG).length+1:=rfl;have h114:=ajc W.hand (by omega) (by omega) (NP (b:=eC (eS x) db) (by omega) (by omega) JT (λs hs=>by have:=Ro s hs;omega) (by decide) (by decide) TR.tz (S:=ff (eS x)) (by omega) (by rw[hp4];rfl)) TR.check (by rw[alP];exact TQ hce) (hx.more (by omega)) TR.iD TR.hd (λd hd tags subs blob he p hp=>by obtain⟨s,hs⟩:=Km TR.hh d hd;rw[he] at hs;exact ahR hs p hp);exact akX hp3 hp2 h114
theorem aaf{core:List UInt8}{r:List bK}(c4:cX (⟨216,[],[]⟩::r)=core)(hmay:mL (⟨216,[],[]⟩::r)=true):wO (⟨216,[],[]⟩::r) core.length:=by
 intro s hs;rcases cQ.1 hs with rfl|hs2
 ·simp
 ·have h1:=NA hs;by_cases ha:ja s.bW=true
  ·obtain⟨-,-,q,-⟩:=PH hmay hs
   grind
  ·unfold cV at h1
   grind
theorem RZ{x:oS}{aT:List UInt8}{r:List bK}(c2:Dv x.core=⟨216,[],[]⟩::r)(c4:cX (⟨216,[],[]⟩::r)=x.core):(fm x aT).length<=100+aT.length+x.cM.length+x.cj.length+x.core.length:=by
 have e:fm x aT=cV ⟨216,[],[]⟩++(cV ⟨225,aT,[]⟩++(cX (if x.cM.length=0 then[] else[⟨226,x.cM,[]⟩])++(cX ((gw x.cj).map (λc=>⟨226,c,[]⟩))++cX r))):=by unfold fm ky;rw[c2];simp[cX]
 have k1:(cV ⟨216,[],[]⟩).length=2:=rfl;have k2:(cV ⟨225,aT,[]⟩).length<=aT.length+4:=by unfold cV;split<;>simp<;>omega
 have k3:(cX (if x.cM.length=0 then[] else[⟨226,x.cM,[]⟩])).length<=x.cM.length+4:=by
  split
  ·simp[cX]
  ·simp[cX];unfold cV;split<;>simp<;>omega
 have k4:(cX ((gw x.cj).map (λc=>⟨226,c,[]⟩))).length<=x.cj.length+30:=by
  unfold gw;split
  ·simp[cX]
  ·simp[cX];unfold cV;split<;>simp[fL]<;>omega
 have k5:(cX r).length<=x.core.length:=by have:=bT List.length c4;rw[mw,aS] at this;omega
 simp_all;omega
theorem Z5(w:Nat)(l:List UInt8)(hl:l.length<=1000000000):HG w (ah l)=some (ah l):=by
 unfold HG;rw[cN];by_cases h:l.length=0
 ·have:l=[]:=qC.1 h;subst this;rfl
 ·have e1:Nat.beq l.length 0=false:=by
   rw[Bool.eq_false_iff];intro q;exact h (bV q)
  rw[e1];have hn:=nextslicecap_le (need:=0+l.length) (old:=0) (by omega);have e5:(0+l.length).ble 0=false:=by rw[gq,gM];omega
  have e6:Nat.blt 0 l.length=true:=by rw[mE,bZ];omega
  have r1:aE l.length=true:=by simp;omega
  unfold O4 FO;rw[cN,e6,iC,iL,e5,r1,(show(Builtin.nextslicecap (0+l.length) 0).ble 5000000000=true from by rw[iV];omega)];simp;rw[oo]
theorem X7{w m:Nat}(y:List UInt8)(hy:y.length<2^26)(W:dC w){x:oS}{aT:List UInt8}(h:zt x aT)(hx:jC x.aG 9000)(hm:m<2^24)(hc:x.core.length<=m/\x.cj.length<=m/\x.cM.length<=m)(hw:2*m+800000+y.length<w):
 vR w (ah (fm x aT++y))=some (x.aG.order,aw x.aG.cn,aw x.aG.bD,aw x.aG.bM,aw x.aG.bm,aw x.aG.first,ah x.aG.bC,ah x.aG.cH,ah x.cj,ah x.core,ah x.cM,if x.cM.length=0 then 0 else((aT.length+10:Nat):Int),((fm x aT).length:Int),0):=by
 have hb:=W.ku;have hA:=W.hand;obtain⟨-,hp1,hp2,hp3,hp4⟩:=Dh h.app h.rows;have hrd:ofM (fm x aT++y)=.ok (ky x aT) (fm x aT).length:=ac7 (Sa h.core hp2 h.cj (by rcases h.cM with q|q;omega;exact q.2)) y;obtain⟨r,c1,c2,c3,c4,c5,c6⟩:=Dw h.core;have hrl:r.length<=x.core.length:=by simpa using(Ey _ _ _ _ _ _ c1)
 have hmayC:mL (⟨216,[],[]⟩::r)=true:=by show(true&&ju r)=true;rw[c3];rfl
 have hr0:r.length≠0:=by obtain⟨s,hs,_⟩:=c5;intro q;rw[qC.1 q] at hs;cases hs
 have h60:=ZA W h.app hx (by omega);have himl:=RZ (aT:=aT) c2 c4;have hi3:=h.cj;have htail:=λq=>acV (m:=m) hA (aT:=aT) (cs:=gw x.cj) (r:=r) (core:=x.core) (cj:=x.cj) rfl h.cj (by omega) (by omega) c6 hr0 h.core c4 hmayC (λs hs=>by have:=aaf c4 hmayC s hs;omega) (by omega) (by omega) h60 0 (ae 0 []) (ae 0 []) (ae 0 []) (ae 0 []) (ae 0 []) (ae 0 []) (ae 0 []) (ae 0 []) (ae 0 []) q;have hL:ky x aT=⟨216,[],[]⟩::⟨225,aT,[]⟩::((if x.cM.length=0 then[] else[⟨226,x.cM,[]⟩])++((gw x.cj).map (λc=>⟨226,c,[]⟩)++r)):=by unfold ky;rw[c2];rfl
 unfold vR yc Bo FN;rw[O2 _ (by rw[aS];omega) (by rw[aS];omega),hrd];simp only[aB,(rfl),bJ,aF];rw[hL,sk];have hbl:∀(s:bK)(l:List bK),((s::l).length.ble (s::l).length&&Nat.ble 1 (s::l).length)=true:=by intro s l;rw[gq,gq,fC (aM _),fC (by rw[bX];omega)];rfl
 rw[hbl,aD,F1,akS (s:=⟨225,aT,[]⟩) rfl hp1];simp only[aB,bJ,aF];by_cases hmp:x.cM.length=0
 ·rw[ay hmp,ay hmp,fA];have hno:zd 226 (λd=>gz.isPrefixOf d) ((gw x.cj).map (λc=>(⟨226,c,[]⟩:bK))++r)=false:=by
   unfold gw;split
   ·show zd 226 _ r=false;cases r with
    |nil=>rfl
    |cons s r=>have:=c6 s nT;unfold pV at this;rw[gM] at this;show(decide (s.bW=226)&&_)=false;rw[gk (by omega)];rfl
   ·rfl
  rw[akO hno];have:x.cM=[]:=qC.1 hmp;rw[this];exact htail (ae 0 []) 0 ((fm x aT).length:Int)
 ·rw[aq hmp,aq hmp];obtain⟨m1,m2⟩:=h.cM.resolve_left hmp;rw[show[⟨226,x.cM,[]⟩]++((gw x.cj).map (λc=>⟨226,c,[]⟩)++r)=(⟨226,x.cM,[]⟩:bK)::((gw x.cj).map (λc=>⟨226,c,[]⟩)++r) from rfl,akP (s:=⟨226,x.cM,[]⟩) rfl m1];simp only[aB,aD];rw[Z5 w _ (by omega)];simp only[aB];rw[cN,cc,cc,bU,aN (n:=(6:Int)+(aT.length:Int)) (by omega) (by omega),aN (by omega) (by omega),show(6:Int)+(aT.length:Int)+4=((aT.length+10:Nat):Int) by omega];exact htail (ah x.cM) ((aT.length+10:Nat):Int) ((fm x aT).length:Int)
theorem akb{w m:Nat}(W:dC w){x:oS}{aT:List UInt8}(h:zt x aT)(hx:jC x.aG 9000)(hm:m<2^24)(hc:x.core.length<=m/\x.cj.length<=m/\x.cM.length<=m)(hw:2*m+800000<w):
 vR w (ah (fm x aT))=some (x.aG.order,aw x.aG.cn,aw x.aG.bD,aw x.aG.bM,aw x.aG.bm,aw x.aG.first,ah x.aG.bC,ah x.aG.cH,ah x.cj,ah x.core,ah x.cM,if x.cM.length=0 then 0 else((aT.length+10:Nat):Int),((fm x aT).length:Int),0):=by
 have:=X7 [] (by decide) W h hx hm hc (by simpa using hw);rwa[dW] at this
def fq(p:cP):List Value:=[.int .i64 p.attr,.int .i64 p.size,.int .i64 p.at_,.int .i64 p.dY,.int .i64 p.dZ]
theorem nL(p:cP):(fq p).length=5:=rfl
def dQ(l:List cP):Value:=aC fq l
theorem A9{w:Nat}(hw:8<=w)(n:Int){o:Int}(ho:o=1\/o=2):im w n 4 o=some (if 0<=n/\n<4294967296 then(ah (aY n.toNat 4 o),true) else(ae 0 [],false)):=by
 rw[su hw,ay (by rcases ho with rfl|rfl<;>rfl),show(4:Int).toNat=4 from rfl,Mh]
 grind
theorem vz{w:Nat}(hw:8<=w)(n:Int){o:Int}(ho:o=1\/o=2):im w n 2 o=some (if 0<=n/\n<65536 then(ah (aY n.toNat 2 o),true) else(ae 0 [],false)):=by
 rw[su hw,ay (by rcases ho with rfl|rfl<;>rfl),show(2:Int).toNat=2 from rfl,show pA n 2 o=if 0<=n/\n<65536 then some (aY n.toNat 2 o) else none from rfl]
 grind
theorem Fp(l:List UInt8)(hl:l.length<=100):(aE l.length&&(l.map bg).length.beq (l.length*1))=true:=by rw[(show aE l.length=true from by simp;omega),cZ,gB,mX];rfl
theorem Fq(X:List Value)(l:List UInt8)(hX:X.length<=100)(hl:l.length<=100):(aE X.length&&(aE l.length&&(l.map bg).length.beq (l.length*1)))=true:=by rw[(show aE X.length=true from by simp;omega),Fp l hl];rfl
theorem N3{w:Nat}(hw:8<=w)(p:cP){o:Int}(ho:o=1\/o=2):GG w p.attr p.size p.at_ p.dY p.dZ o=some (if kC p=true then(ah (eI o p),true) else(ae 0 [],false)):=by
 unfold GG B8 kY;simp only[aB];unfold kC;rw[A9 hw _ ho];by_cases h1:0<=p.attr/\p.attr<4294967296
 case neg=>rw[aq h1,aq (by simp only[bZ];exactλq=>h1 q.1)];rfl
 rw[ay h1];simp only[aB,aF];rw[iC,iL,Fp _ (by rw[eB];omega),A9 hw _ ho];by_cases h2:0<=p.size/\p.size<4294967296
 case neg=>rw[aq h2,aq (by simp only[bZ];exactλq=>h2 q.2.1)];rfl
 rw[ay h2];simp only[aB,aF];rw[iC,iL,Fq _ _ (by simp[eB]) (by rw[eB];omega),A9 hw _ ho];by_cases h3:0<=p.at_/\p.at_<4294967296
 case neg=>rw[aq h3,aq (by simp only[bZ];exactλq=>h3 q.2.2.1)];rfl
 rw[ay h3];simp only[aB,aF];rw[iC,iL,Fq _ _ (by simp[eB]) (by rw[eB];omega),vz hw _ ho];by_cases h4:0<=p.dY/\p.dY<65536
 case neg=>rw[aq h4,aq (by simp only[bZ];exactλq=>h4 q.2.2.2.1)];rfl
 rw[ay h4];simp only[aB,aF];rw[iC,iL,Fq _ _ (by simp[eB]) (by rw[eB];omega),vz hw _ ho];by_cases h5:0<=p.dZ/\p.dZ<65536
 case neg=>rw[aq h5,aq (by simp only[bZ];exactλq=>h5 q.2.2.2.2)];rfl
 rw[ay h5,ay (by rw[bZ];exact⟨h1,h2,h3,h4,h5⟩)];simp only[aB,aF];rw[iC,iL,Fq _ _ (by simp[eB]) (by rw[eB];omega)]
 congr 2
 rw[oo];unfold eI;simp
theorem ajF{w:Nat}(hw:100<w)(n:Nat)(hn:n<4294967296):GH w 4 (ae 1 [Value.int IntKind.i64 (n:Int)])=some (4,1,ah (eP n 4),true):=by
 unfold GH Nn;rw[yD,show kindOf 4=(4,4,1) from rfl];simp;have h211:GX w 4 (ae 1 [Value.int IntKind.i64 (n:Int)]) 4 4 1=some (4,1,true,(eP n 4).map bg):=by
  unfold GX;have hl:∀K:Nat->Option (Int×Int×Bool×List Value),au (ae 1 [Value.int IntKind.i64 (n:Int)]) K=K 1:=λ_=>rfl;rw[hl,hl,eG _ _ (by omega),show ak 0 (Int.ofNat 1)=true from rfl,show(0:Int)=((0:Nat):Int) from rfl,bR,(show∀K:List Value->Option (Int×Int×Bool×List Value),aI 1 0 (ae 1 [Value.int IntKind.i64 (n:Int)]) K=K [Value.int IntKind.i64 (n:Int)] fromλ_=>rfl)];simp only[aZ,bE];have h212:GY w 4 4 1 (n:Int)=some (ah (eP n 4),true):=by unfold GY Nq;rw[A9 (by omega) _ (.inr rfl),ay (by omega)];rfl
  rw[h212];simp only[aB];rw[iC,iL,gB,oX,aD,eG _ _ (by omega),show ag IntKind.i64 (Int.add ((0:Nat):Int) 1)=1 from rfl,show ak 1 (Int.ofNat 1)=false from rfl,aF,fA,cZ,lA,<-oo];rfl
 rw[h211];simp;rw[oo]
def VS(view:List aK):Prop:=view.length<=9000/\∀t∈view,t.data.length<=9000
theorem Zj{w:Nat}(W:dC w){o:Int}(ho:o=1\/o=2){view:List aK}(hv:VS view)(hr:cT 5 view=true)(h0:view.length≠0):oT w 10000 kN o (ga o view).dG:=by
 have hl:=hv.1;refine Py W I1 (X1 (by have:=W.ku;omega)) (by decide) (λs hs=>?_) ho (by simp[ga]) (by simp[ga]) (λd hd'=>?_) (by simp[ga,kO,fR,jU]) (by simp[ga,gX,dD,ib]) (PE hr h0 (by omega))
 ·have:s=0:=by simp[kN] at hs;omega
  rw[this];decide
 ·simp[ga] at hd';subst hd';exact⟨by omega,by show 0<=_;omega,by show 0<=_;omega,λt ht=>by have:=hv.2 t ht;omega,trivial⟩
theorem ak4{w:Nat}(W:dC w)(o:Int){view:List aK}(hv:VS view):HY w o (aw view)=some (match ru o view with| .ok b=>(ah b,0)| .error e=>(ae 0 [],e)):=by
 have hb:=W.ku;have hl:=hv.1;have hlen:∀K:Nat->Option (Value×Int),au (aw view) K=K view.length:=λK=>cw ct view K;unfold HY ru Nj;by_cases ho:o=1\/o=2
 case neg=>rw[ay (.inl ho)];rw[(show aj o 1=false from by rw[cg,gM];exactλq=>ho (.inl q)),(show aj o 2=false from by rw[cg,gM];exactλq=>ho (.inr q))];rfl
 have hrest:(au (aw view) λ(x2:Nat)=>bif aj (Int.ofNat x2) 0 then some (ae 0 [],1) else ob (nP w 5 (aw view)) λ(x3:Bool)=>bif !x3 then some (ae 0 [],6) else ob (yx w) λx4=>ob (vL w o (ae 1 (List.drop 0 [aw view,ae 0 [],ae 0 []])) x4) λx5=>some (x5.fst,x5.snd))=some (match(if¬(o=1\/o=2)\/view.length=0 then .error 1 else if cT 5 view=false then .error 6 else if 65533<4+gP (ga o view) then .error 7 else .ok (gz++eC (ga o view) kN):Except Int (List UInt8)) with| .ok b=>(ah b,0)| .error e=>(ae 0 [],e)):=by
  rw[hlen];by_cases h0:view.length=0
  ·rw[ay (.inr h0),h0];rfl
  have e1:aj (Int.ofNat view.length) 0=false:=by rw[cg,gM,bU];omega
  rw[aq (by intro q;rcases q with q|q;exact q ho;exact h0 q),e1,q8 (by omega) 5 view (by omega) (λt ht=>by have:=hv.2 t ht;omega) (by omega)]
  cases hr:cT 5 view with
  |false=>rfl
  |true=>
   have T:=Zj W ho hv hr h0;have e2:yx w=some (cq kN):=rfl;rw[e2];simp only[aB,aF];have e3:ae 1 (List.drop 0 [aw view,ae 0 [],ae 0 []])=cR (ga o view).dG:=by show _=ae 1 (cU (.mk view .nil [])++[]);rfl
   rw[e3,(XR T),show(⟨o,(ga o view).dG⟩:mC)=ga o view from rfl];by_cases h7:65533<4+gP (ga o view)
   ·rw[ay h7,ay h7];rfl
   ·rw[aq h7,aq h7];rfl
 rcases ho with rfl|rfl<;>simp_all
end Lt
end Go.Proofs.YtcfjfbeadhnknaaGreatDoor
